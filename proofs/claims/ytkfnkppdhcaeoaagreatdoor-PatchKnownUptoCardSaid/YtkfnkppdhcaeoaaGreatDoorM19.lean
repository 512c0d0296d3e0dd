/- Part 19 of the proof of coreBase. -/
import Derived.Test.YtkfnkppdhcaeoaaGreatDoorM17
set_option maxRecDepth 100000
set_option maxHeartbeats 32000000
set_option linter.all false
namespace Go.Proofs.YtkfnkppdhcaeoaaGreatDoor
open Go renaming Calls->Cl,TypeId->Ti,Value->Vl,World->Wl
open Go.Value renaming agg->nA,iface->nF,int->nI,pointer->nP,slice->nS,string->nG,tuple->nT
open Go.IntKind renaming i64->nX
open Go.Ending renaming returned->nR
open Go.Obj renaming cells->nC
open Option renaming none->nN,some->nM
section
open _root_.Go.Proofs.Tryz
open Go Go.Shelf Go.RowKit Go.Lib Tree Ptr
theorem Zs(a b:Option Addr)(n c m d:Nat)(w:Wl)(h:n≠m):Cl prog 64 #[nS a n c,nS b m d] w fun e w'=>e= nR (.bool false)/\w=w':=by
 have f:((n:Int) !=(m:Int))=true:=by rw[bne_iff_ne];omega
 go_enter func64,ntmps64
 go_wp2
 go_ret
 exact⟨rfl,rfl⟩
theorem Ax.cells{w:Wl}{F:Nat->Prop}{f:Vl}{xs:List Vl}(h:Ax w F f xs)(l:0<xs.length):∃b o c,f= nS (nM ⟨b,o,nN⟩) xs.length c/\∀i v,xs[i]? =nM v->w.cell? ⟨b,o+i,nN⟩=nM v:=by
 obtain⟨a,c,rfl,d⟩:=h.cell;obtain⟨b,o,rfl,_,_⟩:=d 0 _ (Q9 l);refine⟨b,o,c,rfl,fun i v m=> ?_⟩;obtain⟨n,p,e,_,k⟩:=d i v m
 injection e with e
 injection e with g j
 subst g;subst j;exact k
theorem Ix{F G:Nat->Prop}(ks f:List BY)(sk s:Vl)(w:Wl)(n:Ax w F sk (Ad ks))(o:Ax w G s (Ad f))(H:ks.length<=4294967296)(E:f.length<=4294967296):
  Cl prog 64 #[sk,s] w fun e w'=>e= nR (.bool (decide (ks=f)))/\∃q,w'=w.drewN q:=by
 obtain⟨a,c,rfl,_⟩:=n.cell;obtain⟨b,d,rfl,_⟩:=o.cell;rw[Ao]at n o|-;rw[Ao];by_cases p:ks.length=f.length
 .by_cases v:ks.length=0
  .have g:ks=[]:=List.eq_nil_of_length_eq_zero v
   have i:f=[]:=List.eq_nil_of_length_eq_zero Zj;subst g;subst i;have:=Any.slices_Equal_string_empty b9 a b c 0 d w Zj;exact this.mono fun e w' h=>⟨by rw[h.1];rfl,0,h.2⟩
  .obtain⟨t,z,c1,g,x⟩:=Ax.cells n (by rw[Ao];omega)
   obtain⟨u,A,B,i,y⟩:=Ax.cells o (by rw[Ao];omega)
   injection g with g _ C
   injection i with i _ D
   subst g;subst i
   have r:∀(l:List BY) (j:Nat),j<l.length->(Ad l)[j]? =nM (nG (l.getD j ByteArray.empty)):=fun l j k=>by
    simp[Ad,k]
   have m:=Any.slices_Equal_string b9 t z ks.length c u A f.length d ks f w (Q8 _) (Q8 _) Zj Zj (fun j k=>x j _ (r ks j k)) (fun j k=>y j _ (r f j k));rw[Qn (Q8 _),Qn (Q8 _)]at m;change Cl prog 64 _ _ _ at m;exact m
 .refine(Zs a b ks.length c f.length d w p).mono ?_
  rintro e w' ⟨rfl,rfl⟩;exact⟨by rw[decide_eq_false (fun h=>p (by rw[h]))],0,rfl⟩
end
section
open _root_.Go.Proofs.Tryz
open Go Go.Shelf Go.RowKit Go.Lib Tree
theorem WM(s:Ap)(c d:Vl)(w:Wl)(j l:Nat->Prop)(a:Ax w j c (Ad s.keys))(g:Ax w l d (Ad s.keys))(n:∀k,j k->k<w.heap.size)(o:∀k,l k->k<w.heap.size)(i:s.keys.length<=4294967296):
  Cl prog 39 #[nA (AI s c).toArray,nA (AI s d).toArray] w fun e w'=>e= nR (.bool true)/\Chg w w' []:=by
 have f:=UD (∀b,Chg w b []->Cl prog 64 #[c,d] b fun e w'=>e= nR (.bool true)/\Chg b w' []) fun b r=>by
  refine(Ix s.keys s.keys c d b (a.kept (r.keepsF n) (fun _ h=>h)) (g.kept (r.keepsF o) (fun _ h=>h)) i i).mono ?_;rintro e w' ⟨rfl,q,rfl⟩;exact⟨by rw[decide_eq_true rfl],(Chg.refl b []).drewN q⟩
 obtain⟨m,c1,rfl,_⟩:=a.cell;obtain⟨v,x,rfl,_⟩:=g.cell;rw[Ao]at f|-;have u:=UD (Ac ((w.alloc (nC (AI s (nS m s.keys.length c1)).toArray 72)).alloc (nC (AI s (nS v s.keys.length x)).toArray 72)) w.heap.size (AI s (nS m s.keys.length c1)) 72) ((Ac.new w _ _).alloc _);obtain⟨B,p⟩:=Ue s.keys.length
 rw[<-p]at f u|-;clear a g i p n o;obtain⟨C,A,y,D,z,ks⟩:=s;unfold AI at*
 dsimp only at*
 go_enter func39,ntmps39
 go_wp2_with((go_at_call 64;refine(f.o _ (by exact cg cR)).mono ?_;rintro e E ⟨rfl,a⟩;have t:=hZ a;clear a))
 go_ret
 exact⟨rfl,ct cR t.o⟩
end
section
open _root_.Go.Proofs.Tryz
open Go Go.Shelf Go.RowKit Go.Lib Tree Ptr
def BU(b:Bool)(w:Wl)(e:Ending)(w':Wl):Prop:=e= nR (.bool b)/\Chg w w' []
theorem Sd{l m:List Tr}(h:l≠m):ER l m=false:=by
 cases a:ER l m with
 |false=>rfl
 |true=>exact absurd ((Gq l m).1 a) h
theorem Vy{l m:List Tr}(h:l=m):ER l m=true:=(Gq l m).2 h
theorem XI{l m:Tr}(h:l≠m):BQ l m=false:=by
 cases a:BQ l m with
 |false=>rfl
 |true=>exact absurd ((KG l m).1 a) h
theorem Vz{l m:Tr}(h:l=m):BQ l m=true:=(KG l m).2 h
theorem RC(l m:List Tr)(vs us:List Vl)(fs gs:List Nat)(a b:Option Addr)(c d:Nat)(w:Wl)(F:AK w (nS a vs.length c) 95 vs)(G:AK w (nS b us.length d) 95 us)(p:PsAt w l vs fs)(q:PsAt w m us gs)(Z:l.length<=65536)(C:∀t s v u E D w',t∈l->s∈m->AP w' t v E->AP w' s u D->Cl prog 171 #[v,u] w' (BU (BQ t s) w')):
  Cl prog 205 #[nS a vs.length c,nS b us.length d,.func (.func 171) #[] #[]] w (BU (ER l m) w):=by
 have M:=p.length;have L:=q.length;by_cases x:l.length=m.length
 .have H:us.length=vs.length:=by omega
  rw[H];have ab:((vs.length:Int) !=(vs.length:Int))=false:=Zh
  have ae:vs.length<=65536:=Zj
  have W:=hZ M;have V:=hZ L;have P:=hZ x;have O:=hZ H;have R:=hZ F;have S:=hZ G;have HP:=hZ p;have HQ:=hZ q;have HI:=hZ C;clear F G p q C M L x H Z;go_enter func205,ntmps205
  go_wp2_with fail
  go_loopw [17] (fun N wr=>∃k:Nat,k<=vs.length/\N= nI nX k/\(∀j,j<k->l[j]? =m[j]?)/\Chg w wr []) (fun N _=>vs.length-(intOf N).toNat)
  case atStart=>exact⟨0,Zj,rfl,fun j r=>Zj,Chg.refl _ _⟩
  case round=>
   obtain⟨k,hk,rfl,X,Y⟩:=hrel;have Q:=hZ X;have f:=hZ Y;clear X Y;by_cases aa:k<vs.length
   .obtain⟨t,z⟩:∃t,l[k]? =nM t:=⟨_,Q9 (by have:=W.o;omega)⟩
    obtain⟨s,y⟩:∃s,m[k]? =nM s:=⟨_,Q9 (by have:=V.o;have:=O.o;omega)⟩
    obtain⟨v,E,hv,J,_⟩:=HP.o.get z;obtain⟨u,D,K,I,_⟩:=HQ.o.get y
    obtain⟨ga,rfl⟩:∃g,a=nM ⟨g,0,nN⟩:=by
     rcases R.o.one with⟨_,h⟩|⟨g,_,h,_⟩
     .subst h;simp at aa
     .injection h with h;exact⟨g,h⟩
    obtain⟨gb,rfl⟩:∃g,b=nM ⟨g,0,nN⟩:=by
     rcases S.o.one with⟨_,h⟩|⟨g,_,h,_⟩
     .subst h;simp at K
     .injection h with h;exact⟨g,h⟩
    obtain⟨tv,xv,rfl⟩:=J.iface;obtain⟨tu,xu,rfl⟩:=I.iface;have c1:wr.cell? ⟨ga,k,nN⟩=nM (nF tv xv):=f.o.keeps (R.o.cell rfl k _ hv);have c2:wr.cell? ⟨gb,k,nN⟩=nM (nF tu xu):=f.o.keeps (S.o.cell rfl k _ K);have o:=hZ (HI.o t s _ _ E D wr (Qi z) (Qi y) (J.chg f.o Zh) (I.chg f.o Zh));have U:=hZ z;have T:=hZ y;clear z y hv K J I;by_cases i:t=s
    .rw[Vz i]at o
     have B:=hZ i;clear i
     go_wp2_with(first
      |(go_at_call 171;refine o.o.mono ?_;rintro e w1 ⟨rfl,n⟩;have A:=hZ n;clear n))
     go_roundw
     case rel=>exact⟨k+1,Zj,by go_num,fun j r=>by
      rcases Nat.lt_succ_iff_lt_or_eq.1 r with h|rfl
      .exact Q.o j h
      .rw[U.o,T.o,B.o],f.o.trans A.o⟩
     case measure=>simp[intOf];omega
    .rw[XI i]at o
     have B:=hZ i;clear i
     go_wp2_with(first
      |(go_at_call 171;refine o.o.mono ?_;rintro e w1 ⟨rfl,n⟩;have A:=hZ n;clear n))
     go_ret
     exact⟨Bo (Sd (fun h=>B.o (by
      have:=U.o;rw[h,T.o]at this
      injection this with this
      exact this.symm))).symm,f.o.trans A.o⟩
   .have ad:k=vs.length:=by omega
    go_wp2_with fail
    go_ret
    exact⟨Bo (Vy (List.ext_getElem? fun j=>by
     by_cases r:j<k
     .exact Q.o j r
     .rw[List.getElem?_eq_none (by have:=W.o;omega),List.getElem?_eq_none (by have:=V.o;have:=O.o;omega)])).symm,f.o⟩
 .have ab:((vs.length:Int) !=(us.length:Int))=true:=by rw[bne_iff_ne];omega
  have P:=hZ x;clear F G p q C M L x Z;go_enter func205,ntmps205
  go_wp2_with fail
  go_ret
  exact⟨Bo (Sd (fun h=>P.o (by rw[h]))).symm,Chg.refl _ _⟩
theorem ZB:∀(k:Nat) (t s:Tr) (v u:Vl) (bv bu:List Nat) (w:Wl),(Ag t).nodes<=k->(Ag t).nodes<=65536->Av t->Av s->AP w t v bv->AP w s u bu->Cl prog 171 #[v,u] w (BU (BQ t s) w):=by
 intro k
 induction k with
 |zero=>intro t _ _ _ _ _ _ h;have:=Cv t;omega
 |succ k ih=>
  intro t s v u bv bu w X Z J D E p
  have ak:∀x y L M N O w',x∈Ab t->y∈Ab s->AP w' x L N->AP w' y M O->Cl prog 171 #[L,M] w' (BU (BQ x y) w'):=fun x y L M N O w' d hy r Q=>by
   obtain⟨i,hi⟩:=List.mem_iff_getElem?.1 d;have:=CO hi;exact ih x y L M N O w' Zj Zj (J.items x d) (D.items y hy) r Q
  obtain⟨tu,xu,rfl⟩:=p.iface;have HK:=hZ ak;clear ak ih;by_cases A:AX t=true
  .obtain⟨rfl,rfl⟩:=E.leaf (fun l e=>by subst e;simp[AX]at A) (fun ks l e=>by subst e;simp[AX]at A)
   have a0:∀(w:Wl),(Instr.typeAssert (nF 183 (nA #[AG t])) 95 183 true).run prog w= .ok (nT #[nA #[AG t],.bool true]) w:=fun _=>Yb
   obtain⟨st,sx,ah⟩:∃st sx,AG t= nF st sx:=by cases t<;>first|exact⟨_,_,rfl⟩|simp[AX]at A
   by_cases B:AX s=true
   .obtain⟨e,rfl⟩:=p.leaf (fun l e=>by subst e;simp[AX]at B) (fun ks l e=>by subst e;simp[AX]at B)
    injection e with j o
    subst j;subst o;have a1:∀(w:Wl),(Instr.typeAssert (nF 183 (nA #[AG s])) 95 183 true).run prog w= .ok (nT #[nA #[AG s],.bool true]) w:=fun _=>Yb
    obtain⟨ss,sy,am⟩:∃st sx,AG s= nF st sx:=by cases s<;>first|exact⟨_,_,rfl⟩|simp[AX]at B
    have ai:=fun w=>XJ t s A B J D w
    rw[ah]at a0 ai|-;rw[am]at a1 ai|-;obtain⟨B,I⟩:=Ue (BQ t s)
    rw[<-I]at ai|-;clear ah am I E p J D;go_enter func171,ntmps171
    go_wp2_with fail
    go_ret
    exact⟨rfl,by exact cg cR⟩
   .have K:BQ t s=false:=by
     cases s with
     |list m=>cases t<;>simp[BQ,AX]at A|-
     |obj f m=>cases t<;>simp[BQ,AX]at A|-
     |_=>simp[AX]at B
    have a1:∀(w:Wl),(Instr.typeAssert (nF tu xu) 95 183 true).run prog w= .ok (nT #[nA #[.nilIface],.bool false]) w:=by
     cases s with
     |list m=>
      obtain⟨b,sv,us,P,e,_,_⟩:=p.list
      injection e with j o
      subst j;subst o;exact fun _=>Yb
     |obj f m=>
      obtain⟨b,sv,sk,us,P,e,_,_⟩:=p.obj
      injection e with j o
      subst j;subst o;exact fun _=>Yb
     |_=>simp[AX]at B
    rw[ah]at a0|-;rw[K];clear ah K E p J D;go_enter func171,ntmps171
    go_wp2_with fail
    go_ret
    exact⟨rfl,by exact cg cR⟩
  .cases t with
   |list l=>
    obtain⟨b,sv,vs,fs,e,g,_⟩:=E.list;subst e;unfold Jn;have a0:∀(w:Wl),(Instr.typeAssert (nF 104 (nP (nM ⟨b,0,nN⟩))) 95 183 true).run prog w= .ok (nT #[nA #[.nilIface],.bool false]) w:=fun _=>Yb
    have a1:∀(w:Wl),(Instr.typeAssert (nF 104 (nP (nM ⟨b,0,nN⟩))) 95 104 true).run prog w= .ok (nT #[nP (nM ⟨b,0,nN⟩),.bool true]) w:=fun _=>Yb
    by_cases af:∃m,s= .list m
    .obtain⟨m,rfl⟩:=af
     obtain⟨C,su,us,P,e,z,_⟩:=p.list
     injection e with j o
     subst j;subst o;have a2:∀(w:Wl),(Instr.typeAssert (nF 104 (nP (nM ⟨C,0,nN⟩))) 95 104 true).run prog w= .ok (nT #[nP (nM ⟨C,0,nN⟩),.bool true]) w:=fun _=>Yb
     obtain⟨a,c,rfl,_⟩:=g.lst.form;obtain⟨G,H,rfl,_⟩:=z.lst.form;have c1:w.cell? ⟨b,0,nN⟩=nM (nS a vs.length c):=g.blk.cell 0;have T:w.cell? ⟨C,0,nN⟩=nM (nS G us.length H):=z.blk.cell 0;have U:=Bj (.list l);simp only[Ab]at U
     have S:=UD (∀h,Chg w h []->Cl prog 205 #[nS a vs.length c,nS G us.length H,.func (.func 171) #[] #[]] h (BU (ER l m) h)) fun h d=>
      RC l m vs us fs P a G c H h (g.lst.kept d) (z.lst.kept d) (g.at_.chg d Zh) (z.at_.chg d Zh) Zj fun x y L M N O w' d hy r Q=>HK.o x y L M N O w' d hy r Q
     have V:BQ (.list l) (.list m)=ER l m:=by simp only[BQ]
     rw[V];obtain⟨B,I⟩:=Ue (ER l m)
     rw[<-I]at S|-;clear V I E p J D g z U X Z A;go_enter func171,ntmps171
     go_wp2_with fail
     go_region_held3(fun w'=>w'.cell? ⟨b,0,nN⟩=nM (nS a vs.length c)/\w'.cell? ⟨C,0,nN⟩=nM (nS G us.length H)) (first|exact⟨c1,T⟩|exact⟨F.o.keeps c1,F.o.keeps T⟩)
      (first|(go_at_call 205;refine(S.o _ (by exact cg cR)).mono ?_;rintro e w1 ⟨rfl,r⟩;have F:=UD (Chg w w1 []) (ct cR r);clear r))
     all_goals
      go_wp2_with fail
      go_ret
      exact⟨rfl,by exact cg F.o⟩
    .have a2:∀(w:Wl),(Instr.typeAssert (nF tu xu) 95 104 true).run prog w= .ok (nT #[nP nN,.bool false]) w:=by
      by_cases B:AX s=true
      .obtain⟨e,_⟩:=p.leaf (fun l e=>by subst e;simp[AX]at B) (fun ks l e=>by subst e;simp[AX]at B)
       injection e with j o
       subst j;subst o;exact fun _=>Yb
      .cases s with
       |list m=>exact absurd ⟨m,rfl⟩ af
       |obj f m=>
        obtain⟨b,sv,sk,us,P,e,_,_⟩:=p.obj
        injection e with j o
        subst j;subst o;exact fun _=>Yb
       |_=>simp[AX]at B
     have K:BQ (.list l) s=false:=by
      cases s with
      |list m=>exact absurd ⟨m,rfl⟩ af
      |_=>simp only[BQ]
     rw[K];clear K E p J D g X Z A af;go_enter func171,ntmps171
     go_wp2_with fail
     go_quiet(fail)
     go_wp2_with fail
     go_ret
     exact⟨rfl,by exact cg cR⟩
   |obj ks l=>
    obtain⟨b,sv,sk,vs,fs,e,g,_⟩:=E.obj;subst e;unfold IR;have a0:∀(w:Wl),(Instr.typeAssert (nF 175 (nP (nM ⟨b,0,nN⟩))) 95 183 true).run prog w= .ok (nT #[nA #[.nilIface],.bool false]) w:=fun _=>Yb
    have a1:∀(w:Wl),(Instr.typeAssert (nF 175 (nP (nM ⟨b,0,nN⟩))) 95 104 true).run prog w= .ok (nT #[nP nN,.bool false]) w:=fun _=>Yb
    have a3:∀(w:Wl),(Instr.typeAssert (nF 175 (nP (nM ⟨b,0,nN⟩))) 95 175 true).run prog w= .ok (nT #[nP (nM ⟨b,0,nN⟩),.bool true]) w:=fun _=>Yb
    by_cases ag:∃f m,s= .obj f m
    .obtain⟨f,m,rfl⟩:=ag
     obtain⟨C,su,sl,us,P,e,z,_⟩:=p.obj
     injection e with j o
     subst j;subst o;have a2:∀(w:Wl),(Instr.typeAssert (nF 175 (nP (nM ⟨C,0,nN⟩))) 95 175 true).run prog w= .ok (nT #[nP (nM ⟨C,0,nN⟩),.bool true]) w:=fun _=>Yb
     obtain⟨a,c,rfl,_⟩:=g.lst.form;obtain⟨G,H,rfl,_⟩:=z.lst.form;have ad:=g.keys;have ae:=z.keys;obtain⟨ka,kc,rfl,_⟩:=g.keys.form;obtain⟨la,lc,rfl,_⟩:=z.keys.form;have c1:w.cell? ⟨b,0,nN⟩=nM (nS a vs.length c):=g.blk.cell 0;have T:w.cell? ⟨C,0,nN⟩=nM (nS G us.length H):=z.blk.cell 0;have c3:w.cell? ⟨b,1,nN⟩=nM (nS ka (Ad ks).length kc):=g.blk.cell 1;have c4:w.cell? ⟨C,1,nN⟩=nM (nS la (Ad f).length lc):=z.blk.cell 1;have U:=Bj (.obj ks l);have al:=g.len;have aj:f.length<=4294967296:=by simp only[Av]at D;exact Q7 D.1.many Zj
     simp only[Ab]at U
     have S:=UD (∀h,Chg w h []->Cl prog 205 #[nS a vs.length c,nS G us.length H,.func (.func 171) #[] #[]] h (BU (ER l m) h)) fun h d=>
      RC l m vs us fs P a G c H h (g.lst.kept d) (z.lst.kept d) (g.at_.chg d Zh) (z.at_.chg d Zh) Zj fun x y L M N O w' d hy r Q=>HK.o x y L M N O w' d hy r Q
     have W:=UD (∀h,Chg w h []->Cl prog 64 #[nS ka (Ad ks).length kc,nS la (Ad f).length lc] h (BU (decide (ks=f)) h)) fun h d=>
      (Ix ks f _ _ h (ad.kept d).toRow (ae.kept d).toRow Zj Zj).mono fun e w' ⟨r,q,Q⟩=>⟨r,by subst Q;exact(Chg.refl h []).drewN q⟩
     have V:BQ (.obj ks l) (.obj f m)=(decide (ks=f)&&ER l m):=by simp only[BQ]
     rw[V];obtain⟨B,I⟩:=Ue (ER l m)
     obtain⟨K1,aa⟩:=Ue ((Ad ks).length)
     obtain⟨K2,ab⟩:=Ue ((Ad f).length)
     rw[<-I]at S|-;rw[<-aa]at W c3;rw[<-ab]at W c4;by_cases Y:ks=f
     .rw[decide_eq_true Y]at W|-
      rw[Bool.true_and];clear V I E p J D g z U X Z A ad ae al aj Y aa ab;go_enter func171,ntmps171
      go_wp2_with fail
      go_region_held3(fun w'=>w'.cell? ⟨b,0,nN⟩=nM (nS a vs.length c)/\w'.cell? ⟨C,0,nN⟩=nM (nS G us.length H)/\w'.cell? ⟨b,1,nN⟩=nM (nS ka K1 kc)/\w'.cell? ⟨C,1,nN⟩=nM (nS la K2 lc))
       (first|exact⟨c1,T,c3,c4⟩|exact⟨F.o.keeps c1,F.o.keeps T,F.o.keeps c3,F.o.keeps c4⟩|exact⟨R.o.keeps c1,R.o.keeps T,R.o.keeps c3,R.o.keeps c4⟩)
       (first
        |(go_at_call 64;refine(W.o _ (by exact cg cR)).mono ?_;rintro e w2 ⟨rfl,r⟩;have R:=UD (Chg w w2 []) (ct cR r);clear r)
        |(go_at_call 205;refine(S.o _ (by exact cg R.o)).mono ?_;rintro e w1 ⟨rfl,r⟩;have F:=UD (Chg w w1 []) (ct R.o r);clear r))
      all_goals
       go_wp2_with fail
       go_ret
       exact⟨rfl,by exact cg F.o⟩
     .have an:=UD (∀n,Cl prog 64 #[nS ka K1 kc,nS la K2 lc] (w.drewN n) fun e w'=>e= nR (.bool false)/\∃m,w'=(w.drewN n).drewN m) fun n=>by
       have d:Chg w (w.drewN n) []:=(Chg.refl w []).drewN n;have:=Ix ks f _ _ (w.drewN n) (ad.kept d).toRow (ae.kept d).toRow Zj Zj;rw[decide_eq_false Y,<-aa,<-ab]at this;exact this
      rw[decide_eq_false Y];rw[Bool.false_and];clear V I E p J D g z U X Z A ad ae al aj Y aa ab S W;go_enter func171,ntmps171
      go_wp2_with fail
      go_quiet((go_at_call 64;exact Calls.quiet_of (an.o _)))
      go_wp2_with fail
      go_ret
      exact⟨rfl,by exact cg cR⟩
    .have a2:∀(w:Wl),(Instr.typeAssert (nF tu xu) 95 175 true).run prog w= .ok (nT #[nP nN,.bool false]) w:=by
      by_cases B:AX s=true
      .obtain⟨e,_⟩:=p.leaf (fun l e=>by subst e;simp[AX]at B) (fun ks l e=>by subst e;simp[AX]at B)
       injection e with j o
       subst j;subst o;exact fun _=>Yb
      .cases s with
       |obj f m=>exact absurd ⟨f,m,rfl⟩ ag
       |list m=>
        obtain⟨b,sv,us,P,e,_,_⟩:=p.list
        injection e with j o
        subst j;subst o;exact fun _=>Yb
       |_=>simp[AX]at B
     have K:BQ (.obj ks l) s=false:=by
      cases s with
      |obj f m=>exact absurd ⟨f,m,rfl⟩ ag
      |_=>simp only[BQ]
     rw[K];clear K E p J D g X Z A ag;go_enter func171,ntmps171
     go_wp2_with fail
     go_quiet(fail)
     go_wp2_with fail
     go_ret
     exact⟨rfl,by exact cg cR⟩
   |null=>simp[AX]at A
   |flag _=>simp[AX]at A
   |num _=>simp[AX]at A
   |text _=>simp[AX]at A
end
section
open _root_.Go.Proofs.Tryz
open Go Go.Shelf Go.RowKit Go.Lib Tree
def DX(w:Wl)(sv:Vl)(l:List Ap):Prop:=∃a c,sv= nS a l.length c/\∀i s,l[i]? =nM s->∃b o sk,a=nM ⟨b,o,nN⟩/\Ax w (fun k=>k<w.heap.size) sk (Ad s.keys)/\∀j v,(AI s sk)[j]? =nM v->w.cell? ⟨b,o+i*6+j,nN⟩=nM v
theorem DX.kept{w w':Wl}{sv:Vl}{l:List Ap}(h:DX w sv l)(d:Chg w w' []):DX w' sv l:=by
 obtain⟨a,c,e,h⟩:=h;refine⟨a,c,e,fun i s p=> ?_⟩;obtain⟨b,o,sk,f,g,m⟩:=h i s p;exact⟨b,o,sk,f,g.kept (d.keepsF (fun _ h=>h)) (fun k n=>Q6 n d.size),fun j v q=>d.keeps (m j v q)⟩
theorem SL{w:Wl}{sv:Vl}{l:List Ap}{xs:List Vl}(d:As w sv 6 l.length xs)(j:Az w l xs):DX w sv l:=by
 obtain⟨a,c,rfl,_⟩:=d.form;refine⟨a,c,rfl,fun i s f=> ?_⟩;have e:0<l.length:=Nat.lt_of_le_of_lt (Nat.zero_le _) (Qc.1 f).1;obtain⟨b,o,rfl,_⟩:=d.base e ZM;obtain⟨sk,g,h⟩:=Az.item d e j f;exact⟨b,o,sk,rfl,g.rowLt,h⟩
theorem PW{w:Wl}{g a n:Nat}{F:Nat->Prop}{l:List Aw}{xs:List Vl}(h:Ba w (nS (nM ⟨g,0,nN⟩) n a) 72 6 n xs)(k:AR w F l xs)(f:∀b,F b->b<w.heap.size)(m:n=l.length):DX w (nS (nM ⟨g,0,nN⟩) n a) (l.map Aw.toI):=by
 refine⟨_,a,by rw[List.length_map,m],fun i s c=> ?_⟩;rw[List.getElem?_map]at c;obtain⟨p,o,rfl⟩:=Option.map_eq_some_iff.1 c;obtain⟨sk,d,e⟩:=k.get i p o;refine⟨g,0,sk,rfl,d.kept (fun _ _ _=>rfl) f,fun j v q=> ?_⟩;have:=h.cell rfl (6*i+j) v (e j v q);rwa[show 6*i+j=0+i*6+j from by omega]at this
theorem Rf(l:List Ap)(L M:Vl)(w:Wl)(V:DX w L l)(W:DX w M l)(X:l.length<=4294967296)(f:∀s∈l,s.keys.length<=4294967296):
  Cl prog 37 #[L,M,.func (.func 39) #[] #[]] w (BU true w):=by
 obtain⟨a1,c1,rfl,C⟩:=V;obtain⟨a2,T,rfl,D⟩:=W;have Q:=hZ C;have R:=hZ D;have O:=hZ f;obtain⟨n,r⟩:=Ue l.length
 have ab:((n:Int) !=(n:Int))=false:=Zh
 have P:=hZ r;rw[<-r]at X|-;clear C D f r;go_enter func37,ntmps37
 go_wp2_with fail
 go_loopw [17] (fun y wr=>∃i:Nat,i<=n/\y= nI nX i/\Chg w wr []) (fun y _=>n-(intOf y).toNat)
 case atStart=>exact⟨0,Zj,rfl,Chg.refl _ _⟩
 case round=>
  obtain⟨i,hi,rfl,F⟩:=hrel;have a:=hZ F;clear F;by_cases aa:i<n
  .obtain⟨s,m⟩:∃s,l[i]? =nM s:=⟨_,Q9 (by have:=P.o;omega)⟩
   obtain⟨b,o,sk,rfl,p,t⟩:=Q.o i s m;obtain⟨A,Y,ad,rfl,q,u⟩:=R.o i s m;obtain⟨H,J,rfl,_⟩:=p.cell;obtain⟨I,K,rfl,_⟩:=q.cell;rw[Ao]at p q t u;have c:∀j v,(AI s (nS H s.keys.length J))[j]? =nM v->wr.cell? ⟨b,o+i*6+j,nN⟩=nM v:=fun j v x=>a.o.keeps (t j v x)
   have d:∀j v,(AI s (nS I s.keys.length K))[j]? =nM v->wr.cell? ⟨A,Y+i*6+j,nN⟩=nM v:=fun j v x=>a.o.keeps (u j v x)
   have S:=c 0 _ rfl;have c1:=c 1 _ rfl;have T:=c 2 _ rfl;have c3:=c 3 _ rfl;have c4:=c 4 _ rfl;have c5:=c 5 _ rfl;have B:=d 0 _ rfl;have d1:=d 1 _ rfl;have d2:=d 2 _ rfl;have d3:=d 3 _ rfl;have d4:=d 4 _ rfl;have U:=d 5 _ rfl;rw[Nat.add_zero]at S B;have lb:A<wr.heap.size:=World.block_lt_of_cell? wr _ B
   have z:=UD (∀g,Chg wr g []->Cl prog 39 #[nA #[nI nX s.sort,.bool s.flag,nI .u64 s.bits,nG s.text,nI nX s.count,nS H s.keys.length J],nA #[nI nX s.sort,.bool s.flag,nI .u64 s.bits,nG s.text,nI nX s.count,nS I s.keys.length K]] g fun e w'=>e= nR (.bool true)/\Chg g w' []) fun g h=>
    WM s _ _ g _ _ (p.kept ((a.o.trans h).keepsF (fun _ h=>h)) (fun _ h=>h)) (q.kept ((a.o.trans h).keepsF (fun _ h=>h)) (fun _ h=>h)) (fun k f=>Q6 f (a.o.trans h).size) (fun k f=>Q6 f (a.o.trans h).size) (O.o s (Qi m))
   obtain⟨sl,G⟩:=Ue s.keys.length
   rw[<-G]at z c5 U;clear m p q t u c d G;go_wp2_with((go_at_call 39;refine(z.o _ (by exact cg cR)).mono ?_;rintro e Z ⟨rfl,E⟩;have N:=UD (Chg wr Z []) (ct cR E);clear E))
   go_roundw
   case rel=>exact⟨i+1,Zj,by go_num,Chg.trans (b:=_) a.o N.o⟩
   case measure=>simp[intOf];omega
  .go_wp2_with fail
   go_ret
   exact⟨rfl,a.o⟩
end
section
open _root_.Go.Proofs.Tryz
open Go Go.Shelf Go.RowKit Go.Lib Tree Ptr
theorem cI{P:Program}{N:Array Oper}{o:Oper}{a:Act}{K:Act->Wl->Prop}{Q:Exit->Act->Wl->Prop}{E:Prop}{w:Wl}(T:o.guard=nN)(s x:Operand)(t:Ti)(D:o.op= .call {callee:= .builtin .append,args:=#[s,x],argTypes:=#[t,t]})(e:Ti)(z:Vl)(r:Nat)(L:P.underlying t=nM (.slice e))(U:(P.info? e).map (fun i=>(i.zero,i.size,i.bytes))=nM (nM z,1,r))(ab:z.cells.size=1)(d:Nat)(J:a.eval s= nS (nM ⟨d,0,nN⟩) 0 0)(G:AK w (nS (nM ⟨d,0,nN⟩) 0 0) e [])(F:Nat->Prop)(O:Vl)(us:List Vl)(M:a.eval x=O)(I:Ax w F O us)(Y:∀u∈us,u.oneCell'=true)(A:us.length*r<=140737488355328)(ae:us.length<=140737488355328)(h:∀g n w',AK w' (nS (nM ⟨g,0,nN⟩) us.length n) e us->Chg w w' [d]->(d=g\/g=w.heap.size)->K (a.put o.dst (nS (nM ⟨g,0,nN⟩) us.length n)) w'):
  if Region.wanted o (yielded N a.tmps)=true then Oper.wp P o a w K Q else E:=by
 have hw:Region.wanted o (yielded N a.tmps)=true:=by simp[Region.wanted,T]
 rw[Qr hw];obtain⟨i,hi,hz,X,R⟩:=info_parts U;by_cases C:us=[]
 .subst C
  obtain⟨y,c,rfl,ad⟩:=I.cell;have p:=LC (P:=P) w t o.type e i L hi (nM ⟨d,0,nN⟩) 0 0 (Q8 _) y c;have aa:a.eval x= nS y 0 c:=M;unfold Oper.wp execOp;simp only[D,resolve,invoke,builtin,Sem.run_bind,Sem.run_pure,Result.andThen_ok,List.map_toArray,List.map_cons,List.map_nil,J,aa,p];exact h d 0 w G cR (.inl rfl)
 .have H:0<us.length:=List.length_pos_iff.2 C
  obtain⟨b,q,c,rfl,S⟩:=I.cells H
  have W:∀j v,us[j]? =nM v->w.cell? ((⟨b,q,nN⟩:Addr).add j)=nM v:=fun j v Z=>by
   rw[show(⟨b,q,nN⟩:Addr).add j=⟨b,q+j,nN⟩from by unfold Addr.add;split<;>simp_all];exact S j v Z
  obtain⟨g,n,w',p,B,f,l,h4⟩:=run_append_lies (P:=P) w t o.type 0 e i z 1 r L hi hz X R ab ZM (nS (nM ⟨d,0,nN⟩) 0 0) 0 [] G ⟨b,q,nN⟩ us.length c us Zh W Y H (by unfold maxLen;omega) (by simpa using A) (Nat.zero_le _) _ rfl;rw[Nat.zero_add]at B p;unfold Oper.wp execOp;simp only[D,resolve,invoke,builtin,Sem.run_bind,Sem.run_pure,Result.andThen_ok,List.map_toArray,List.map_cons,List.map_nil,J,M,p];refine h g n w' (by simpa[AK]using B) ⟨f.os,f.tape,f.output,f.size,fun k V A=>f.block k V fun m=>A (by have m:nM k=nM d:=m;injection m with m;subst m;simp)⟩ ?_
  rcases l with l|l
  .exact .inl (by simpa[Vl.ownBlock]using l)
  .exact .inr l
def cJ(t:Tr)(w:Wl)(e:Ending)(w':Wl):Prop:=∃sv,e= nR sv/\DX w' sv (MW t)/\Chg w w' []
theorem cK{t:Tr}{w w':Wl}{e:Ending}(h:IV t w e w'):cJ t w e w':=by
 obtain⟨g,f,G,i,rfl,b,c,d,_,a⟩:=h;exact⟨_,rfl,PW b c a (BL t).symm,d⟩
def cL(l:List Aw)(w:Wl)(i:Nat)(a:Vl)(wr:Wl):Prop:=
 ∃(ys:List Vl) (F:Nat->Prop),Ba wr a 72 6 i ys/\AR wr F (l.take i) ys/\(∀b,F b->b<wr.heap.size)/\(∀g,a.ownBlock=nM g->¬F g)/\(∀g,a.ownBlock=nM g->w.heap.size<=g)/\Chg w wr []
theorem dl(t:Tr)(F:Nat->Prop)(cs:List Vl)(w:Wl)(U:(Ag t).nodes<=65536)(S:∀s∈Ai t,s.keys.length<=2147483648)(B:AL w F t cs)(I:∀b,F b->b<w.heap.size):
  Cl prog 46 #[nA cs.toArray] w (cJ t w):=by
 obtain⟨w0,K⟩:=Ue (w.alloc (nC cs.toArray 29))
 have HW:=hZ K;have D:Hid (Chg w w0 []):=by rw[K];exact hZ ((Chg.refl w []).alloc _)
 have aE:Hid (Ac w0 w.heap.size cs 29):=by rw[K];exact hZ (Ac.new w cs _)
 have aI:=UD ((prog.info? 29).map (·.size)=nM cs.length) (by rw[B.length];exact A9);have aC:AL w0 F t cs:=AL.kept (D.o.keepsF I) (fun _ h=>h) _ _ B;have O:=hZ (ZQ _ t F cs w0 (Q8 _) Zj aC (fun b l=>Q6 (I b l) D.o.size));have aK:=hZ S;have T:=BL t;obtain⟨N,hN⟩:=Ue ((Ag t).nodes)
 have aA:=Cv t;unfold SH at O;rw[<-hN]at U T aA O;have M:=hZ T;have aG:=UD (∀b,F b->b<w0.heap.size) fun b l=>Q6 (I b l) D.o.size
 clear K B I aC S hN T;go_enter func46,ntmps46
 go_wp2_with(refine Bp rfl _ _ rfl w.heap.size ZN 29 cs (by exact HW.o▸aE.o) _ underlying29 rfl aI.o ?_)
 rw[<-HW.o];refine O.o.mono ?_;rintro e w1 ⟨g1,aY,xs,rfl,ap,au,z,aS⟩;have aL:=hZ ap;have aO:=hZ au;have H1:=hZ (D.o.trans z);have aH:=UD (∀b,F b->b<w1.heap.size) fun b l=>Q6 (aG.o b l) z.size
 clear ap au z aS;go_wp2_with fail
 go_loopw [4,5] (fun v4 Y wr=>∃(i:Nat) (q:Option Addr) (m:Nat),i<=N/\Y= nI nX i/\v4= nS q i m/\cL (Ai t) w1 i v4 wr) (fun _ Y _=>N-(intOf Y).toNat)
 case atStart=>exact⟨0,nN,0,Zj,rfl,rfl,[],fun _=>False,Ba.nil _ _ _,by rw[List.take_zero];rfl,fun _ h=>h.elim,fun _ _ h=>h,(fun g d=>by cases d),Chg.refl _ _⟩
 case round=>
  obtain⟨i,q,m,hi,rfl,rfl,ys,aD,hL,A,al,am,hO,hG⟩:=hrel;have y:=hZ hL;have HS:=hZ A;have G:=hZ al;have Z:=hZ am;have HO:=hZ hO;have x:=hZ hG;clear hL A al am hO hG;by_cases aU:i<N
  .obtain⟨s,J⟩:∃s,(Ai t)[i]? =nM s:=⟨_,Q9 (by rw[M.o];exact aU)⟩
   obtain⟨sk,V,X⟩:=aO.o.get i s J;have S:=aK.o s (Qi J);have ah:=UD (∀f,Chg wr f []->Ax f F sk (Ad s.keys)) fun f C=>V.kept ((x.o.trans C).keepsF aH.o) (fun _ h=>h)
   obtain⟨n,o,rfl,_⟩:=V.cell;rw[Ao]at ah X
   have aB:wr.rangeAt g1 (i*6) (Ci s (nS n s.keys.length o)):=fun j v B=>by
    have z:=aL.o.cell rfl (6*i+j) v (X j v B);rw[show i*6+j=6*i+j from by omega];exact x.o.keeps z
   have ag:=hZ aB;have az:=IF s (nS n s.keys.length o) n s.keys.length o rfl;have af:=hZ az;have aQ:=UD ((Ai t).take (i+1)=(Ai t).take i++[s]) (Cb J);have aN:=UD (wr.heap.size∉(Vl.slice q i m).ownBlock.toList) fun k=>by have:=y.o.lt (by simpa using k);omega
   have ae:=UD (∀g,(Vl.slice q i m).ownBlock=nM g->g<wr.heap.size) fun g d=>y.o.lt d
   have ax:s.keys.length*16<=140737488355328:=Zj
   have aT:s.keys.length<=140737488355328:=Zj
   have aw:(i+1)*72<=140737488355328/\i<=140737488355328:=⟨Zj,Zj⟩;have ab:=hZ aw;have aJ:=hZ ax;clear J V X aB az aw ax;unfold Ci at ag af
   go_wp2_with(first
    |(refine wpList_load_mid rfl _ _ rfl g1 (i*6) (by go_num) _ _ ag.o underlying158 rfl ZN ?_)
    |(refine Ae rfl _ _ _ rfl wr.heap.size [nI nX s.sort,.bool s.flag,nI .u64 s.bits,nG s.text,nI nX s.count,nS n s.keys.length o] ZN ZN 158 _ (BD _ _ [nI nX 0,.bool false,nI .u64 0,nG ⟨#[]⟩,nI nX 0,nS nN 0 0] _ _ rfl rfl) ZN rfl af.o ?_;intro w2 aX R av;have aF:=hZ R;have L:=UD (Chg wr w2 []) (Chg.step (b:=_) (by exact cg cR) av (fun i hi hl=>by simp at hi;omega));have hz:wr.heap.size<w2.heap.size:=R.lt;clear aX R av))
   have P:=UD (∀f bs,Chg w2 f bs->wr.heap.size∉bs->f.cell? ⟨wr.heap.size,0,nN⟩=nM (nI nX s.sort)/\f.cell? ⟨wr.heap.size,1,nN⟩=nM (.bool s.flag)/\f.cell? ⟨wr.heap.size,2,nN⟩=nM (nI .u64 s.bits)/\f.cell? ⟨wr.heap.size,3,nN⟩=nM (nG s.text)/\f.cell? ⟨wr.heap.size,4,nN⟩=nM (nI nX s.count)/\f.cell? ⟨wr.heap.size,5,nN⟩=nM (nS n s.keys.length o)) fun f bs C U=>by
    obtain⟨_,_,x0,x1,x2,x3,x4,x5⟩:=(aF.o.kept C U).cells6;exact⟨x0,x1,x2,x3,x4,x5⟩
   have aP:=UD (∀f,Chg w2 f []->Ax f F (nS n s.keys.length o) (Ad s.keys)) fun f C=>ah.o f (L.o.trans C)
   have W:=Ao s.keys
   go_region_held3(fun w'=>w'.cell? ⟨wr.heap.size,0,nN⟩=nM (nI nX s.sort)/\w'.cell? ⟨wr.heap.size,1,nN⟩=nM (.bool s.flag)/\w'.cell? ⟨wr.heap.size,2,nN⟩=nM (nI .u64 s.bits)/\w'.cell? ⟨wr.heap.size,3,nN⟩=nM (nG s.text)/\w'.cell? ⟨wr.heap.size,4,nN⟩=nM (nI nX s.count)/\w'.cell? ⟨wr.heap.size,5,nN⟩=nM (nS n s.keys.length o))
    (first|exact P.o _ [] (by exact cg cR) Zh|exact P.o _ [] (by exact cg u.o) Zh|exact P.o _ _ (ct (u.o.none _) E.o) aN.o)
    (first
     |(refine cI rfl _ _ _ rfl 9 Ho 16 underlying27 Cf rfl w2.heap.size ZN (by first|exact AK.lit _ [] _ 0 rfl ZM|exact(AK.lit _ [] _ 0 rfl ZM).kept (bs:=[]) (by exact cg cR) Zh) F (nS n s.keys.length o) (Ad s.keys) ZN (by exact aP.o _ (by exact cg cR)) (Gu _) (by rw[W];exact aJ.o) (by rw[W];exact aT) ?_;rw[W];intro p ai r aq aj an;have ad:=hZ aq;have u:=UD (Chg w2 r []) (Chg.step (b:=_) (by exact cg cR) aj (fun i hi hl=>by simp at hi;omega));have aZ:w2.heap.size<=p:=(by rcases an with h|h;(exact Nat.le_of_eq h);(simp at h;omega));clear aq aj an)
     |(refine Bw rfl _ _ _ rfl 72 Iq 6 72 ZM underlying22 DM rfl (nS q i m) i ys ZN (by exact y.o.kept (bs:=[]) (by exact cg (L.o.trans u.o)) Zh) r.heap.size (Ci s (nS (nM ⟨p,0,nN⟩) s.keys.length ai)) ZN ZN (by exact Ff _ _ _) (IF _ _ _ _ _ rfl) ab.o.1 ab.o.2 ?_;intro H aR w4 ar ak ao;have aM:=hZ ar;have E:=UD (Chg r w4 (Vl.slice q i m).ownBlock.toList) (ct ((Chg.refl r []).none _) ak);have aa:=UD ((Vl.slice q i m).ownBlock=nM H\/r.heap.size<=H) (ao.imp id (fun h=>by rw[h];simp));clear ar ak ao))
   all_goals
    go_wp2_with fail
    go_roundw
    case rel=>
     have Q:Chg wr w4 (Vl.slice q i m).ownBlock.toList:=((L.o.trans u.o).none _).trans E.o;have a1:=u.o.size;have a2:=E.o.size;have a0:p<r.heap.size:=ad.o.lt rfl;have aV:∀g,g∈(Vl.slice q i m).ownBlock.toList->g<wr.heap.size:=fun g d=>ae.o g (by simpa using d)
     have ay:(Vl.slice (nM ⟨H,0,nN⟩) (i+1) aR).ownBlock=nM H:=rfl;refine⟨i+1,_,_,Zj,by go_num,rfl,ys++Ci s (nS (nM ⟨p,0,nN⟩) s.keys.length ai),fun b=>aD b\/b=p,aM.o, ?_, ?_, ?_, ?_, ?_⟩
     .rw[aQ.o]
      refine(AR.kept (Q.keepsF G.o (fun b l k=>Z.o b (by simpa using l) k)) (fun _ h=> .inl h) _ _ HS.o).append (AR.one s _ ?_)
      exact(ad.o.kept E.o (fun g d k=>by
        have:=aV g k;have e:g=p:=by injection d with d;exact d.symm
        omega)).rowAt (fun g d=> .inr (by injection d with d;exact d.symm))
     .intro b l
      rcases l with l|l
      .exact Q6 (G.o b l) Q.size
      .omega
     .intro g d k
      rw[ay]at d
      injection d with d
      subst d
      rcases aa.o with h|h
      .rcases k with k|k
       .exact Z.o _ h k
       .have:=ae.o _ h;omega
      .rcases k with k|k
       .have:=G.o _ k;omega
       .omega
     .intro g d
      rw[ay]at d
      injection d with d
      subst d
      rcases aa.o with h|h
      .exact HO.o _ h
      .have:=x.o.size;omega
     .exact x.o.fresh Q (fun g d=>HO.o g (by simpa using d))
    case measure=>simp[intOf];omega
  .obtain rfl:i=N:=by omega
   go_wp2_with fail
   go_ret
   obtain⟨a,c,e,hh⟩:=y.o.form;obtain⟨g,rfl⟩:=hh aA
   injection e with e1 e2 e3
   subst e1;have aW:(Ai t).take i=Ai t:=Qn (by rw[M.o];exact Q8 _);have A:=HS.o;rw[aW]at A;exact⟨_,rfl,PW y.o A G.o M.o.symm,H1.o.trans x.o⟩
def Je(s:BY)(n:Nat):Vl:=match bL s n with
 |some k=> nT #[nI nX k,.bool true]
 |none=> nT #[nI nX 0,.bool false]
theorem SO{l:List UInt8}{i:Int}(h:Lib.atoiAll l= .ok i): -9223372036854775808<=i/\i<=9223372036854775807:=by
 unfold Lib.atoiAll at h;split at h
 .cases h
 .simp only at h
  split at h
  .cases h
  .cases h
  .split at h
   .cases h
   .split at h
    .cases h
    .injection h with h
     subst h;split<;>omega
theorem Gl(s:BY)(n:Nat)(w:Wl)(o:Br w)(E:s.size<=281474976710656)(r:n<=9223372036854775807):
  Cl prog 149 #[nG s,nI nX n] w fun e w'=>e= nR (Je s n)/\Chg w w' []:=by
 by_cases u:∃i,Lib.atoiAll s.data.toList= .ok i
 .obtain⟨i,hi⟩:=u
  have l:=UD (Cl prog 181 #[nG s] w fun e w'=>e= nR (nT #[nI nX i,.nilIface])/\Chg w w' []) ((Rh s E w o).mono fun e w' ⟨⟨j,v,B,b⟩,a⟩=>by
   rcases b with⟨rfl,b⟩|⟨_,b⟩
   .rw[hi]at b;injection b with b;subst b;exact⟨B,a⟩
   .exact absurd hi (b i))
  have D:=SO hi;have C:=UD (∀p,Chg w p []->Cl prog 70 #[nI nX i] p fun e w'=>e= nR (nG ⟨(Lib.itoa i).toArray⟩)/\Chg p w' []) fun p I=>Ri i D.1 D.2 p (o.kept I)
  have q:=hZ hi;clear hi o;by_cases K:i<0
  .have d:bL s n=nN:=FN r fun j h g=>by have:=q.o.symm.trans h;injection this with e;subst e;omega
   have f:=hZ d;clear d;go_enter func149,ntmps149
   go_wp2_with(first
      |(go_at_call 181;refine l.o.mono ?_;rintro e y ⟨rfl,a⟩;have c:=hZ a;clear a))
   refine bodyPost_ret (results_tmp2 rfl _ _ _) rfl ⟨by unfold Je;rw[f.o];rfl,by exact cg c.o⟩
  .by_cases L:(n:Int)<=i
   .have d:bL s n=nN:=FN r fun j h g k=>by have:=q.o.symm.trans h;injection this with e;subst e;omega
    have f:=hZ d;clear d;go_enter func149,ntmps149
    go_wp2_with(first
      |(go_at_call 181;refine l.o.mono ?_;rintro e y ⟨rfl,a⟩;have c:=hZ a;clear a))
    refine bodyPost_ret (results_tmp2 rfl _ _ _) rfl ⟨by unfold Je;rw[f.o];rfl,by exact cg c.o⟩
   .by_cases A:(⟨(Lib.itoa i).toArray⟩:BY)=s
    .have F:bL s n=nM i.toNat:=WD q.o Zj Zj (by rw[<-A])
     have G:=hZ F;clear F;go_enter func149,ntmps149
     go_wp2_with(first
      |(go_at_call 181;refine l.o.mono ?_;rintro e y ⟨rfl,a⟩;have c:=hZ a;clear a)
      |(go_at_call 70;refine(C.o _ (by exact cg c.o)).mono ?_;rintro e w2 ⟨rfl,m⟩;have z:=UD (Chg w w2 []) (ct c.o m);clear m))
     refine bodyPost_ret (results_tmp2 rfl _ _ _) rfl ⟨by unfold Je;rw[G.o];simp;omega,by exact cg z.o⟩
    .have d:bL s n=nN:=FN r fun j h g k e=>by have:=q.o.symm.trans h;injection this with H;subst H;exact A (DK (by simpa using e))
     have J:(Lib.itoa i==s.toList)=false:=by rw[Qq,Lib.toList_data];intro e;exact A (DK (by simpa using e))
     have f:=hZ d;clear d;go_enter func149,ntmps149
     go_wp2_with(first
      |(go_at_call 181;refine l.o.mono ?_;rintro e y ⟨rfl,a⟩;have c:=hZ a;clear a)
      |(go_at_call 70;refine(C.o _ (by exact cg c.o)).mono ?_;rintro e w2 ⟨rfl,m⟩;have z:=UD (Chg w w2 []) (ct c.o m);clear m))
     refine bodyPost_ret (results_tmp2 rfl _ _ _) rfl ⟨by unfold Je;rw[f.o];rfl,by exact cg z.o⟩
 .have d:bL s n=nN:=FN r fun j h=>absurd ⟨j,h⟩ u
  have f:=hZ d
  have l:=UD (Cl prog 181 #[nG s] w fun e w'=>(∃i t x,e= nR (nT #[nI nX i,nF t x]))/\Chg w w' []) ((Rh s E w o).mono fun e w' ⟨⟨j,v,B,b⟩,a⟩=>by
   rcases b with⟨_,b⟩|⟨⟨t,x,rfl⟩,_⟩
   .exact absurd ⟨_,b⟩ u
   .exact⟨⟨j,t,x,B⟩,a⟩)
  clear d u o;go_enter func149,ntmps149
  go_wp2_with(first
      |(go_at_call 181;refine l.o.mono ?_;rintro e y ⟨⟨i,t,x,rfl⟩,a⟩;have c:=hZ a;clear a))
  refine bodyPost_ret (results_tmp2 rfl _ _ _) rfl ⟨by unfold Je;rw[f.o];rfl,by exact cg c.o⟩
def Cz(w:Wl)(t:Tr)(v:Vl)(bs:List Nat)(ts:List BY)(e:Ending)(w':Wl):Prop:=
 Chg w w' []/\match Ah t ts with
  |some u=>∃a b rest,e= nR (nT #[a,.bool true])/\Ir w t v bs ts u a b rest
  |none=>e= nR (nT #[.nilIface,.bool false])
theorem Cz.none{w:Wl}{t:Tr}{v:Vl}{bs:List Nat}{ts:List BY}{e:Ending}{w':Wl}(h:Ah t ts=Option.none)(a:Chg w w' [])(b:e= nR (nT #[.nilIface,.bool false])):Cz w t v bs ts e w':=by
 unfold Cz;rw[h];exact⟨a,b⟩
theorem Cz.some{w:Wl}{t u:Tr}{v a:Vl}{bs b rest:List Nat}{ts:List BY}{e:Ending}{w':Wl}(c:Ir w t v bs ts u a b rest)(d:Chg w w' [])(f:e= nR (nT #[a,.bool true])):Cz w t v bs ts e w':=by
 unfold Cz;rw[c.lead];exact⟨d,a,b,rest,f,c⟩
theorem Iw{t u:Tr}:∀{ts:List BY} {k:Nat} {s:BY},Ah t (ts.take k)=Option.some u->ts[k]? =Option.some s->Dy u s=Option.none->Ah t ts=Option.none
 |[],k,s,_,b,_=>by simp at b
 |a::r,0,s,h,b,c=>by
  simp only[List.take_zero,Ah]at h
  injection h with h
  subst h;simp at b;subst b;simp[Ah,c]
 |a::r,k+1,s,h,b,c=>by
  simp only[List.take_succ_cons,Ah]at h|-
  cases d:Dy t a with
  |none=>rfl
  |some y=>
   rw[d]at h;simp only[Option.bind_some]at h|-;exact Iw h (by simpa using b) c
theorem Md{u:Tr}(h:AX u=true)(s:BY):Dy u s=Option.none:=by
 cases u<;>first|rfl|simp[AX]at h
theorem LJ(W:Nat)(t:Tr)(v n m uv:Vl)(bs:List Nat)(F:Nat->Prop)(sl:Vl)(ts:List BY)(w:Wl)(hL:Br w)(hB:Ac w W [v,n,m,uv] 98)(hP:AP w t v bs)(hf:Bt t)(hr:Ax w F sl (Ad ts))(ai:DR ts)(ak:∀s∈ts,s.size<=16777216)(hn:ts.length<=4294967296):
  Cl prog 201 #[nP (nM ⟨W,0,nN⟩),sl] w (Cz w t v bs ts):=by
 obtain⟨a,c,rfl,ad⟩:=hr.cell;rw[Ao];obtain⟨tv,xv,rfl⟩:=hP.iface;have av:w.cell? ⟨W,0,nN⟩=Option.some (nF tv xv):=hB.cell 0;have HC:=hZ ad;have HL:=hZ hL;have am:=hZ ai;have an:=hZ ak;have HF:=hZ hf;have HP:=hZ hP;clear hr hL ad ai ak hB hP hf;go_enter func201,ntmps201
 go_wp2_with fail
 go_loopw [6,22] (fun v6 ab wr=>∃(k:Nat) (u:Tr) (bu rest:List Nat),k<=ts.length/\ab= nI nX k/\Ir w t (nF tv xv) bs (ts.take k) u v6 bu rest/\Chg w wr []) (fun _ ab _=>ts.length-(intOf ab).toNat)
 case atStart=>exact⟨0,t,bs,[],Zj,rfl,Ir.here HP.o,Chg.refl _ _⟩
 case round=>
  obtain⟨k,u,bu,rest,hk,rfl,z,P⟩:=hrel;by_cases ap:k<ts.length
  .obtain⟨s,U⟩:∃s,ts[k]? =Option.some s:=⟨_,Q9 ap⟩
   obtain⟨gb,go,rfl,_,ae⟩:=HC.o k (nG s) (by simp[Ad,U]);have aq:=P.keeps ae;have aj:=Qi U;have au:=an.o s aj;have j:=hZ P;have B:=hZ z;have K:=hZ U;have D:Bt u:=HF.o.lead z.lead;have y:=z.at_;clear P U ae z;by_cases p:AX u=true
   .obtain⟨rfl,_⟩:=y.leaf (fun l e=>by subst e;simp[AX]at p) (fun ks l e=>by subst e;simp[AX]at p)
    have a0:∀(w:Wl),(Instr.typeAssert (nF 183 (nA #[AG u])) 95 175 true).run prog w= .ok (nT #[nP nN,.bool false]) w:=fun _=>Yb
    have a1:∀(w:Wl),(Instr.typeAssert (nF 183 (nA #[AG u])) 95 104 true).run prog w= .ok (nT #[nP nN,.bool false]) w:=fun _=>Yb
    have J:=hZ (Iw B.o.lead K.o (Md p s));clear y D p;go_wp2_with fail
    refine bodyPost_ret (results_tmp2 rfl _ _ _) rfl (Cz.none J.o ?_ rfl);exact cg j.o
   .cases u with
    |list l=>
     obtain⟨b,sv,vs,fs,rfl,h,_⟩:=y.list;have ah:l.length<=65536:=by have:=D.many;simp only[Ab]at this;omega
     have I:=h.at_.length;unfold Jn;have a0:∀(w:Wl),(Instr.typeAssert (nF 104 (nP (Option.some ⟨b,0,Option.none⟩))) 95 175 true).run prog w= .ok (nT #[nP Option.none,.bool false]) w:=fun _=>Yb
     have a1:∀(w:Wl),(Instr.typeAssert (nF 104 (nP (Option.some ⟨b,0,Option.none⟩))) 95 104 true).run prog w= .ok (nT #[nP (Option.some ⟨b,0,Option.none⟩),.bool true]) w:=fun _=>Yb
     obtain⟨L,M,rfl,_⟩:=h.lst.form;have c1:wr.cell? ⟨b,0,nN⟩=Option.some (nS L vs.length M):=j.o.keeps (h.blk.cell 0)
     have H:=UD (∀f,Chg wr f []->Cl prog 149 #[nG s,nI nX vs.length] f fun e w'=>e= nR (Je s l.length)/\Chg f w' []) fun f q=>by
      rw[I];exact Gl s l.length f (HL.o.kept (j.o.trans q)) Zj Zj
     cases hi:bL s l.length with
     |none=>
      have R:Dy (.list l) s=Option.none:=by simp[Dy,D6,hi]
      have J:=hZ (Iw B.o.lead K.o R);unfold Je at H;rw[hi]at H;clear y D p h ah I hi R
      go_wp2_with(first
       |(go_at_call 149;refine(H.o _ (by exact cg cR)).mono ?_;rintro e G ⟨rfl,o⟩;have r:=UD (Chg wr G []) (ct cR o);clear o))
      refine bodyPost_ret (results_tmp2 rfl _ _ _) rfl (Cz.none J.o ?_ rfl);exact cg (j.o.trans r.o)
     |some i=>
      have af:=Jf hi;obtain⟨x,q⟩:∃x,(Ab (.list l))[i]? =Option.some x:=⟨_,Q9 af⟩
      obtain⟨b',g,n',Y,vx,X,aa,ti,d,N,O,E⟩:=Fx y (by show D6 (.list l) s=_;simp only[D6];exact hi) q;unfold Jn at d
      injection d with et d
      subst et
      injection d with d
      injection d with d
      injection d with d
      subst d
      have C:(Vl.slice L vs.length M)= nS (Option.some ⟨g,0,nN⟩) n' Y:=by
       have:=h.blk.cell 0;rw[N]at this;simp only[Qa]at this
       injection this with this
       exact this.symm
      injection C with C e5 e6
      subst C;have Z:=j.o.keeps O;obtain⟨tx,xx,rfl⟩:=E.at_.iface;have V:=hZ (B.o.snoc E);unfold Je at H;rw[hi]at H;have ao:i<vs.length:=Zj
      clear y D p h ah I hi af q E N O e5 e6
      go_wp2_with(first
       |(go_at_call 149;refine(H.o _ (by exact cg cR)).mono ?_;rintro e G ⟨rfl,o⟩;have r:=UD (Chg wr G []) (ct cR o);have d1:=r.o.keeps c1;have d2:=r.o.keeps Z;clear o))
      go_roundw
      case rel=>
       refine⟨k+1,x,X,aa++rest,Zj,by go_num, ?_, ?_⟩
       .rw[Cb K.o];exact V.o
       .exact cg (j.o.trans r.o)
      case measure=>simp[intOf];omega
    |obj ks l=>
     obtain⟨b,sv,sk,vs,fs,rfl,h,_⟩:=y.obj;have Q:=D.good;simp only[Av]at Q;have I:=h.at_.length;unfold IR;have a0:∀(w:Wl),(Instr.typeAssert (nF 175 (nP (Option.some ⟨b,0,Option.none⟩))) 95 175 true).run prog w= .ok (nT #[nP (Option.some ⟨b,0,Option.none⟩),.bool true]) w:=fun _=>Yb
     obtain⟨L,M,rfl,_⟩:=h.lst.form;have c1:wr.cell? ⟨b,0,nN⟩=Option.some (nS L vs.length M):=j.o.keeps (h.blk.cell 0)
     have S:=UD (∀f,Chg wr f []->Cl prog 197 #[nP (Option.some ⟨b,0,nN⟩),nG s] f fun e w'=>∃i:Nat,e= nR (nT #[nI nX i,.bool (C4 ks s)])/\Chg f w' []/\Hr ks s i/\i<=ks.length) fun f q=>
      Pl ks s b _ sk f (h.blk.kept (j.o.trans q)) (h.keys.kept (j.o.trans q)) Q.1 (am.o.right s aj) Zj
     cases A:C4 ks s with
     |false=>
      have R:Dy (.obj ks l) s=Option.none:=by simp[Dy,D6,A]
      have J:=hZ (Iw B.o.lead K.o R);rw[A]at S;clear y D p h Q I A R
      go_wp2_with(first
       |(go_at_call 197;refine(S.o _ (by exact cg cR)).mono ?_;rintro e G ⟨i,rfl,o,_,_⟩;have r:=UD (Chg wr G []) (ct cR o);clear o))
      refine bodyPost_ret (results_tmp2 rfl _ _ _) rfl (Cz.none J.o ?_ rfl);exact cg (j.o.trans r.o)
     |true=>
      obtain⟨pi,T⟩:=Ue (A5 ks s)
      have ar:pi<ks.length:=by rw[T];exact Dk (Cp.1 A)
      obtain⟨x,q⟩:∃x,(Ab (.obj ks l))[pi]? =Option.some x:=⟨_,Q9 (by simp only[Ab];omega)⟩
      obtain⟨b',g,n',Y,vx,X,aa,ti,d,N,O,E⟩:=Fx y (by show D6 (.obj ks l) s=_;simp only[D6];rw[Qr A,<-T]) q;unfold IR at d
      injection d with et d
      subst et
      injection d with d
      injection d with d
      injection d with d
      subst d
      have C:(Vl.slice L vs.length M)= nS (Option.some ⟨g,0,nN⟩) n' Y:=by
       have:=h.blk.cell 0;rw[N]at this;simp only[Qa]at this
       injection this with this
       exact this.symm
      injection C with C e5 e6
      subst C;have Z:=j.o.keeps O;obtain⟨tx,xx,rfl⟩:=E.at_.iface;have V:=hZ (B.o.snoc E)
      have al:=UD (∀f,Chg wr f []->Cl prog 197 #[nP (Option.some ⟨b,0,nN⟩),nG s] f fun e w'=>e= nR (nT #[nI nX pi,.bool true])/\Chg f w' []) fun f q=>
       (S.o f q).mono fun e w' ⟨i,o,h2,h3,_⟩=>⟨by rw[o,A,(h3.yes A).1,T],h2⟩
      have ao:pi<vs.length:=by have:=Q.2.1;omega
      clear y D p h Q I A q E N O e5 e6 S T
      go_wp2_with(first
       |(go_at_call 197;refine(al.o _ (by exact cg cR)).mono ?_;rintro e G ⟨rfl,o⟩;have r:=UD (Chg wr G []) (ct cR o);have d1:=r.o.keeps c1;have d2:=r.o.keeps Z;clear o))
      go_roundw
      case rel=>
       refine⟨k+1,x,X,aa++rest,Zj,by go_num, ?_, ?_⟩
       .rw[Cb K.o];exact V.o
       .exact cg (j.o.trans r.o)
      case measure=>simp[intOf];omega
    |null=>simp[AX]at p
    |flag _=>simp[AX]at p
    |num _=>simp[AX]at p
    |text _=>simp[AX]at p
  .have ag:ts.take k=ts:=Qn Zj
   rw[ag]at z;have B:=hZ z;have j:=hZ P;obtain⟨tu,xu,rfl⟩:=z.at_.iface;clear z P ag;go_wp2_with fail
   refine bodyPost_ret (results_tmp2 rfl _ _ _) rfl (Cz.some B.o ?_ rfl);exact cg j.o
def F8(w:Wl)(t:Tr)(v:Vl)(bs:List Nat)(ts:List BY)(e:Ending)(w':Wl):Prop:=
 Chg w w' []/\match Ah t ts with
  |some u=>∃a b rest,e= nR a/\Ir w t v bs ts u a b rest
  |none=>e=By 4
theorem Jx{w:Wl}{t u:Tr}{v:Vl}{bs:List Nat}{ts:List BY}(h:Ah t ts=nM u):F8 w t v bs ts=fun e w'=>Chg w w' []/\∃a b rest,e= nR a/\Ir w t v bs ts u a b rest:=by
 funext e w';unfold F8;rw[h]
theorem Jw{w:Wl}{t:Tr}{v:Vl}{bs:List Nat}{ts:List BY}(h:Ah t ts=nN):F8 w t v bs ts=fun e w'=>Chg w w' []/\e=By 4:=by
 funext e w';unfold F8;rw[h]
theorem Iv{w:Wl}{t u:Tr}{v:Vl}{bs:List Nat}{ts:List BY}(h:Ah t ts=nM u):Cz w t v bs ts=fun e w'=>Chg w w' []/\∃a b rest,e= nR (nT #[a,.bool true])/\Ir w t v bs ts u a b rest:=by
 funext e w';unfold Cz;rw[h]
theorem U4{w:Wl}{t:Tr}{v:Vl}{bs:List Nat}{ts:List BY}(h:Ah t ts=nN):Cz w t v bs ts=fun e w'=>Chg w w' []/\e= nR (nT #[.nilIface,.bool false]):=by
 funext e w';unfold Cz;rw[h]
theorem LI(W:Nat)(t:Tr)(v n m z:Vl)(bs:List Nat)(F:Nat->Prop)(y:Vl)(ts:List BY)(w:Wl)(o:Br w)(l:Ac w W [v,n,m,z] 98)(p:AP w t v bs)(r:Bt t)(k:Ax w F y (Ad ts))(j:DR ts)(x:∀s∈ts,s.size<=16777216):
  Cl prog 170 #[nP (nM ⟨W,0,nN⟩),y] w (F8 w t v bs ts):=by
 obtain⟨a,c,rfl,_⟩:=k.cell;have f:=hZ (LJ W t v n m z bs F _ ts w o l p r k j x (Q7 j.many Zj));clear o l p r k j x
 cases h:Ah t ts with
 |none=>
  rw[U4 h]at f;rw[Jw h];clear h;go_enter func170,ntmps170
  go_wp2_with(first
   |(go_at_call 201;refine f.o.mono ?_;rintro e B ⟨d,rfl⟩;have g:=hZ d;clear d)
   |(go_at_call 53;refine(Bu _ _).mono ?_;rintro e w2 ⟨q,b⟩;unfold By at q;subst q;have i:=hZ b;clear b))
  exact⟨rfl,g.o.trans i.o,rfl⟩
 |some u=>
  rw[Iv h]at f;rw[Jx h];clear h;go_enter func170,ntmps170
  go_wp2_with(first
   |(go_at_call 201;refine f.o.mono ?_;rintro e B ⟨d,D,A,rest,rfl,b⟩;obtain⟨C,E,rfl⟩:=b.at_.iface;have g:=hZ d;have i:=hZ b;clear d b)
   |(go_at_call 53;refine(Bv _ _).mono ?_;rintro e w2 ⟨rfl,rfl⟩))
  go_ret
  exact⟨g.o,_,A,rest,rfl,i.o⟩
def Hi(n b d:Nat):Bool:=decide (n<=65536)&&decide (b<=2097152)&&decide (d<=512)
def Dh(W:Nat)(v a:Vl)(n b d:Nat)(w:Wl)(e:Ending)(w':Wl):Prop:=
 if Hi n b d=true then e= nR (nT #[])/\Ac w' W [v,nI nX n,nI nX b,a] 98/\Chg w w' [W]else e=By 3/\Chg w w' []
theorem En{W:Nat}{v a:Vl}{n b d:Nat}(h:Hi n b d=true):Dh W v a n b d=fun w e w'=>e= nR (nT #[])/\Ac w' W [v,nI nX n,nI nX b,a] 98/\Chg w w' [W]:=by
 funext w e w';unfold Dh;rw[Qr h]
theorem DO{W:Nat}{v a:Vl}{n b d:Nat}(h:Hi n b d=false):Dh W v a n b d=fun w e w'=>e=By 3/\Chg w w' []:=by
 funext w e w';unfold Dh;rw[Qs (by simp[h])]
theorem KB{n b d:Nat}:Hi n b d=true↔n<=65536/\b<=2097152/\d<=512:=by unfold Hi;simp[and_assoc]
theorem E9{n b d:Nat}(h:¬(n<=65536/\b<=2097152/\d<=512)):Hi n b d=false:=by
 cases a:Hi n b d with
 |false=>rfl
 |true=>exact absurd (KB.1 a) h
def KT(w:Wl)(a:Vl)(m c:Nat):Prop:=(a= .nilIface/\m=0/\c=0)\/∃u b,AP w u a b/\Av u/\(Ag u).within=true/\m=(Ag u).nodes/\c=(Ag u).bytes
theorem Jl(W:Nat)(v uv:Vl)(N B:Nat)(x:Tr)(vx wv:Vl)(bx:List Nat)(m c n' Y C:Nat)(ta:Option Addr)(r tc:Nat)(w:Wl)(hB:Ac w W [v,nI nX N,nI nX B,uv] 98)(hx:AP w x vx bx)(hg:Av x)(hw:(Ag x).within=true)(ag:KT w wv m c)(hN:N<=65536)(ah:B<=2097152)(hk:C<=16777216)(ai:r<=65536)(G:n'+m=N+(Ag x).nodes)(F:Y+c=B+(Ag x).bytes+C):
  Cl prog 195 #[nP (nM ⟨W,0,nN⟩),nS ta r tc,vx,wv,nI nX C] w (Dh W v uv n' Y (r+(Ag x).depth) w):=by
 obtain⟨tx,xx,rfl⟩:=hx.iface;have af:=Ar hw;obtain⟨x1,x2,x3⟩:=af;obtain⟨f,args,hm,Z⟩:=MD _ x _ bx w (Q8 _) hg hw hx;have K:=hZ hm;have H:=hZ Z;have X:=hZ hB;have n:=hB.lt;have L:∀j,w.frozen? ⟨W,j,nN⟩=false:=fun j=>hB.frozen j
 obtain⟨sz,ab⟩:=Ue (Ag x)
 rw[<-ab]at H G F x1 x2 x3|-;clear hm Z hB hg hw
 rcases ag with⟨rfl,rfl,rfl⟩|⟨u,bu,hu,ae,ad,rfl,rfl⟩
 .clear hx ab
  have t:(n':Int)=((N:Int)+(sz.nodes:Int)):=Zj
  have y:(Y:Int)=((B:Int)+((sz.bytes:Int)+(C:Int))):=Zj
  have I:((r+sz.depth:Nat):Int)=((r:Int)+(sz.depth:Int)):=Zj
  have G1:=hZ t;have G2:=hZ y;have c1:w.cell? ⟨W,1,nN⟩=nM (nI nX N):=X.o.cell 1;have i:w.cell? ⟨W,2,nN⟩=nM (nI nX B):=X.o.cell 2;by_cases q:n'<=65536
  .have j1:((N:Int)+(sz.nodes:Int))<=65536:=by omega
   by_cases A:Y<=2097152
   .have j2:((B:Int)+((sz.bytes:Int)+(C:Int)))<=2097152:=by omega
    by_cases J:r+sz.depth<=512
    .have j3:((r:Int)+(sz.depth:Int))<=512:=by omega
     rw[En (KB.2 ⟨q,A,J⟩)];clear t y I G F q A J;go_enter func195,ntmps195
     go_wp2_with(first
    |(refine Am rfl _ _ _ rfl _ rfl f args K.o _ H.o ?_;rintro e o ⟨rfl,d⟩;refine⟨_,rfl, ?_⟩;have a:=hZ d;unfold Jv;have R:=a.o.keeps c1;have S:=a.o.keeps i;have V:=Q6 n a.o.size;have U:∀j,o.frozen? ⟨W,j,nN⟩=false:=fun j=>(a.o.frozen (p:=⟨W,j,nN⟩) n Zh).trans (L j);clear d)
    |(go_at_call 53;refine(Bv _ _).mono ?_;rintro e w4 ⟨rfl,rfl⟩))
     go_end0
     refine⟨rfl, ?_, ?_⟩
     .refine(((X.o.kept a.o).set 1 (nI nX ((N:Int)+(sz.nodes:Int)))).set 2 (nI nX ((B:Int)+((sz.bytes:Int)+(C:Int))))).eq ?_
      simp only[List.set_cons_succ,List.set_cons_zero];rw[<-G1.o,<-G2.o]
     .have Z:Chg w o [W]:=a.o.none _
      (have:=Z;exact oq)
    .have j3:¬(((r:Int)+(sz.depth:Int))<=512):=by omega
     rw[DO (E9 (fun h=>J h.2.2))];clear t y I G F q A J;go_enter func195,ntmps195
     go_wp2_with(first
    |(refine Am rfl _ _ _ rfl _ rfl f args K.o _ H.o ?_;rintro e o ⟨rfl,d⟩;refine⟨_,rfl, ?_⟩;have a:=hZ d;unfold Jv;have R:=a.o.keeps c1;have S:=a.o.keeps i;have V:=Q6 n a.o.size;have U:∀j,o.frozen? ⟨W,j,nN⟩=false:=fun j=>(a.o.frozen (p:=⟨W,j,nN⟩) n Zh).trans (L j);clear d)
    |(go_at_call 53;refine(Bu _ _).mono ?_;rintro e E ⟨l,k⟩;unfold By at l;subst l;have s:=UD (Chg w E []) (Chg.trans (b:=_) (by(have:=a.o;exact oq)) k);clear k))
     exact⟨rfl,rfl,s.o⟩
   .have j2:¬(((B:Int)+((sz.bytes:Int)+(C:Int)))<=2097152):=by omega
    rw[DO (E9 (fun h=>A h.2.1))];clear t y I G F q A;go_enter func195,ntmps195
    go_wp2_with(first
    |(refine Am rfl _ _ _ rfl _ rfl f args K.o _ H.o ?_;rintro e o ⟨rfl,d⟩;refine⟨_,rfl, ?_⟩;have a:=hZ d;unfold Jv;have R:=a.o.keeps c1;have S:=a.o.keeps i;have V:=Q6 n a.o.size;have U:∀j,o.frozen? ⟨W,j,nN⟩=false:=fun j=>(a.o.frozen (p:=⟨W,j,nN⟩) n Zh).trans (L j);clear d)
    |(go_at_call 53;refine(Bu _ _).mono ?_;rintro e E ⟨l,k⟩;unfold By at l;subst l;have s:=UD (Chg w E []) (Chg.trans (b:=_) (by(have:=a.o;exact oq)) k);clear k))
    exact⟨rfl,rfl,s.o⟩
  .have j1:¬(((N:Int)+(sz.nodes:Int))<=65536):=by omega
   rw[DO (E9 (fun h=>q h.1))];clear t y I G F q;go_enter func195,ntmps195
   go_wp2_with(first
    |(refine Am rfl _ _ _ rfl _ rfl f args K.o _ H.o ?_;rintro e o ⟨rfl,d⟩;refine⟨_,rfl, ?_⟩;have a:=hZ d;unfold Jv;have R:=a.o.keeps c1;have S:=a.o.keeps i;have V:=Q6 n a.o.size;have U:∀j,o.frozen? ⟨W,j,nN⟩=false:=fun j=>(a.o.frozen (p:=⟨W,j,nN⟩) n Zh).trans (L j);clear d)
    |(go_at_call 53;refine(Bu _ _).mono ?_;rintro e E ⟨l,k⟩;unfold By at l;subst l;have s:=UD (Chg w E []) (Chg.trans (b:=_) (by(have:=a.o;exact oq)) k);clear k))
   exact⟨rfl,rfl,s.o⟩
 .obtain⟨tu,xu,rfl⟩:=hu.iface
  have aa:=Ar ad;obtain⟨u1,u2,u3⟩:=aa;have HU:=UD (∀wx,Chg w wx []->JB (nF tu xu) (Ag u) wx) fun wx h=>MD _ u _ bu wx (Q8 _) ae ad (hu.chg h Zh)
  obtain⟨M,aa⟩:=Ue (Ag u)
  rw[<-aa]at HU G F u1 u2 u3;clear hu ae ad hx ab aa;have t:(n':Int)=((N:Int)+((sz.nodes:Int)-(M.nodes:Int))):=Zj
  have y:(Y:Int)=((B:Int)+((sz.bytes:Int)+(C:Int)-(M.bytes:Int))):=Zj
  have I:((r+sz.depth:Nat):Int)=((r:Int)+(sz.depth:Int)):=Zj
  have G1:=hZ t;have G2:=hZ y;have c1:w.cell? ⟨W,1,nN⟩=nM (nI nX N):=X.o.cell 1;have i:w.cell? ⟨W,2,nN⟩=nM (nI nX B):=X.o.cell 2;by_cases q:n'<=65536
  .have j1:((N:Int)+((sz.nodes:Int)-(M.nodes:Int)))<=65536:=by omega
   by_cases A:Y<=2097152
   .have j2:((B:Int)+((sz.bytes:Int)+(C:Int)-(M.bytes:Int)))<=2097152:=by omega
    by_cases J:r+sz.depth<=512
    .have j3:((r:Int)+(sz.depth:Int))<=512:=by omega
     rw[En (KB.2 ⟨q,A,J⟩)];clear t y I G F q A J;go_enter func195,ntmps195
     go_wp2_with(first
    |(refine Am rfl _ _ _ rfl _ rfl f args K.o _ H.o ?_;rintro e o ⟨rfl,d⟩;refine⟨_,rfl, ?_⟩;have a:=hZ d;unfold Jv;obtain⟨T,Q,D,i⟩:=HU.o o d;have P:=hZ D;have O:=hZ i;clear D i;clear d)
    |(refine Am rfl _ _ _ rfl _ rfl T Q P.o _ O.o ?_;rintro e w2 ⟨rfl,z⟩;refine⟨_,rfl, ?_⟩;have g:=UD (Chg w w2 []) (a.o.trans z);unfold Jv;have R:=g.o.keeps c1;have S:=g.o.keeps i;have V:=Q6 n g.o.size;have U:∀j,w2.frozen? ⟨W,j,nN⟩=false:=fun j=>(g.o.frozen (p:=⟨W,j,nN⟩) n Zh).trans (L j);clear z)
    |(go_at_call 53;refine(Bv _ _).mono ?_;rintro e w4 ⟨rfl,rfl⟩))
     go_end0
     refine⟨rfl, ?_, ?_⟩
     .refine(((X.o.kept g.o).set 1 (nI nX ((N:Int)+((sz.nodes:Int)-(M.nodes:Int))))).set 2 (nI nX ((B:Int)+((sz.bytes:Int)+(C:Int)-(M.bytes:Int))))).eq ?_
      simp only[List.set_cons_succ,List.set_cons_zero];rw[<-G1.o,<-G2.o]
     .have Z:Chg w w2 [W]:=g.o.none _
      (have:=Z;exact oq)
    .have j3:¬(((r:Int)+(sz.depth:Int))<=512):=by omega
     rw[DO (E9 (fun h=>J h.2.2))];clear t y I G F q A J;go_enter func195,ntmps195
     go_wp2_with(first
    |(refine Am rfl _ _ _ rfl _ rfl f args K.o _ H.o ?_;rintro e o ⟨rfl,d⟩;refine⟨_,rfl, ?_⟩;have a:=hZ d;unfold Jv;obtain⟨T,Q,D,i⟩:=HU.o o d;have P:=hZ D;have O:=hZ i;clear D i;clear d)
    |(refine Am rfl _ _ _ rfl _ rfl T Q P.o _ O.o ?_;rintro e w2 ⟨rfl,z⟩;refine⟨_,rfl, ?_⟩;have g:=UD (Chg w w2 []) (a.o.trans z);unfold Jv;have R:=g.o.keeps c1;have S:=g.o.keeps i;have V:=Q6 n g.o.size;have U:∀j,w2.frozen? ⟨W,j,nN⟩=false:=fun j=>(g.o.frozen (p:=⟨W,j,nN⟩) n Zh).trans (L j);clear z)
    |(go_at_call 53;refine(Bu _ _).mono ?_;rintro e E ⟨l,k⟩;unfold By at l;subst l;have s:=UD (Chg w E []) (Chg.trans (b:=_) (by(have:=g.o;exact oq)) k);clear k))
     exact⟨rfl,rfl,s.o⟩
   .have j2:¬(((B:Int)+((sz.bytes:Int)+(C:Int)-(M.bytes:Int)))<=2097152):=by omega
    rw[DO (E9 (fun h=>A h.2.1))];clear t y I G F q A;go_enter func195,ntmps195
    go_wp2_with(first
    |(refine Am rfl _ _ _ rfl _ rfl f args K.o _ H.o ?_;rintro e o ⟨rfl,d⟩;refine⟨_,rfl, ?_⟩;have a:=hZ d;unfold Jv;obtain⟨T,Q,D,i⟩:=HU.o o d;have P:=hZ D;have O:=hZ i;clear D i;clear d)
    |(refine Am rfl _ _ _ rfl _ rfl T Q P.o _ O.o ?_;rintro e w2 ⟨rfl,z⟩;refine⟨_,rfl, ?_⟩;have g:=UD (Chg w w2 []) (a.o.trans z);unfold Jv;have R:=g.o.keeps c1;have S:=g.o.keeps i;have V:=Q6 n g.o.size;have U:∀j,w2.frozen? ⟨W,j,nN⟩=false:=fun j=>(g.o.frozen (p:=⟨W,j,nN⟩) n Zh).trans (L j);clear z)
    |(go_at_call 53;refine(Bu _ _).mono ?_;rintro e E ⟨l,k⟩;unfold By at l;subst l;have s:=UD (Chg w E []) (Chg.trans (b:=_) (by(have:=g.o;exact oq)) k);clear k))
    exact⟨rfl,rfl,s.o⟩
  .have j1:¬(((N:Int)+((sz.nodes:Int)-(M.nodes:Int)))<=65536):=by omega
   rw[DO (E9 (fun h=>q h.1))];clear t y I G F q;go_enter func195,ntmps195
   go_wp2_with(first
    |(refine Am rfl _ _ _ rfl _ rfl f args K.o _ H.o ?_;rintro e o ⟨rfl,d⟩;refine⟨_,rfl, ?_⟩;have a:=hZ d;unfold Jv;obtain⟨T,Q,D,i⟩:=HU.o o d;have P:=hZ D;have O:=hZ i;clear D i;clear d)
    |(refine Am rfl _ _ _ rfl _ rfl T Q P.o _ O.o ?_;rintro e w2 ⟨rfl,z⟩;refine⟨_,rfl, ?_⟩;have g:=UD (Chg w w2 []) (a.o.trans z);unfold Jv;have R:=g.o.keeps c1;have S:=g.o.keeps i;have V:=Q6 n g.o.size;have U:∀j,w2.frozen? ⟨W,j,nN⟩=false:=fun j=>(g.o.frozen (p:=⟨W,j,nN⟩) n Zh).trans (L j);clear z)
    |(go_at_call 53;refine(Bu _ _).mono ?_;rintro e E ⟨l,k⟩;unfold By at l;subst l;have s:=UD (Chg w E []) (Chg.trans (b:=_) (by(have:=g.o;exact oq)) k);clear k))
   exact⟨rfl,rfl,s.o⟩
end
end Go.Proofs.YtkfnkppdhcaeoaaGreatDoor

/- Part 14 of the proof of both cards. -/
import Derived.Test.YtpdnhfkacgdocaaGreatDoorM13
set_option maxRecDepth 100000
set_option maxHeartbeats 32000000
set_option linter.all false
namespace Go.Proofs.YtpdnhfkacgdocaaGreatDoor
open Go renaming Calls->Cl,TypeId->Ti,Value->Vl,World->Wl
open Go.Value renaming agg->nA,iface->nF,int->nI,pointer->nP,slice->nS,string->nG,tuple->nT
open Go.IntKind renaming i64->nX
open Go.Ending renaming returned->nR
open Go.Obj renaming cells->nC
open Option renaming none->nN,some->nM
section
open _root_.Go.Proofs.Tryz
open Go Go.Shelf Go.RowKit Go.Lib Tree Ptr
variable{F:Nat->Prop}
theorem Zs(a b:Option Addr)(n c m d:Nat)(w:Wl)(h:n≠m):Cl prog 34 #[nS a n c,nS b m d] w fun e w'=>e= nR (.bool false)/\w=w':=by
 have f:((n:Int) !=(m:Int))=true:=by rw[bne_iff_ne];omega
 go_enter func34,ntmps34;go_wp2;go_ret;exact⟨rfl,rfl⟩
theorem Ax.cells{w:Wl}{f:Vl}{xs:List Vl}(h:Ax w F f xs)(l:0<xs.length):∃b o c,f= nS (nM ⟨b,o,nN⟩) xs.length c/\∀i v,xs[i]? =nM v->w.cell? ⟨b,o+i,nN⟩=nM v:=by
 obtain⟨a,c,rfl,d⟩:=h.cell;obtain⟨b,o,rfl,_,_⟩:=d 0 _ (Q9 l);refine⟨b,o,c,rfl,fun i v m=> ?_⟩;obtain⟨n,p,e,_,k⟩:=d i v m;injection e with e
 injection e with g j
 subst g;subst j;exact k
theorem Ix{G:Nat->Prop}(ks f:List BY)(sk s:Vl)(w:Wl)(n:Ax w F sk (Ad ks))(o:Ax w G s (Ad f))(H:ks.length<=4294967296)(E:f.length<=4294967296):
  Cl prog 34 #[sk,s] w fun e w'=>e= nR (.bool (decide (ks=f)))/\∃q,w'=w.drewN q:=by
 obtain⟨a,c,rfl,_⟩:=n.cell;obtain⟨b,d,rfl,_⟩:=o.cell;rw[Ao]at n o|-;rw[Ao];by_cases p:ks.length=f.length
 .by_cases v:ks.length=0
  .have g:ks=[]:=List.eq_nil_of_length_eq_zero v;have i:f=[]:=List.eq_nil_of_length_eq_zero Zj;subst g;subst i;have:=Any.slices_Equal_string_empty b9 a b c 0 d w Zj;exact this.mono fun e w' h=>⟨by rw[h.1];rfl,0,h.2⟩
  .obtain⟨t,z,c1,g,x⟩:=Ax.cells n (by rw[Ao];omega);obtain⟨u,A,B,i,y⟩:=Ax.cells o (by rw[Ao];omega);injection g with g _ C
   injection i with i _ D
   subst g;subst i
   have r:∀(l:List BY) (j:Nat),j<l.length->(Ad l)[j]? =nM (nG (l.getD j ByteArray.empty)):=fun l j k=>by
    simp[Ad,k]
   have m:=Any.slices_Equal_string b9 t z ks.length c u A f.length d ks f w (Q8 _) (Q8 _) Zj Zj (fun j k=>x j _ (r ks j k)) (fun j k=>y j _ (r f j k));rw[Qn (Q8 _),Qn (Q8 _)]at m;change Cl prog 34 _ _ _ at m;exact m
 .refine(Zs a b ks.length c f.length d w p).mono ?_;rintro e w' ⟨rfl,rfl⟩;exact⟨by rw[decide_eq_false (fun h=>p (by rw[h]))],0,rfl⟩
end
section
open _root_.Go.Proofs.Tryz
open Go Go.Shelf Go.RowKit Go.Lib Tree
theorem wC{p:Prop}(h:p:=by exact cg cR):p:=h
theorem WM(s:Ap)(c d:Vl)(w:Wl)(j l:Nat->Prop)(a:Ax w j c (Ad s.keys))(g:Ax w l d (Ad s.keys))(n:∀k,j k->k<w.heap.size)(o:∀k,l k->k<w.heap.size)(i:s.keys.length<=4294967296):
  Cl prog 21 #[nA (AI s c).toArray,nA (AI s d).toArray] w fun e w'=>e= nR (.bool true)/\Chg w w' []:=by
 have f:=UD (∀b,Chg w b []->Cl prog 34 #[c,d] b fun e w'=>e= nR (.bool true)/\Chg b w' []) fun b r=>by
  refine(Ix s.keys s.keys c d b (a.kept (r.keepsF n) (fun _ h=>h)) (g.kept (r.keepsF o) (fun _ h=>h)) i i).mono ?_;rintro e w' ⟨rfl,q,rfl⟩;exact⟨by rw[decide_eq_true rfl],(Chg.refl b []).drewN q⟩
 obtain⟨m,c1,rfl,_⟩:=a.cell;obtain⟨v,x,rfl,_⟩:=g.cell;rw[Ao]at f|-;have u:=UD (Ac ((w.alloc (nC (AI s (nS m s.keys.length c1)).toArray 55)).alloc (nC (AI s (nS v s.keys.length x)).toArray 55)) w.heap.size (AI s (nS m s.keys.length c1)) 55) ((Ac.new w _ _).alloc _);obtain⟨B,p⟩:=Ue s.keys.length;rw[<-p]at f u|-;clear a g i p n o;obtain⟨C,A,y,D,z,ks⟩:=s;unfold AI at*;dsimp only at*;go_enter func21,ntmps21;go_wp2_with((go_at_call 34;refine(f.o _ wC).mono ?_;rintro e E ⟨rfl,a⟩;have t:=hZ a;clear a));go_ret;exact⟨rfl,ct cR t.o⟩
end
section
open _root_.Go.Proofs.Tryz
open Go Go.Shelf Go.RowKit Go.Lib Tree Ptr
variable{l m:List Tr}{p:Prop}
def BU(b:Bool)(w:Wl)(e:Ending)(w':Wl):Prop:=e= nR (.bool b)/\Chg w w' []
theorem Sd(h:l≠m):ER l m=false:=by
 cases a:ER l m with
 |false=>rfl
 |true=>exact absurd ((Gq l m).1 a) h
theorem Vy(h:l=m):ER l m=true:=(Gq l m).2 h
theorem XI{l m:Tr}(h:l≠m):BQ l m=false:=by
 cases a:BQ l m with
 |false=>rfl
 |true=>exact absurd ((KG l m).1 a) h
theorem Vz{l m:Tr}(h:l=m):BQ l m=true:=(KG l m).2 h
theorem RC(l m:List Tr)(vs us:List Vl)(fs gs:List Nat)(a b:Option Addr)(c d:Nat)(w:Wl)(F:AK w (nS a vs.length c) 67 vs)(G:AK w (nS b us.length d) 67 us)(p:PsAt w l vs fs)(q:PsAt w m us gs)(Z:l.length<=65536)(C:∀t s v u E D w',t∈l->s∈m->AP w' t v E->AP w' s u D->Cl prog 109 #[v,u] w' (BU (BQ t s) w')):
  Cl prog 139 #[nS a vs.length c,nS b us.length d,.func (.func 109) #[] #[]] w (BU (ER l m) w):=by
 have M:=p.length;have L:=q.length;by_cases x:l.length=m.length
 .have H:us.length=vs.length:=by omega
  rw[H];have ab:((vs.length:Int) !=(vs.length:Int))=false:=Zh;have ae:vs.length<=65536:=Zj;have W:=hZ M;have V:=hZ L;have P:=hZ x;have O:=hZ H;have R:=hZ F;have S:=hZ G;have HP:=hZ p;have HQ:=hZ q;have HI:=hZ C;clear F G p q C M L x H Z;go_enter func139,ntmps139;go_wp2_with fail;go_loopw [17] (fun N wr=>∃k:Nat,k<=vs.length/\N= nI nX k/\(∀j,j<k->l[j]? =m[j]?)/\Chg w wr []) (fun N _=>vs.length-(intOf N).toNat)
  case atStart=>exact⟨0,Zj,rfl,fun j r=>Zj,Chg.refl _ _⟩
  case round=>
   obtain⟨k,hk,rfl,X,Y⟩:=hrel;have Q:=hZ X;have f:=hZ Y;clear X Y;by_cases aa:k<vs.length
   .obtain⟨t,z⟩:∃t,l[k]? =nM t:=⟨_,Q9 (by have:=W.o;omega)⟩;obtain⟨s,y⟩:∃s,m[k]? =nM s:=⟨_,Q9 (by have:=V.o;have:=O.o;omega)⟩;obtain⟨v,E,hv,J,_⟩:=HP.o.get z;obtain⟨u,D,K,I,_⟩:=HQ.o.get y
    obtain⟨ga,rfl⟩:∃g,a=nM ⟨g,0,nN⟩:=by
     rcases R.o.one with⟨_,h⟩|⟨g,_,h,_⟩
     .subst h;simp at aa
     .injection h with h;exact⟨g,h⟩
    obtain⟨gb,rfl⟩:∃g,b=nM ⟨g,0,nN⟩:=by
     rcases S.o.one with⟨_,h⟩|⟨g,_,h,_⟩
     .subst h;simp at K
     .injection h with h;exact⟨g,h⟩
    obtain⟨tv,xv,rfl⟩:=J.iface;obtain⟨tu,xu,rfl⟩:=I.iface;have c1:wr.cell? ⟨ga,k,nN⟩=nM (nF tv xv):=f.o.keeps (R.o.cell rfl k _ hv);have c2:wr.cell? ⟨gb,k,nN⟩=nM (nF tu xu):=f.o.keeps (S.o.cell rfl k _ K);have o:=hZ (HI.o t s _ _ E D wr (Qi z) (Qi y) (J.chg f.o Zh) (I.chg f.o Zh));have U:=hZ z;have T:=hZ y;clear z y hv K J I;by_cases i:t=s
    .rw[Vz i]at o;have B:=hZ i;clear i
     go_wp2_with(first
      |(go_at_call 109;refine o.o.mono ?_;rintro e w1 ⟨rfl,n⟩;have A:=hZ n;clear n))
     go_roundw
     case rel=>exact⟨k+1,Zj,by go_num,fun j r=>by
      rcases Nat.lt_succ_iff_lt_or_eq.1 r with h|rfl
      .exact Q.o j h
      .rw[U.o,T.o,B.o],f.o.trans A.o⟩
     case measure=>simp[intOf];omega
    .rw[XI i]at o;have B:=hZ i;clear i
     go_wp2_with(first
      |(go_at_call 109;refine o.o.mono ?_;rintro e w1 ⟨rfl,n⟩;have A:=hZ n;clear n))
     go_ret
     exact⟨Bo (Sd (fun h=>B.o (by
      have:=U.o;rw[h,T.o]at this;injection this with this
      exact this.symm))).symm,f.o.trans A.o⟩
   .have ad:k=vs.length:=by omega
    go_wp2_with fail;go_ret
    exact⟨Bo (Vy (List.ext_getElem? fun j=>by
     by_cases r:j<k
     .exact Q.o j r
     .rw[List.getElem?_eq_none (by have:=W.o;omega),List.getElem?_eq_none (by have:=V.o;have:=O.o;omega)])).symm,f.o⟩
 .have ab:((vs.length:Int) !=(us.length:Int))=true:=by rw[bne_iff_ne];omega
  have P:=hZ x;clear F G p q C M L x Z;go_enter func139,ntmps139;go_wp2_with fail;go_ret;exact⟨Bo (Sd (fun h=>P.o (by rw[h]))).symm,Chg.refl _ _⟩
theorem ww(h:p:=by
 injection e with j o
 subst j;subst o;exact fun _=>Yb):p:=h
theorem wB(h:p:=by go_wp2_with fail;go_ret;exact⟨rfl,by exact cg cR⟩):p:=h
theorem wG(h:p:=by obtain⟨e,_⟩:=p.leaf (fun l e=>by subst e;simp[AX]at B) (fun ks l e=>by subst e;simp[AX]at B);exact ww):p:=h
theorem wK(h:p:=by go_enter func109,ntmps109;go_wp2_with fail;go_quiet(fail);exact wB):p:=h
theorem ZB:∀(k:Nat) (t s:Tr) (v u:Vl) (bv bu:List Nat) (w:Wl),(Ag t).nodes<=k->(Ag t).nodes<=65536->Av t->Av s->AP w t v bv->AP w s u bu->Cl prog 109 #[v,u] w (BU (BQ t s) w):=by
 intro k;induction k with
 |zero=>intro t _ _ _ _ _ _ h;have:=Cv t;omega
 |succ k ih=>
  intro t s v u bv bu w X Z J D E p
  have ak:∀x y L M N O w',x∈Ab t->y∈Ab s->AP w' x L N->AP w' y M O->Cl prog 109 #[L,M] w' (BU (BQ x y) w'):=fun x y L M N O w' d hy r Q=>by
   obtain⟨i,hi⟩:=List.mem_iff_getElem?.1 d;have:=CO hi;exact ih x y L M N O w' Zj Zj (J.items x d) (D.items y hy) r Q
  obtain⟨tu,xu,rfl⟩:=p.iface;have HK:=hZ ak;clear ak ih;by_cases A:AX t=true
  .obtain⟨rfl,rfl⟩:=E.leaf (fun l e=>by subst e;simp[AX]at A) (fun ks l e=>by subst e;simp[AX]at A);have a0:∀(w:Wl),(Instr.typeAssert (nF 169 (nA #[AG t])) 67 169 true).run prog w= .ok (nT #[nA #[AG t],.bool true]) w:=fun _=>Yb;obtain⟨st,sx,ah⟩:∃st sx,AG t= nF st sx:=by cases t<;>first|exact⟨_,_,rfl⟩|simp[AX]at A
   by_cases B:AX s=true
   .obtain⟨e,rfl⟩:=p.leaf (fun l e=>by subst e;simp[AX]at B) (fun ks l e=>by subst e;simp[AX]at B);injection e with j o
    subst j;subst o;have a1:∀(w:Wl),(Instr.typeAssert (nF 169 (nA #[AG s])) 67 169 true).run prog w= .ok (nT #[nA #[AG s],.bool true]) w:=fun _=>Yb;obtain⟨ss,sy,am⟩:∃st sx,AG s= nF st sx:=by cases s<;>first|exact⟨_,_,rfl⟩|simp[AX]at B
    have ai:=fun w=>XJ t s A B J D w;rw[ah]at a0 ai|-;rw[am]at a1 ai|-;obtain⟨B,I⟩:=Ue (BQ t s);rw[<-I]at ai|-;clear ah am I E p J D;go_enter func109,ntmps109;exact wB
   .have K:BQ t s=false:=by
     cases s with
     |list m=>cases t<;>simp[BQ,AX]at A|-
     |obj f m=>cases t<;>simp[BQ,AX]at A|-
     |_=>simp[AX]at B
    have a1:∀(w:Wl),(Instr.typeAssert (nF tu xu) 67 169 true).run prog w= .ok (nT #[nA #[.nilIface],.bool false]) w:=by
     cases s with
     |list m=>
      obtain⟨b,sv,us,P,e,_,_⟩:=p.list;exact ww
     |obj f m=>
      obtain⟨b,sv,sk,us,P,e,_,_⟩:=p.obj;exact ww
     |_=>simp[AX]at B
    rw[ah]at a0|-;rw[K];clear ah K E p J D;go_enter func109,ntmps109;exact wB
  .cases t with
   |list l=>
    obtain⟨b,sv,vs,fs,e,g,_⟩:=E.list;subst e;unfold Jn;have a0:∀(w:Wl),(Instr.typeAssert (nF 155 (nP (nM ⟨b,0,nN⟩))) 67 169 true).run prog w= .ok (nT #[nA #[.nilIface],.bool false]) w:=fun _=>Yb;have a1:∀(w:Wl),(Instr.typeAssert (nF 155 (nP (nM ⟨b,0,nN⟩))) 67 155 true).run prog w= .ok (nT #[nP (nM ⟨b,0,nN⟩),.bool true]) w:=fun _=>Yb;by_cases af:∃m,s= .list m
    .obtain⟨m,rfl⟩:=af;obtain⟨C,su,us,P,e,z,_⟩:=p.list;injection e with j o
     subst j;subst o;have a2:∀(w:Wl),(Instr.typeAssert (nF 155 (nP (nM ⟨C,0,nN⟩))) 67 155 true).run prog w= .ok (nT #[nP (nM ⟨C,0,nN⟩),.bool true]) w:=fun _=>Yb;obtain⟨a,c,rfl,_⟩:=g.lst.form;obtain⟨G,H,rfl,_⟩:=z.lst.form;have c1:w.cell? ⟨b,0,nN⟩=nM (nS a vs.length c):=g.blk.cell 0;have T:w.cell? ⟨C,0,nN⟩=nM (nS G us.length H):=z.blk.cell 0;have U:=Bj (.list l);simp only[Ab]at U
     have S:=UD (∀h,Chg w h []->Cl prog 139 #[nS a vs.length c,nS G us.length H,.func (.func 109) #[] #[]] h (BU (ER l m) h)) fun h d=>
      RC l m vs us fs P a G c H h (g.lst.kept d) (z.lst.kept d) (g.at_.chg d Zh) (z.at_.chg d Zh) Zj fun x y L M N O w' d hy r Q=>HK.o x y L M N O w' d hy r Q
     have V:BQ (.list l) (.list m)=ER l m:=by simp only[BQ]
     rw[V];obtain⟨B,I⟩:=Ue (ER l m);rw[<-I]at S|-;clear V I E p J D g z U X Z A;go_enter func109,ntmps109;go_wp2_with fail
     go_region_held3(fun w'=>w'.cell? ⟨b,0,nN⟩=nM (nS a vs.length c)/\w'.cell? ⟨C,0,nN⟩=nM (nS G us.length H)) (first|exact⟨c1,T⟩|exact⟨F.o.keeps c1,F.o.keeps T⟩)
      (first|(go_at_call 139;refine(S.o _ wC).mono ?_;rintro e w1 ⟨rfl,r⟩;have F:=UD (Chg w w1 []) (ct cR r);clear r))
     all_goals
      go_wp2_with fail;go_ret;exact⟨rfl,by exact cg F.o⟩
    .have a2:∀(w:Wl),(Instr.typeAssert (nF tu xu) 67 155 true).run prog w= .ok (nT #[nP nN,.bool false]) w:=by
      by_cases B:AX s=true
      .exact wG
      .cases s with
       |list m=>exact absurd ⟨m,rfl⟩ af
       |obj f m=>
        obtain⟨b,sv,sk,us,P,e,_,_⟩:=p.obj;exact ww
       |_=>simp[AX]at B
     have K:BQ (.list l) s=false:=by
      cases s with
      |list m=>exact absurd ⟨m,rfl⟩ af
      |_=>simp only[BQ]
     rw[K];clear K E p J D g X Z A af;exact wK
   |obj ks l=>
    obtain⟨b,sv,sk,vs,fs,e,g,_⟩:=E.obj;subst e;unfold IR;have a0:∀(w:Wl),(Instr.typeAssert (nF 161 (nP (nM ⟨b,0,nN⟩))) 67 169 true).run prog w= .ok (nT #[nA #[.nilIface],.bool false]) w:=fun _=>Yb;have a1:∀(w:Wl),(Instr.typeAssert (nF 161 (nP (nM ⟨b,0,nN⟩))) 67 155 true).run prog w= .ok (nT #[nP nN,.bool false]) w:=fun _=>Yb;have a3:∀(w:Wl),(Instr.typeAssert (nF 161 (nP (nM ⟨b,0,nN⟩))) 67 161 true).run prog w= .ok (nT #[nP (nM ⟨b,0,nN⟩),.bool true]) w:=fun _=>Yb;by_cases ag:∃f m,s= .obj f m
    .obtain⟨f,m,rfl⟩:=ag;obtain⟨C,su,sl,us,P,e,z,_⟩:=p.obj;injection e with j o
     subst j;subst o;have a2:∀(w:Wl),(Instr.typeAssert (nF 161 (nP (nM ⟨C,0,nN⟩))) 67 161 true).run prog w= .ok (nT #[nP (nM ⟨C,0,nN⟩),.bool true]) w:=fun _=>Yb;obtain⟨a,c,rfl,_⟩:=g.lst.form;obtain⟨G,H,rfl,_⟩:=z.lst.form;have ad:=g.keys;have ae:=z.keys;obtain⟨ka,kc,rfl,_⟩:=g.keys.form;obtain⟨la,lc,rfl,_⟩:=z.keys.form;have c1:w.cell? ⟨b,0,nN⟩=nM (nS a vs.length c):=g.blk.cell 0;have T:w.cell? ⟨C,0,nN⟩=nM (nS G us.length H):=z.blk.cell 0;have c3:w.cell? ⟨b,1,nN⟩=nM (nS ka (Ad ks).length kc):=g.blk.cell 1;have c4:w.cell? ⟨C,1,nN⟩=nM (nS la (Ad f).length lc):=z.blk.cell 1;have U:=Bj (.obj ks l);have al:=g.len;have aj:f.length<=4294967296:=by simp only[Av]at D;exact Q7 D.1.many Zj
     simp only[Ab]at U
     have S:=UD (∀h,Chg w h []->Cl prog 139 #[nS a vs.length c,nS G us.length H,.func (.func 109) #[] #[]] h (BU (ER l m) h)) fun h d=>
      RC l m vs us fs P a G c H h (g.lst.kept d) (z.lst.kept d) (g.at_.chg d Zh) (z.at_.chg d Zh) Zj fun x y L M N O w' d hy r Q=>HK.o x y L M N O w' d hy r Q
     have W:=UD (∀h,Chg w h []->Cl prog 34 #[nS ka (Ad ks).length kc,nS la (Ad f).length lc] h (BU (decide (ks=f)) h)) fun h d=>
      (Ix ks f _ _ h (ad.kept d).toRow (ae.kept d).toRow Zj Zj).mono fun e w' ⟨r,q,Q⟩=>⟨r,by subst Q;exact(Chg.refl h []).drewN q⟩
     have V:BQ (.obj ks l) (.obj f m)=(decide (ks=f)&&ER l m):=by simp only[BQ]
     rw[V];obtain⟨B,I⟩:=Ue (ER l m);obtain⟨K1,aa⟩:=Ue ((Ad ks).length);obtain⟨K2,ab⟩:=Ue ((Ad f).length);rw[<-I]at S|-;rw[<-aa]at W c3;rw[<-ab]at W c4;by_cases Y:ks=f
     .rw[decide_eq_true Y]at W|-;rw[Bool.true_and];clear V I E p J D g z U X Z A ad ae al aj Y aa ab;go_enter func109,ntmps109;go_wp2_with fail
      go_region_held3(fun w'=>w'.cell? ⟨b,0,nN⟩=nM (nS a vs.length c)/\w'.cell? ⟨C,0,nN⟩=nM (nS G us.length H)/\w'.cell? ⟨b,1,nN⟩=nM (nS ka K1 kc)/\w'.cell? ⟨C,1,nN⟩=nM (nS la K2 lc))
       (first|exact⟨c1,T,c3,c4⟩|exact⟨F.o.keeps c1,F.o.keeps T,F.o.keeps c3,F.o.keeps c4⟩|exact⟨R.o.keeps c1,R.o.keeps T,R.o.keeps c3,R.o.keeps c4⟩)
       (first
        |(go_at_call 34;refine(W.o _ wC).mono ?_;rintro e w2 ⟨rfl,r⟩;have R:=UD (Chg w w2 []) (ct cR r);clear r)
        |(go_at_call 139;refine(S.o _ (by exact cg R.o)).mono ?_;rintro e w1 ⟨rfl,r⟩;have F:=UD (Chg w w1 []) (ct R.o r);clear r))
      all_goals
       go_wp2_with fail;go_ret;exact⟨rfl,by exact cg F.o⟩
     .have an:=UD (∀n,Cl prog 34 #[nS ka K1 kc,nS la K2 lc] (w.drewN n) fun e w'=>e= nR (.bool false)/\∃m,w'=(w.drewN n).drewN m) fun n=>by
       have d:Chg w (w.drewN n) []:=(Chg.refl w []).drewN n;have:=Ix ks f _ _ (w.drewN n) (ad.kept d).toRow (ae.kept d).toRow Zj Zj;rw[decide_eq_false Y,<-aa,<-ab]at this;exact this
      rw[decide_eq_false Y];rw[Bool.false_and];clear V I E p J D g z U X Z A ad ae al aj Y aa ab S W;go_enter func109,ntmps109;go_wp2_with fail;go_quiet((go_at_call 34;exact Calls.quiet_of (an.o _)));exact wB
    .have a2:∀(w:Wl),(Instr.typeAssert (nF tu xu) 67 161 true).run prog w= .ok (nT #[nP nN,.bool false]) w:=by
      by_cases B:AX s=true
      .exact wG
      .cases s with
       |obj f m=>exact absurd ⟨f,m,rfl⟩ ag
       |list m=>
        obtain⟨b,sv,us,P,e,_,_⟩:=p.list;exact ww
       |_=>simp[AX]at B
     have K:BQ (.obj ks l) s=false:=by
      cases s with
      |obj f m=>exact absurd ⟨f,m,rfl⟩ ag
      |_=>simp only[BQ]
     rw[K];clear K E p J D g X Z A ag;exact wK
   |null=>simp[AX]at A
   |flag _=>simp[AX]at A
   |num _=>simp[AX]at A
   |text _=>simp[AX]at A
end
section
open _root_.Go.Proofs.Tryz
open Go Go.Shelf Go.RowKit Go.Lib Tree
variable{l:List Ap}{xs:List Vl}{sv:Vl}{w:Wl}
def DX(w:Wl)(sv:Vl)(l:List Ap):Prop:=∃a c,sv= nS a l.length c/\∀i s,l[i]? =nM s->∃b o sk,a=nM ⟨b,o,nN⟩/\Ax w (fun k=>k<w.heap.size) sk (Ad s.keys)/\∀j v,(AI s sk)[j]? =nM v->w.cell? ⟨b,o+i*6+j,nN⟩=nM v
theorem DX.kept{w':Wl}(h:DX w sv l)(d:Chg w w' []):DX w' sv l:=by
 obtain⟨a,c,e,h⟩:=h;refine⟨a,c,e,fun i s p=> ?_⟩;obtain⟨b,o,sk,f,g,m⟩:=h i s p;exact⟨b,o,sk,f,g.kept (d.keepsF (fun _ h=>h)) (fun k n=>Q6 n d.size),fun j v q=>d.keeps (m j v q)⟩
theorem SL(d:As w sv 6 l.length xs)(j:Az w l xs):DX w sv l:=by
 obtain⟨a,c,rfl,_⟩:=d.form;refine⟨a,c,rfl,fun i s f=> ?_⟩;have e:0<l.length:=Nat.lt_of_le_of_lt (Nat.zero_le _) (Qc.1 f).1;obtain⟨b,o,rfl,_⟩:=d.base e ZM;obtain⟨sk,g,h⟩:=Az.item d e j f;exact⟨b,o,sk,rfl,g.rowLt,h⟩
theorem PW{g cap n:Nat}{F:Nat->Prop}{l:List Aw}(f:Ba w (nS (nM ⟨g,0,nN⟩) n cap) 55 6 n xs)(h:AR w F l xs)(e:∀b,F b->b<w.heap.size)(k:n=l.length):DX w (nS (nM ⟨g,0,nN⟩) n cap) (l.map Aw.toI):=by
 refine⟨_,cap,by rw[List.length_map,k],fun i s a=> ?_⟩;rw[List.getElem?_map]at a;obtain⟨p,m,rfl⟩:=Option.map_eq_some_iff.1 a;obtain⟨sk,c,d⟩:=h.get i p m;refine⟨g,0,sk,rfl,c.kept (fun _ _ _=>rfl) e,fun j v o=> ?_⟩;have:=f.cell rfl (6*i+j) v (d j v o);rwa[show 6*i+j=0+i*6+j from by omega]at this
theorem Rf(l:List Ap)(L M:Vl)(w:Wl)(V:DX w L l)(W:DX w M l)(X:l.length<=4294967296)(f:∀s∈l,s.keys.length<=4294967296):
  Cl prog 19 #[L,M,.func (.func 21) #[] #[]] w (BU true w):=by
 obtain⟨a1,c1,rfl,C⟩:=V;obtain⟨a2,T,rfl,D⟩:=W;have Q:=hZ C;have R:=hZ D;have O:=hZ f;obtain⟨n,r⟩:=Ue l.length;have ab:((n:Int) !=(n:Int))=false:=Zh;have P:=hZ r;rw[<-r]at X|-;clear C D f r;go_enter func19,ntmps19;go_wp2_with fail;go_loopw [17] (fun y wr=>∃i:Nat,i<=n/\y= nI nX i/\Chg w wr []) (fun y _=>n-(intOf y).toNat)
 case atStart=>exact⟨0,Zj,rfl,Chg.refl _ _⟩
 case round=>
  obtain⟨i,hi,rfl,F⟩:=hrel;have a:=hZ F;clear F;by_cases aa:i<n
  .obtain⟨s,m⟩:∃s,l[i]? =nM s:=⟨_,Q9 (by have:=P.o;omega)⟩;obtain⟨b,o,sk,rfl,p,t⟩:=Q.o i s m;obtain⟨A,Y,ad,rfl,q,u⟩:=R.o i s m;obtain⟨H,J,rfl,_⟩:=p.cell;obtain⟨I,K,rfl,_⟩:=q.cell;rw[Ao]at p q t u;have c:∀j v,(AI s (nS H s.keys.length J))[j]? =nM v->wr.cell? ⟨b,o+i*6+j,nN⟩=nM v:=fun j v x=>a.o.keeps (t j v x);have d:∀j v,(AI s (nS I s.keys.length K))[j]? =nM v->wr.cell? ⟨A,Y+i*6+j,nN⟩=nM v:=fun j v x=>a.o.keeps (u j v x);have S:=c 0 _ rfl;have c1:=c 1 _ rfl;have T:=c 2 _ rfl;have c3:=c 3 _ rfl;have c4:=c 4 _ rfl;have c5:=c 5 _ rfl;have B:=d 0 _ rfl;have d1:=d 1 _ rfl;have d2:=d 2 _ rfl;have d3:=d 3 _ rfl;have d4:=d 4 _ rfl;have U:=d 5 _ rfl;rw[Nat.add_zero]at S B;have lb:A<wr.heap.size:=World.block_lt_of_cell? wr _ B
   have z:=UD (∀g,Chg wr g []->Cl prog 21 #[nA #[nI nX s.sort,.bool s.flag,nI .u64 s.bits,nG s.text,nI nX s.count,nS H s.keys.length J],nA #[nI nX s.sort,.bool s.flag,nI .u64 s.bits,nG s.text,nI nX s.count,nS I s.keys.length K]] g fun e w'=>e= nR (.bool true)/\Chg g w' []) fun g h=>
    WM s _ _ g _ _ (p.kept ((a.o.trans h).keepsF (fun _ h=>h)) (fun _ h=>h)) (q.kept ((a.o.trans h).keepsF (fun _ h=>h)) (fun _ h=>h)) (fun k f=>Q6 f (a.o.trans h).size) (fun k f=>Q6 f (a.o.trans h).size) (O.o s (Qi m))
   obtain⟨sl,G⟩:=Ue s.keys.length;rw[<-G]at z c5 U;clear m p q t u c d G;go_wp2_with((go_at_call 21;refine(z.o _ wC).mono ?_;rintro e Z ⟨rfl,E⟩;have N:=UD (Chg wr Z []) (ct cR E);clear E));go_roundw
   case rel=>exact⟨i+1,Zj,by go_num,Chg.trans (b:=_) a.o N.o⟩
   case measure=>simp[intOf];omega
  .go_wp2_with fail;go_ret;exact⟨rfl,a.o⟩
end
section
open Go Go.Shelf Go.RowKit Go.Lib Tree Ptr
variable{l:List Ap}{sv:Vl}{w w0:Wl}
theorem cI{P:Program}{M:Array Oper}{o:Oper}{a:Act}{K:Act->Wl->Prop}{Q:Exit->Act->Wl->Prop}{E:Prop}(S:o.guard=nN)(s x:Operand)(t:Ti)(C:o.op= .call {callee:= .builtin .append,args:=#[s,x],argTypes:=#[t,t]})(e:Ti)(z:Vl)(q:Nat)(J:P.underlying t=nM (.slice e))(T:(P.info? e).map (fun i=>(i.zero,i.size,i.bytes))=nM (nM z,1,q))(ab:z.cells.size=1)(d:Nat)(I:a.eval s= nS (nM ⟨d,0,nN⟩) 0 0)(D:AK w (nS (nM ⟨d,0,nN⟩) 0 0) e [])(F:Nat->Prop)(N:Vl)(us:List Vl)(L:a.eval x=N)(H:Ax w F N us)(X:∀u∈us,u.oneCell'=true)(r:us.length*q<=140737488355328)(ae:us.length<=140737488355328)(h:∀g cap w',AK w' (nS (nM ⟨g,0,nN⟩) us.length cap) e us->Chg w w' [d]->(d=g\/g=w.heap.size)->K (a.put o.dst (nS (nM ⟨g,0,nN⟩) us.length cap)) w'):
  if Region.wanted o (yielded M a.tmps)=true then Oper.wp P o a w K Q else E:=by
 have Z:Region.wanted o (yielded M a.tmps)=true:=by simp[Region.wanted,S]
 rw[Qr Z];obtain⟨i,hi,hz,W,O⟩:=info_parts T;by_cases B:us=[]
 .subst B;obtain⟨y,c,rfl,ad⟩:=H.cell;have n:=LC (P:=P) w t o.type e i J hi (nM ⟨d,0,nN⟩) 0 0 (Q8 _) y c;have aa:a.eval x= nS y 0 c:=L;unfold Oper.wp execOp;simp only[C,resolve,invoke,builtin,Sem.run_bind,Sem.run_pure,Result.andThen_ok,List.map_toArray,List.map_cons,List.map_nil,I,aa,n];exact h d 0 w D cR (.inl rfl)
 .have G:0<us.length:=List.length_pos_iff.2 B;obtain⟨b,p,c,rfl,R⟩:=H.cells G
  have V:∀j v,us[j]? =nM v->w.cell? ((⟨b,p,nN⟩:Addr).add j)=nM v:=fun j v Y=>by
   rw[show(⟨b,p,nN⟩:Addr).add j=⟨b,p+j,nN⟩from by unfold Addr.add;split<;>simp_all];exact R j v Y
  obtain⟨g,cap,w',n,A,f,l,h4⟩:=run_append_lies (P:=P) w t o.type 0 e i z 1 q J hi hz W O ab ZM (nS (nM ⟨d,0,nN⟩) 0 0) 0 [] D ⟨b,p,nN⟩ us.length c us Zh V X G (by unfold maxLen;omega) (by simpa using r) (Nat.zero_le _) _ rfl;rw[Nat.zero_add]at A n;unfold Oper.wp execOp;simp only[C,resolve,invoke,builtin,Sem.run_bind,Sem.run_pure,Result.andThen_ok,List.map_toArray,List.map_cons,List.map_nil,I,L,n];refine h g cap w' (by simpa[AK]using A) ⟨f.os,f.tape,f.output,f.size,fun k U r=>f.block k U fun m=>r (by have m:nM k=nM d:=m;injection m with m;subst m;simp)⟩ ?_;rcases l with l|l
  .exact .inl (by simpa[Vl.ownBlock]using l)
  .exact .inr l
def cJ(t:Tr)(w:Wl)(e:Ending)(w':Wl):Prop:=∃sv,e= nR sv/\DX w' sv (MW t)/\Chg w w' []
theorem cK{t:Tr}{w':Wl}{e:Ending}(h:IV t w e w'):cJ t w e w':=by
 obtain⟨g,cap,G,f,rfl,b,c,d,_,a⟩:=h;exact⟨_,rfl,PW b c a (BL t).symm,d⟩
structure gW(w0:Wl)(l:List Ap)(i:Nat)(sv:Vl)(w:Wl):Prop where
 ex:∃ys G,Ba w sv 55 6 i ys/\Cr w G (l.take i) ys/\(∀b,G b->w0.heap.size<=b/\b<w.heap.size)/\∀g,sv.ownBlock=nM g->w0.heap.size<=g/\¬G g
 chg:Chg w0 w []
theorem gW.next{wr j t c:Wl}{i g cap:Nat}{s:Ap}{sk:Vl}{ys:List Vl}{G k:Nat->Prop}(w:Chg w0 wr [])(B:Ba wr sv 55 6 i ys)(C:Cr wr G (l.take i) ys)(q:∀b,G b->w0.heap.size<=b/\b<wr.heap.size)(o:∀g,sv.ownBlock=nM g->w0.heap.size<=g/\¬G g)(F:l[i]? =nM s)(p:Chg wr j [])(D:As j sk 1 s.keys.length (Ad s.keys))(v:SE k sk)(d:∀b,k b->wr.heap.size<=b/\b<j.heap.size)(m:Chg j t [])(u:Ba c (nS (nM ⟨g,0,nN⟩) (i+1) cap) 55 6 (i+1) (ys++AI s sk))(n:Chg t c sv.ownBlock.toList)(E:sv.ownBlock=nM g\/t.heap.size<=g):gW w0 l (i+1) (nS (nM ⟨g,0,nN⟩) (i+1) cap) c:=by
 have L:=p.size;have M:=m.size;have N:=n.size;have K:=w.size;have x:∀y,sv.ownBlock=nM y->y<wr.heap.size:=fun y f=>B.lt f;have J:g<c.heap.size:=u.lt rfl;have H:BZ G wr c:=((p.trans m).none sv.ownBlock.toList|>.trans n).keepsF (fun b a=>(q b a).2) (fun b r a=>(o b (by simpa using r)).2 a);have I:BZ k j c:=((m.none sv.ownBlock.toList).trans n).keepsF (fun b a=>(d b a).2) (fun b r a=>by have z:=x b (by simpa using r);have A:=(d b a).1;omega);refine⟨⟨_,fun b=>G b\/k b,u, ?_,fun b a=> ?_,fun y f=> ?_⟩,((w.trans p).trans m).fresh n (fun y f=>(o y (by simpa using f)).1)⟩
 .rw[Cb F];exact(Cr.kept H (fun _ h=> .inl h) C).append ⟨sk,[],Zh,D.keptF v I,v.mono (fun _ h=> .inr h),rfl⟩
 .rcases a with a|a
  .have:=q b a;omega
  .have:=d b a;omega
 .have e:g=y:=by injection f
  subst e;rcases E with h|h
  .refine⟨(o g h).1,fun a=> ?_⟩;rcases a with a|a
   .exact(o g h).2 a
   .have z:=x g h;have A:=(d g a).1;omega
  .refine⟨Zj,fun a=> ?_⟩;rcases a with a|a
   .have:=q g a;omega
   .have:=d g a;omega
theorem gW.done{n:Nat}(h:gW w0 l n sv w)(j:n=l.length):∃ys G,As w sv 6 l.length ys/\SE G sv/\Cr w G l ys/\∀b,G b->w0.heap.size<=b/\b<w.heap.size:=by
 obtain⟨xs,G,f,d,g,i⟩:=h.ex;subst j;rw[List.take_length]at d;refine⟨xs,fun b=>G b\/sv.ownBlock=nM b,f.rowC (by rw[Az.length d.toR]),fun b o n c e=> ?_,Cr.kept (fun _ _ _=>rfl) (fun _ h=> .inl h) d,fun b a=> ?_⟩
 .rw[e];exact .inr rfl
 .rcases a with a|a
  .exact g b a
  .exact⟨(i b a).1,f.lt a⟩
theorem gW.start{B c:Nat}(a:Ba w (nS (nM ⟨B,0,nN⟩) 0 c) 55 6 0 [])(f:w0.heap.size<=B)(h:Chg w0 w []):gW w0 l 0 (nS (nM ⟨B,0,nN⟩) 0 c) w:=
 ⟨⟨[],fun _=>False,a,rfl,fun b (d:False)=>d.elim,fun g e=>⟨by simp[Vl.ownBlock]at e;omega,id⟩⟩,h⟩
end
section
open _root_.Go.Proofs.Tryz
open Go Go.Shelf Go.RowKit Go.Lib Tree Ptr
variable{e:Ending}{ts:List BY}{bs:List Nat}{W b d n:Nat}{p:Prop}{t u:Tr}{a v:Vl}{w w':Wl}
def mg(t:Tr)(w:Wl)(e:Ending)(w':Wl):Prop:=∃sv ys G,e= nR sv/\As w' sv 6 (MW t).length ys/\SE G sv/\Cr w' G (MW t) ys/\(∀b,G b->w.heap.size<=b/\b<w'.heap.size)/\Chg w w' []
theorem lZ(t:Tr)(F:Nat->Prop)(cs:List Vl)(w:Wl)(R:(Ag t).nodes<=65536)(P:∀s∈Ai t,s.keys.length<=2147483648)(p:AL w F t cs)(B:∀b,F b->b<w.heap.size):
  Cl prog 27 #[nA cs.toArray] w (mg t w):=by
 obtain⟨w0,E⟩:=Ue (w.alloc (nC cs.toArray 29));have HW:=hZ E;have u:Hid (Chg w w0 []):=by rw[E];exact hZ ((Chg.refl w []).alloc _)
 have aw:Hid (Ac w0 w.heap.size cs 29):=by rw[E];exact hZ (Ac.new w cs _)
 have aD:=UD ((prog.info? 29).map (·.size)=nM cs.length) (by rw[p.length];exact A9);have au:AL w0 F t cs:=AL.kept (u.o.keepsF B) (fun _ h=>h) _ _ p;have H:=hZ (ZQ _ t F cs w0 (Q8 _) Zj au (fun b d=>Q6 (B b d) u.o.size));have aF:=hZ P;have Q:=BL t;obtain⟨N,M⟩:=Ue ((Ag t).nodes);have aJ:=hZ M;have aT:=Cv t;unfold SH at H;rw[<-M]at R Q aT H;have aI:=hZ Q;have az:=UD (∀b,F b->b<w0.heap.size) fun b d=>Q6 (B b d) u.o.size;clear E p B au P M Q;go_enter func27,ntmps27;go_wp2_with(refine Bp rfl _ _ rfl w.heap.size ZN 29 cs (by exact HW.o▸aw.o) _ underlying29 rfl aD.o ?_);rw[<-HW.o];refine H.o.mono ?_;rintro e w1 ⟨g1,aW,xs,rfl,aj,am,m,aP⟩;have aG:=hZ aj;have aL:=hZ am;have W:=hZ (u.o.trans m);have aA:=UD (∀b,F b->b<w1.heap.size) fun b d=>Q6 (az.o b d) m.size;clear aj am m aP;go_wp2_with fail;go_loopw [4,5] (fun v4 V wr=>∃(i:Nat) (q:Option Addr) (cap:Nat),i<=N/\V= nI nX i/\v4= nS q i cap/\gW w1 (MW t) i v4 wr) (fun _ V _=>N-(intOf V).toNat)
 case atStart=>exact⟨0,nN,0,Zj,rfl,rfl,⟨[],fun _=>False,Ba.nil _ _ _,rfl,fun b (d:False)=>d.elim,(fun g O=>by cases O)⟩,Chg.refl _ _⟩
 case round=>
  obtain⟨i,q,cap,hi,rfl,rfl,C⟩:=hrel;have ay:=hZ C;obtain⟨ys,aU,hL,hS,ag,hO⟩:=C.ex;have hG:=C.chg;have A:=hZ hL;have HS:=hZ hS;have aB:=hZ ag;have HO:=hZ hO;have z:=hZ hG;clear hL hS ag hO hG C;by_cases aS:i<N
  .obtain⟨s,D⟩:∃s,(Ai t)[i]? =nM s:=⟨_,Q9 (by rw[aI.o];exact aS)⟩;obtain⟨sk,S,U⟩:=aL.o.get i s D;have P:=aF.o s (Qi D);have ad:=UD (∀a,Chg wr a []->Ax a F sk (Ad s.keys)) fun a r=>S.kept ((z.o.trans r).keepsF aA.o) (fun _ h=>h);obtain⟨f,k,rfl,_⟩:=S.cell;rw[Ao]at ad U
   have ar:wr.rangeAt g1 (i*6) (Ci s (nS f s.keys.length k)):=fun j v p=>by
    have m:=aG.o.cell rfl (6*i+j) v (U j v p);rw[show i*6+j=6*i+j from by omega];exact z.o.keeps m
   have ab:=hZ ar;have aq:=IF s (nS f s.keys.length k) f s.keys.length k rfl;have aa:=hZ aq;have aN:=UD ((MW t)[i]? =nM s.toI) (by show((Ai t).map Aw.toI)[i]? =_;rw[List.getElem?_map,D];rfl);have aK:=UD (wr.heap.size∉(Vl.slice q i cap).ownBlock.toList) fun hm=>by have:=A.o.lt (by simpa using hm);omega
   have aV:=UD (∀g,(Vl.slice q i cap).ownBlock=nM g->g<wr.heap.size) fun g O=>A.o.lt O;have ap:s.keys.length*16<=140737488355328:=Zj;have aR:s.keys.length<=140737488355328:=Zj;have ao:(i+1)*72<=140737488355328/\i<=140737488355328:=⟨Zj,Zj⟩;have Y:=hZ ao;have aE:=hZ ap;clear D S U ar aq ao ap;unfold Ci at ab aa
   go_wp2_with(first
    |(refine wpList_load_mid rfl _ _ rfl g1 (i*6) (by go_num) _ _ ab.o underlying82 rfl ZN ?_)
    |(refine Ae rfl _ _ _ rfl wr.heap.size [nI nX s.sort,.bool s.flag,nI .u64 s.bits,nG s.text,nI nX s.count,nS f s.keys.length k] ZN ZN 82 _ (BD _ _ [nI nX 0,.bool false,nI .u64 0,nG ⟨#[]⟩,nI nX 0,nS nN 0 0] _ _ rfl rfl) ZN rfl aa.o ?_;intro w2 av L an;have ax:=hZ L;have x:=UD (Chg wr w2 []) (Chg.step (b:=_) wC an (fun i hi hl=>by simp at hi;omega));have hz:wr.heap.size<w2.heap.size:=L.lt;clear av L an))
   have I:=UD (∀a bs,Chg w2 a bs->wr.heap.size∉bs->a.cell? ⟨wr.heap.size,0,nN⟩=nM (nI nX s.sort)/\a.cell? ⟨wr.heap.size,1,nN⟩=nM (.bool s.flag)/\a.cell? ⟨wr.heap.size,2,nN⟩=nM (nI .u64 s.bits)/\a.cell? ⟨wr.heap.size,3,nN⟩=nM (nG s.text)/\a.cell? ⟨wr.heap.size,4,nN⟩=nM (nI nX s.count)/\a.cell? ⟨wr.heap.size,5,nN⟩=nM (nS f s.keys.length k)) fun a bs r R=>by
    obtain⟨_,_,x0,x1,x2,x3,x4,x5⟩:=(ax.o.kept r R).cells6;exact⟨x0,x1,x2,x3,x4,x5⟩
   have aM:=UD (∀a,Chg w2 a []->Ax a F (nS f s.keys.length k) (Ad s.keys)) fun a r=>ad.o a (x.o.trans r);have T:=Ao s.keys
   go_region_held3(fun w'=>w'.cell? ⟨wr.heap.size,0,nN⟩=nM (nI nX s.sort)/\w'.cell? ⟨wr.heap.size,1,nN⟩=nM (.bool s.flag)/\w'.cell? ⟨wr.heap.size,2,nN⟩=nM (nI .u64 s.bits)/\w'.cell? ⟨wr.heap.size,3,nN⟩=nM (nG s.text)/\w'.cell? ⟨wr.heap.size,4,nN⟩=nM (nI nX s.count)/\w'.cell? ⟨wr.heap.size,5,nN⟩=nM (nS f s.keys.length k))
    (first|exact(fun(K:Chg w2 l []) (h4:Chg l w4 (Vl.slice q i cap).ownBlock.toList)=>I.o _ _ (Chg.trans (b:=_) (K.none _) h4) aK.o) y.o X.o|exact(fun(K:Chg w2 l [])=>I.o _ [] (by exact cg K) Zh) y.o|exact I.o _ [] wC Zh)
    (first
     |(refine cI rfl _ _ _ rfl 9 Ho 16 underlying27 Cf rfl w2.heap.size ZN (by first|exact AK.lit _ [] _ 0 rfl ZM|exact(AK.lit _ [] _ 0 rfl ZM).kept (bs:=[]) wC Zh) F (nS f s.keys.length k) (Ad s.keys) ZN (by exact aM.o _ wC) (Gu _) (by rw[T];exact aE.o) (by rw[T];exact aR) ?_;rw[T];intro J aO l ak ae ah;have Z:=hZ ak;have y:=UD (Chg w2 l []) (Chg.step (b:=_) wC ae (fun i hi hl=>by simp at hi;omega));have aQ:w2.heap.size<=J:=(by rcases ah with h|h;(exact Nat.le_of_eq h);(simp at h;omega));clear ak ae ah)
     |(refine Bw rfl _ _ _ rfl 55 Iq 6 72 ZM underlying22 DM rfl (nS q i cap) i ys ZN (by exact A.o.kept (bs:=[]) (by exact cg (x.o.trans y.o)) Zh) l.heap.size (Ci s (nS (nM ⟨J,0,nN⟩) s.keys.length aO)) ZN ZN (by exact Ff _ _ _) (IF _ _ _ _ _ rfl) Y.o.1 Y.o.2 ?_;intro g4 aX w4 al af ai;have aH:=hZ al;have X:=UD (Chg l w4 (Vl.slice q i cap).ownBlock.toList) (ct ((Chg.refl l []).none _) af);have aC:=UD ((Vl.slice q i cap).ownBlock=nM g4\/l.heap.size<=g4) (ai.imp id (fun h=>by rw[h];simp));clear al af ai))
   all_goals
    go_wp2_with fail;go_roundw
    case rel=>
     have aY:=aQ;have av:=x.o.size;exact⟨i+1,_,_,Zj,by go_num,rfl,gW.next z.o A.o HS.o aB.o HO.o aN.o (x.o.trans y.o) (by have:=Z.o.rowC;rwa[Ao]at this) (show SE (fun b=>b=J) _ from fun b o n c e=>by injection e with e _ _;injection e with e;injection e with e _ _;exact e.symm) (fun b d=>⟨by subst d;omega,by subst d;exact Z.o.lt rfl⟩) cR aH.o X.o aC.o⟩
    case measure=>simp[intOf];omega
  .obtain rfl:i=N:=by omega
   go_wp2_with fail;go_ret;obtain⟨zs,G,d1,d2,d3,d4⟩:=ay.o.done (by rw[Ju];exact aJ.o);exact⟨_,zs,G,rfl,d1,d2,d3,fun b d=>⟨by have:=(d4 b d).1;have:=W.o.size;omega,(d4 b d).2⟩,W.o.trans z.o⟩
theorem dl(t:Tr)(F:Nat->Prop)(cs:List Vl)(w:Wl)(h:(Ag t).nodes<=65536)(g:∀s∈Ai t,s.keys.length<=2147483648)(i:AL w F t cs)(d:∀b,F b->b<w.heap.size):
  Cl prog 27 #[nA cs.toArray] w (cJ t w):=
 (lZ t F cs w h g i d).mono fun _ _ ⟨sv,_,_,f,a,_,c,_,e⟩=>⟨sv,f,SL a c.toR,e⟩
def Je(s:BY)(n:Nat):Vl:=match bL s n with
 |some k=> nT #[nI nX k,.bool true]
 |none=> nT #[nI nX 0,.bool false]
theorem SO{l:List UInt8}{i:Int}(h:Lib.atoiAll l= .ok i): -9223372036854775808<=i/\i<=9223372036854775807:=by
 unfold Lib.atoiAll at h;split at h
 .cases h
 .simp only at h;split at h
  .cases h
  .cases h
  .split at h
   .cases h
   .split at h
    .cases h
    .injection h with h
     subst h;split<;>omega
theorem wD(h:p:=by refine bodyPost_ret (results_tmp2 rfl _ _ _) rfl ⟨by unfold Je;rw[f.o];rfl,by exact cg c.o⟩):p:=h
theorem wJ(h:p:=by have:=q.o.symm.trans h;injection this with e;subst e;omega):p:=h
theorem Gl(s:BY)(n:Nat)(w:Wl)(o:Br w)(E:s.size<=281474976710656)(r:n<=9223372036854775807):
  Cl prog 137 #[nG s,nI nX n] w fun e w'=>e= nR (Je s n)/\Chg w w' []:=by
 by_cases u:∃i,Lib.atoiAll s.data.toList= .ok i
 .obtain⟨i,hi⟩:=u
  have l:=UD (Cl prog 171 #[nG s] w fun e w'=>e= nR (nT #[nI nX i,.nilIface])/\Chg w w' []) ((Rh s E w o).mono fun e w' ⟨⟨j,v,B,b⟩,a⟩=>by
   rcases b with⟨rfl,b⟩|⟨_,b⟩
   .rw[hi]at b;injection b with b;subst b;exact⟨B,a⟩
   .exact absurd hi (b i))
  have D:=SO hi;have C:=UD (∀p,Chg w p []->Cl prog 133 #[nI nX i] p fun e w'=>e= nR (nG ⟨(Lib.itoa i).toArray⟩)/\Chg p w' []) fun p I=>Ri i D.1 D.2 p (o.kept I);have q:=hZ hi;clear hi o;by_cases K:i<0
  .have d:bL s n=nN:=FN r fun j h g=>wJ
   have f:=hZ d;clear d;go_enter func137,ntmps137
   go_wp2_with(first
      |(go_at_call 171;refine l.o.mono ?_;rintro e y ⟨rfl,a⟩;have c:=hZ a;clear a))
   exact wD
  .by_cases L:(n:Int)<=i
   .have d:bL s n=nN:=FN r fun j h g k=>wJ
    have f:=hZ d;clear d;go_enter func137,ntmps137
    go_wp2_with(first
      |(go_at_call 171;refine l.o.mono ?_;rintro e y ⟨rfl,a⟩;have c:=hZ a;clear a))
    exact wD
   .by_cases A:(⟨(Lib.itoa i).toArray⟩:BY)=s
    .have F:bL s n=nM i.toNat:=WD q.o Zj Zj (by rw[<-A]);have G:=hZ F;clear F;go_enter func137,ntmps137
     go_wp2_with(first
      |(go_at_call 171;refine l.o.mono ?_;rintro e y ⟨rfl,a⟩;have c:=hZ a;clear a)
      |(go_at_call 133;refine(C.o _ (by exact cg c.o)).mono ?_;rintro e w2 ⟨rfl,m⟩;have z:=UD (Chg w w2 []) (ct c.o m);clear m))
     refine bodyPost_ret (results_tmp2 rfl _ _ _) rfl ⟨by unfold Je;rw[G.o];simp;omega,by exact cg z.o⟩
    .have d:bL s n=nN:=FN r fun j h g k e=>by have:=q.o.symm.trans h;injection this with H;subst H;exact A (DK (by simpa using e))
     have J:(Lib.itoa i==s.toList)=false:=by rw[Qq,Lib.toList_data];intro e;exact A (DK (by simpa using e))
     have f:=hZ d;clear d;go_enter func137,ntmps137
     go_wp2_with(first
      |(go_at_call 171;refine l.o.mono ?_;rintro e y ⟨rfl,a⟩;have c:=hZ a;clear a)
      |(go_at_call 133;refine(C.o _ (by exact cg c.o)).mono ?_;rintro e w2 ⟨rfl,m⟩;have z:=UD (Chg w w2 []) (ct c.o m);clear m))
     refine bodyPost_ret (results_tmp2 rfl _ _ _) rfl ⟨by unfold Je;rw[f.o];rfl,by exact cg z.o⟩
 .have d:bL s n=nN:=FN r fun j h=>absurd ⟨j,h⟩ u;have f:=hZ d
  have l:=UD (Cl prog 171 #[nG s] w fun e w'=>(∃i t x,e= nR (nT #[nI nX i,nF t x]))/\Chg w w' []) ((Rh s E w o).mono fun e w' ⟨⟨j,v,B,b⟩,a⟩=>by
   rcases b with⟨_,b⟩|⟨⟨t,x,rfl⟩,_⟩
   .exact absurd ⟨_,b⟩ u
   .exact⟨⟨j,t,x,B⟩,a⟩)
  clear d u o;go_enter func137,ntmps137
  go_wp2_with(first
      |(go_at_call 171;refine l.o.mono ?_;rintro e y ⟨⟨i,t,x,rfl⟩,a⟩;have c:=hZ a;clear a))
  exact wD
def Cz(w:Wl)(t:Tr)(v:Vl)(bs:List Nat)(ts:List BY)(e:Ending)(w':Wl):Prop:=
 Chg w w' []/\match Ah t ts with
  |some u=>∃a b rest,e= nR (nT #[a,.bool true])/\Ir w t v bs ts u a b rest
  |none=>e= nR (nT #[.nilIface,.bool false])
theorem Cz.none(h:Ah t ts=Option.none)(a:Chg w w' [])(b:e= nR (nT #[.nilIface,.bool false])):Cz w t v bs ts e w':=by
 unfold Cz;rw[h];exact⟨a,b⟩
theorem Cz.some{b rest:List Nat}(c:Ir w t v bs ts u a b rest)(d:Chg w w' [])(f:e= nR (nT #[a,.bool true])):Cz w t v bs ts e w':=by
 unfold Cz;rw[c.lead];exact⟨d,a,b,rest,f,c⟩
theorem Iw{t u:Tr}:∀{ts:List BY} {k:Nat} {s:BY},Ah t (ts.take k)=Option.some u->ts[k]? =Option.some s->Dy u s=Option.none->Ah t ts=Option.none
 |[],k,s,_,b,_=>by simp at b
 |a::r,0,s,h,b,c=>by
  simp only[List.take_zero,Ah]at h;injection h with h
  subst h;simp at b;subst b;simp[Ah,c]
 |a::r,k+1,s,h,b,c=>by
  simp only[List.take_succ_cons,Ah]at h|-;cases d:Dy t a with
  |none=>rfl
  |some y=>
   rw[d]at h;simp only[Option.bind_some]at h|-;exact Iw h (by simpa using b) c
theorem Md(h:AX u=true)(s:BY):Dy u s=Option.none:=by
 cases u<;>first|rfl|simp[AX]at h
theorem wA(h:p:=by
 go_roundw
 case rel=>
  refine⟨k+1,x,X,aa++rest,Zj,by go_num, ?_, ?_⟩
  .rw[Cb K.o];exact V.o
  .exact cg (j.o.trans r.o)
 case measure=>simp[intOf];omega):p:=h
theorem wF(h:p:=by
 have:=h.blk.cell 0;rw[N]at this;simp only[Qa]at this;injection this with this
 exact this.symm):p:=h
theorem wH(h:p:=by refine bodyPost_ret (results_tmp2 rfl _ _ _) rfl (Cz.none J.o ?_ rfl);exact cg (j.o.trans r.o)):p:=h
theorem LJ(W:Nat)(t:Tr)(v n m uv:Vl)(bs:List Nat)(F:Nat->Prop)(sl:Vl)(ts:List BY)(w:Wl)(hL:Br w)(hB:Ac w W [v,n,m,uv] 70)(hP:AP w t v bs)(hf:Bt t)(hr:Ax w F sl (Ad ts))(ai:DR ts)(ak:∀s∈ts,s.size<=16777216)(hn:ts.length<=4294967296):
  Cl prog 134 #[nP (nM ⟨W,0,nN⟩),sl] w (Cz w t v bs ts):=by
 obtain⟨a,c,rfl,ad⟩:=hr.cell;rw[Ao];obtain⟨tv,xv,rfl⟩:=hP.iface;have av:w.cell? ⟨W,0,nN⟩=Option.some (nF tv xv):=hB.cell 0;have HC:=hZ ad;have HL:=hZ hL;have am:=hZ ai;have an:=hZ ak;have HF:=hZ hf;have HP:=hZ hP;clear hr hL ad ai ak hB hP hf;go_enter func134,ntmps134;go_wp2_with fail;go_loopw [6,22] (fun v6 ab wr=>∃(k:Nat) (u:Tr) (bu rest:List Nat),k<=ts.length/\ab= nI nX k/\Ir w t (nF tv xv) bs (ts.take k) u v6 bu rest/\Chg w wr []) (fun _ ab _=>ts.length-(intOf ab).toNat)
 case atStart=>exact⟨0,t,bs,[],Zj,rfl,Ir.here HP.o,Chg.refl _ _⟩
 case round=>
  obtain⟨k,u,bu,rest,hk,rfl,z,P⟩:=hrel;by_cases ap:k<ts.length
  .obtain⟨s,U⟩:∃s,ts[k]? =Option.some s:=⟨_,Q9 ap⟩;obtain⟨gb,go,rfl,_,ae⟩:=HC.o k (nG s) (by simp[Ad,U]);have aq:=P.keeps ae;have aj:=Qi U;have au:=an.o s aj;have j:=hZ P;have B:=hZ z;have K:=hZ U;have D:Bt u:=HF.o.lead z.lead;have y:=z.at_;clear P U ae z;by_cases p:AX u=true
   .obtain⟨rfl,_⟩:=y.leaf (fun l e=>by subst e;simp[AX]at p) (fun ks l e=>by subst e;simp[AX]at p);have a0:∀(w:Wl),(Instr.typeAssert (nF 169 (nA #[AG u])) 67 161 true).run prog w= .ok (nT #[nP nN,.bool false]) w:=fun _=>Yb;have a1:∀(w:Wl),(Instr.typeAssert (nF 169 (nA #[AG u])) 67 155 true).run prog w= .ok (nT #[nP nN,.bool false]) w:=fun _=>Yb;have J:=hZ (Iw B.o.lead K.o (Md p s));clear y D p;go_wp2_with fail;refine bodyPost_ret (results_tmp2 rfl _ _ _) rfl (Cz.none J.o ?_ rfl);exact cg j.o
   .cases u with
    |list l=>
     obtain⟨b,sv,vs,fs,rfl,h,_⟩:=y.list;have ah:l.length<=65536:=by have:=D.many;simp only[Ab]at this;omega
     have I:=h.at_.length;unfold Jn;have a0:∀(w:Wl),(Instr.typeAssert (nF 155 (nP (Option.some ⟨b,0,Option.none⟩))) 67 161 true).run prog w= .ok (nT #[nP Option.none,.bool false]) w:=fun _=>Yb;have a1:∀(w:Wl),(Instr.typeAssert (nF 155 (nP (Option.some ⟨b,0,Option.none⟩))) 67 155 true).run prog w= .ok (nT #[nP (Option.some ⟨b,0,Option.none⟩),.bool true]) w:=fun _=>Yb;obtain⟨L,M,rfl,_⟩:=h.lst.form;have c1:wr.cell? ⟨b,0,nN⟩=Option.some (nS L vs.length M):=j.o.keeps (h.blk.cell 0)
     have H:=UD (∀f,Chg wr f []->Cl prog 137 #[nG s,nI nX vs.length] f fun e w'=>e= nR (Je s l.length)/\Chg f w' []) fun f q=>by
      rw[I];exact Gl s l.length f (HL.o.kept (j.o.trans q)) Zj Zj
     cases hi:bL s l.length with
     |none=>
      have R:Dy (.list l) s=Option.none:=by simp[Dy,D6,hi]
      have J:=hZ (Iw B.o.lead K.o R);unfold Je at H;rw[hi]at H;clear y D p h ah I hi R
      go_wp2_with(first
       |(go_at_call 137;refine(H.o _ wC).mono ?_;rintro e G ⟨rfl,o⟩;have r:=UD (Chg wr G []) (ct cR o);clear o))
      exact wH
     |some i=>
      have af:=Jf hi;obtain⟨x,q⟩:∃x,(Ab (.list l))[i]? =Option.some x:=⟨_,Q9 af⟩;obtain⟨b',g,n',Y,vx,X,aa,ti,d,N,O,E⟩:=Fx y (by show D6 (.list l) s=_;simp only[D6];exact hi) q;unfold Jn at d;injection d with et d
      subst et;injection d with d
      injection d with d
      injection d with d
      subst d
      have C:(Vl.slice L vs.length M)= nS (Option.some ⟨g,0,nN⟩) n' Y:=by
       exact wF
      injection C with C e5 e6
      subst C;have Z:=j.o.keeps O;obtain⟨tx,xx,rfl⟩:=E.at_.iface;have V:=hZ (B.o.snoc E);unfold Je at H;rw[hi]at H;have ao:i<vs.length:=Zj;clear y D p h ah I hi af q E N O e5 e6
      go_wp2_with(first
       |(go_at_call 137;refine(H.o _ wC).mono ?_;rintro e G ⟨rfl,o⟩;have r:=UD (Chg wr G []) (ct cR o);have d1:=r.o.keeps c1;have d2:=r.o.keeps Z;clear o))
      exact wA
    |obj ks l=>
     obtain⟨b,sv,sk,vs,fs,rfl,h,_⟩:=y.obj;have Q:=D.good;simp only[Av]at Q;have I:=h.at_.length;unfold IR;have a0:∀(w:Wl),(Instr.typeAssert (nF 161 (nP (Option.some ⟨b,0,Option.none⟩))) 67 161 true).run prog w= .ok (nT #[nP (Option.some ⟨b,0,Option.none⟩),.bool true]) w:=fun _=>Yb;obtain⟨L,M,rfl,_⟩:=h.lst.form;have c1:wr.cell? ⟨b,0,nN⟩=Option.some (nS L vs.length M):=j.o.keeps (h.blk.cell 0)
     have S:=UD (∀f,Chg wr f []->Cl prog 129 #[nP (Option.some ⟨b,0,nN⟩),nG s] f fun e w'=>∃i:Nat,e= nR (nT #[nI nX i,.bool (C4 ks s)])/\Chg f w' []/\Hr ks s i/\i<=ks.length) fun f q=>
      Pl ks s b _ sk f (h.blk.kept (j.o.trans q)) (h.keys.kept (j.o.trans q)) Q.1 (am.o.right s aj) Zj
     cases A:C4 ks s with
     |false=>
      have R:Dy (.obj ks l) s=Option.none:=by simp[Dy,D6,A]
      have J:=hZ (Iw B.o.lead K.o R);rw[A]at S;clear y D p h Q I A R
      go_wp2_with(first
       |(go_at_call 129;refine(S.o _ wC).mono ?_;rintro e G ⟨i,rfl,o,_,_⟩;have r:=UD (Chg wr G []) (ct cR o);clear o))
      exact wH
     |true=>
      obtain⟨pi,T⟩:=Ue (A5 ks s);have ar:pi<ks.length:=by rw[T];exact Dk (Cp.1 A)
      obtain⟨x,q⟩:∃x,(Ab (.obj ks l))[pi]? =Option.some x:=⟨_,Q9 (by simp only[Ab];omega)⟩;obtain⟨b',g,n',Y,vx,X,aa,ti,d,N,O,E⟩:=Fx y (by show D6 (.obj ks l) s=_;simp only[D6];rw[Qr A,<-T]) q;unfold IR at d;injection d with et d
      subst et;injection d with d
      injection d with d
      injection d with d
      subst d
      have C:(Vl.slice L vs.length M)= nS (Option.some ⟨g,0,nN⟩) n' Y:=by
       exact wF
      injection C with C e5 e6
      subst C;have Z:=j.o.keeps O;obtain⟨tx,xx,rfl⟩:=E.at_.iface;have V:=hZ (B.o.snoc E)
      have al:=UD (∀f,Chg wr f []->Cl prog 129 #[nP (Option.some ⟨b,0,nN⟩),nG s] f fun e w'=>e= nR (nT #[nI nX pi,.bool true])/\Chg f w' []) fun f q=>
       (S.o f q).mono fun e w' ⟨i,o,h2,h3,_⟩=>⟨by rw[o,A,(h3.yes A).1,T],h2⟩
      have ao:pi<vs.length:=by have:=Q.2.1;omega
      clear y D p h Q I A q E N O e5 e6 S T
      go_wp2_with(first
       |(go_at_call 129;refine(al.o _ wC).mono ?_;rintro e G ⟨rfl,o⟩;have r:=UD (Chg wr G []) (ct cR o);have d1:=r.o.keeps c1;have d2:=r.o.keeps Z;clear o))
      exact wA
    |null=>simp[AX]at p
    |flag _=>simp[AX]at p
    |num _=>simp[AX]at p
    |text _=>simp[AX]at p
  .have ag:ts.take k=ts:=Qn Zj;rw[ag]at z;have B:=hZ z;have j:=hZ P;obtain⟨tu,xu,rfl⟩:=z.at_.iface;clear z P ag;go_wp2_with fail;refine bodyPost_ret (results_tmp2 rfl _ _ _) rfl (Cz.some B.o ?_ rfl);exact cg j.o
def F8(w:Wl)(t:Tr)(v:Vl)(bs:List Nat)(ts:List BY)(e:Ending)(w':Wl):Prop:=
 Chg w w' []/\match Ah t ts with
  |some u=>∃a b rest,e= nR a/\Ir w t v bs ts u a b rest
  |none=>e=By 4
theorem Jx(h:Ah t ts=nM u):F8 w t v bs ts=fun e w'=>Chg w w' []/\∃a b rest,e= nR a/\Ir w t v bs ts u a b rest:=by
 funext e w';unfold F8;rw[h]
theorem Jw(h:Ah t ts=nN):F8 w t v bs ts=fun e w'=>Chg w w' []/\e=By 4:=by
 funext e w';unfold F8;rw[h]
theorem Iv(h:Ah t ts=nM u):Cz w t v bs ts=fun e w'=>Chg w w' []/\∃a b rest,e= nR (nT #[a,.bool true])/\Ir w t v bs ts u a b rest:=by
 funext e w';unfold Cz;rw[h]
theorem U4(h:Ah t ts=nN):Cz w t v bs ts=fun e w'=>Chg w w' []/\e= nR (nT #[.nilIface,.bool false]):=by
 funext e w';unfold Cz;rw[h]
theorem LI(W:Nat)(t:Tr)(v n m z:Vl)(bs:List Nat)(F:Nat->Prop)(y:Vl)(ts:List BY)(w:Wl)(o:Br w)(l:Ac w W [v,n,m,z] 70)(p:AP w t v bs)(r:Bt t)(k:Ax w F y (Ad ts))(j:DR ts)(x:∀s∈ts,s.size<=16777216):
  Cl prog 108 #[nP (nM ⟨W,0,nN⟩),y] w (F8 w t v bs ts):=by
 obtain⟨a,c,rfl,_⟩:=k.cell;have f:=hZ (LJ W t v n m z bs F _ ts w o l p r k j x (Q7 j.many Zj));clear o l p r k j x;cases h:Ah t ts with
 |none=>
  rw[U4 h]at f;rw[Jw h];clear h;go_enter func108,ntmps108
  go_wp2_with(first
   |(go_at_call 134;refine f.o.mono ?_;rintro e B ⟨d,rfl⟩;have g:=hZ d;clear d)
   |(go_at_call 80;refine(Bu _ _).mono ?_;rintro e w2 ⟨q,b⟩;unfold By at q;subst q;have i:=hZ b;clear b))
  exact⟨rfl,g.o.trans i.o,rfl⟩
 |some u=>
  rw[Iv h]at f;rw[Jx h];clear h;go_enter func108,ntmps108
  go_wp2_with(first
   |(go_at_call 134;refine f.o.mono ?_;rintro e B ⟨d,D,A,rest,rfl,b⟩;obtain⟨C,E,rfl⟩:=b.at_.iface;have g:=hZ d;have i:=hZ b;clear d b)
   |(go_at_call 80;refine(Bv _ _).mono ?_;rintro e w2 ⟨rfl,rfl⟩))
  go_ret;exact⟨g.o,_,A,rest,rfl,i.o⟩
def Hi(n b d:Nat):Bool:=decide (n<=65536)&&decide (b<=2097152)&&decide (d<=512)
def Dh(W:Nat)(v a:Vl)(n b d:Nat)(w:Wl)(e:Ending)(w':Wl):Prop:=
 if Hi n b d=true then e= nR (nT #[])/\Ac w' W [v,nI nX n,nI nX b,a] 70/\Chg w w' [W]else e=By 3/\Chg w w' []
theorem En(h:Hi n b d=true):Dh W v a n b d=fun w e w'=>e= nR (nT #[])/\Ac w' W [v,nI nX n,nI nX b,a] 70/\Chg w w' [W]:=by
 funext w e w';unfold Dh;rw[Qr h]
theorem DO(h:Hi n b d=false):Dh W v a n b d=fun w e w'=>e=By 3/\Chg w w' []:=by
 funext w e w';unfold Dh;rw[Qs (by simp[h])]
theorem KB:Hi n b d=true↔n<=65536/\b<=2097152/\d<=512:=by unfold Hi;simp[and_assoc]
theorem E9(h:¬(n<=65536/\b<=2097152/\d<=512)):Hi n b d=false:=by
 cases a:Hi n b d with
 |false=>rfl
 |true=>exact absurd (KB.1 a) h
def KT(w:Wl)(a:Vl)(m c:Nat):Prop:=(a= .nilIface/\m=0/\c=0)\/∃u b,AP w u a b/\Av u/\(Ag u).within=true/\m=(Ag u).nodes/\c=(Ag u).bytes
theorem wL(h:p:=by simp only[List.set_cons_succ,List.set_cons_zero];rw[<-G1.o,<-G2.o]):p:=h
theorem Jl(W:Nat)(v uv:Vl)(N B:Nat)(x:Tr)(vx wv:Vl)(bx:List Nat)(m c n' Y C:Nat)(ta:Option Addr)(r tc:Nat)(w:Wl)(hB:Ac w W [v,nI nX N,nI nX B,uv] 70)(hx:AP w x vx bx)(hg:Av x)(hw:(Ag x).within=true)(ag:KT w wv m c)(hN:N<=65536)(ah:B<=2097152)(hk:C<=16777216)(ai:r<=65536)(G:n'+m=N+(Ag x).nodes)(F:Y+c=B+(Ag x).bytes+C):
  Cl prog 127 #[nP (nM ⟨W,0,nN⟩),nS ta r tc,vx,wv,nI nX C] w (Dh W v uv n' Y (r+(Ag x).depth) w):=by
 obtain⟨tx,xx,rfl⟩:=hx.iface;have af:=Ar hw;obtain⟨x1,x2,x3⟩:=af;obtain⟨f,args,hm,Z⟩:=MD _ x _ bx w (Q8 _) hg hw hx;have K:=hZ hm;have H:=hZ Z;have X:=hZ hB;have n:=hB.lt;have L:∀j,w.frozen? ⟨W,j,nN⟩=false:=fun j=>hB.frozen j;obtain⟨sz,ab⟩:=Ue (Ag x);rw[<-ab]at H G F x1 x2 x3|-;clear hm Z hB hg hw;rcases ag with⟨rfl,rfl,rfl⟩|⟨u,bu,hu,ae,ad,rfl,rfl⟩
 .clear hx ab;have t:(n':Int)=((N:Int)+(sz.nodes:Int)):=Zj;have y:(Y:Int)=((B:Int)+((sz.bytes:Int)+(C:Int))):=Zj;have I:((r+sz.depth:Nat):Int)=((r:Int)+(sz.depth:Int)):=Zj;have G1:=hZ t;have G2:=hZ y;have c1:w.cell? ⟨W,1,nN⟩=nM (nI nX N):=X.o.cell 1;have i:w.cell? ⟨W,2,nN⟩=nM (nI nX B):=X.o.cell 2;by_cases q:n'<=65536
  .have j1:((N:Int)+(sz.nodes:Int))<=65536:=by omega
   by_cases A:Y<=2097152
   .have j2:((B:Int)+((sz.bytes:Int)+(C:Int)))<=2097152:=by omega
    by_cases J:r+sz.depth<=512
    .have j3:((r:Int)+(sz.depth:Int))<=512:=by omega
     rw[En (KB.2 ⟨q,A,J⟩)];clear t y I G F q A J;go_enter func127,ntmps127
     go_wp2_with(first
    |(refine Am rfl _ _ _ rfl _ rfl f args K.o _ H.o ?_;rintro e o ⟨rfl,d⟩;refine⟨_,rfl, ?_⟩;have a:=hZ d;unfold Jv;have R:=a.o.keeps c1;have S:=a.o.keeps i;have V:=Q6 n a.o.size;have U:∀j,o.frozen? ⟨W,j,nN⟩=false:=fun j=>(a.o.frozen (p:=⟨W,j,nN⟩) n Zh).trans (L j);clear d)
    |(go_at_call 80;refine(Bv _ _).mono ?_;rintro e w4 ⟨rfl,rfl⟩))
     go_end0
     refine⟨rfl, ?_, ?_⟩
     .refine(((X.o.kept a.o).set 1 (nI nX ((N:Int)+(sz.nodes:Int)))).set 2 (nI nX ((B:Int)+((sz.bytes:Int)+(C:Int))))).eq ?_;exact wL
     .have Z:Chg w o [W]:=a.o.none _
      (have:=Z;exact oq)
    .have j3:¬(((r:Int)+(sz.depth:Int))<=512):=by omega
     rw[DO (E9 (fun h=>J h.2.2))];clear t y I G F q A J;go_enter func127,ntmps127
     go_wp2_with(first
    |(refine Am rfl _ _ _ rfl _ rfl f args K.o _ H.o ?_;rintro e o ⟨rfl,d⟩;refine⟨_,rfl, ?_⟩;have a:=hZ d;unfold Jv;have R:=a.o.keeps c1;have S:=a.o.keeps i;have V:=Q6 n a.o.size;have U:∀j,o.frozen? ⟨W,j,nN⟩=false:=fun j=>(a.o.frozen (p:=⟨W,j,nN⟩) n Zh).trans (L j);clear d)
    |(go_at_call 80;refine(Bu _ _).mono ?_;rintro e E ⟨l,k⟩;unfold By at l;subst l;have s:=UD (Chg w E []) (Chg.trans (b:=_) (by(have:=a.o;exact oq)) k);clear k))
     exact⟨rfl,rfl,s.o⟩
   .have j2:¬(((B:Int)+((sz.bytes:Int)+(C:Int)))<=2097152):=by omega
    rw[DO (E9 (fun h=>A h.2.1))];clear t y I G F q A;go_enter func127,ntmps127
    go_wp2_with(first
    |(refine Am rfl _ _ _ rfl _ rfl f args K.o _ H.o ?_;rintro e o ⟨rfl,d⟩;refine⟨_,rfl, ?_⟩;have a:=hZ d;unfold Jv;have R:=a.o.keeps c1;have S:=a.o.keeps i;have V:=Q6 n a.o.size;have U:∀j,o.frozen? ⟨W,j,nN⟩=false:=fun j=>(a.o.frozen (p:=⟨W,j,nN⟩) n Zh).trans (L j);clear d)
    |(go_at_call 80;refine(Bu _ _).mono ?_;rintro e E ⟨l,k⟩;unfold By at l;subst l;have s:=UD (Chg w E []) (Chg.trans (b:=_) (by(have:=a.o;exact oq)) k);clear k))
    exact⟨rfl,rfl,s.o⟩
  .have j1:¬(((N:Int)+(sz.nodes:Int))<=65536):=by omega
   rw[DO (E9 (fun h=>q h.1))];clear t y I G F q;go_enter func127,ntmps127
   go_wp2_with(first
    |(refine Am rfl _ _ _ rfl _ rfl f args K.o _ H.o ?_;rintro e o ⟨rfl,d⟩;refine⟨_,rfl, ?_⟩;have a:=hZ d;unfold Jv;have R:=a.o.keeps c1;have S:=a.o.keeps i;have V:=Q6 n a.o.size;have U:∀j,o.frozen? ⟨W,j,nN⟩=false:=fun j=>(a.o.frozen (p:=⟨W,j,nN⟩) n Zh).trans (L j);clear d)
    |(go_at_call 80;refine(Bu _ _).mono ?_;rintro e E ⟨l,k⟩;unfold By at l;subst l;have s:=UD (Chg w E []) (Chg.trans (b:=_) (by(have:=a.o;exact oq)) k);clear k))
   exact⟨rfl,rfl,s.o⟩
 .obtain⟨tu,xu,rfl⟩:=hu.iface;have aa:=Ar ad;obtain⟨u1,u2,u3⟩:=aa;have HU:=UD (∀wx,Chg w wx []->JB (nF tu xu) (Ag u) wx) fun wx h=>MD _ u _ bu wx (Q8 _) ae ad (hu.chg h Zh);obtain⟨M,aa⟩:=Ue (Ag u);rw[<-aa]at HU G F u1 u2 u3;clear hu ae ad hx ab aa;have t:(n':Int)=((N:Int)+((sz.nodes:Int)-(M.nodes:Int))):=Zj;have y:(Y:Int)=((B:Int)+((sz.bytes:Int)+(C:Int)-(M.bytes:Int))):=Zj;have I:((r+sz.depth:Nat):Int)=((r:Int)+(sz.depth:Int)):=Zj;have G1:=hZ t;have G2:=hZ y;have c1:w.cell? ⟨W,1,nN⟩=nM (nI nX N):=X.o.cell 1;have i:w.cell? ⟨W,2,nN⟩=nM (nI nX B):=X.o.cell 2;by_cases q:n'<=65536
  .have j1:((N:Int)+((sz.nodes:Int)-(M.nodes:Int)))<=65536:=by omega
   by_cases A:Y<=2097152
   .have j2:((B:Int)+((sz.bytes:Int)+(C:Int)-(M.bytes:Int)))<=2097152:=by omega
    by_cases J:r+sz.depth<=512
    .have j3:((r:Int)+(sz.depth:Int))<=512:=by omega
     rw[En (KB.2 ⟨q,A,J⟩)];clear t y I G F q A J;go_enter func127,ntmps127
     go_wp2_with(first
    |(refine Am rfl _ _ _ rfl _ rfl f args K.o _ H.o ?_;rintro e o ⟨rfl,d⟩;refine⟨_,rfl, ?_⟩;have a:=hZ d;unfold Jv;obtain⟨T,Q,D,i⟩:=HU.o o d;have P:=hZ D;have O:=hZ i;clear D i;clear d)
    |(refine Am rfl _ _ _ rfl _ rfl T Q P.o _ O.o ?_;rintro e w2 ⟨rfl,z⟩;refine⟨_,rfl, ?_⟩;have g:=UD (Chg w w2 []) (a.o.trans z);unfold Jv;have R:=g.o.keeps c1;have S:=g.o.keeps i;have V:=Q6 n g.o.size;have U:∀j,w2.frozen? ⟨W,j,nN⟩=false:=fun j=>(g.o.frozen (p:=⟨W,j,nN⟩) n Zh).trans (L j);clear z)
    |(go_at_call 80;refine(Bv _ _).mono ?_;rintro e w4 ⟨rfl,rfl⟩))
     go_end0
     refine⟨rfl, ?_, ?_⟩
     .refine(((X.o.kept g.o).set 1 (nI nX ((N:Int)+((sz.nodes:Int)-(M.nodes:Int))))).set 2 (nI nX ((B:Int)+((sz.bytes:Int)+(C:Int)-(M.bytes:Int))))).eq ?_;exact wL
     .have Z:Chg w w2 [W]:=g.o.none _
      (have:=Z;exact oq)
    .have j3:¬(((r:Int)+(sz.depth:Int))<=512):=by omega
     rw[DO (E9 (fun h=>J h.2.2))];clear t y I G F q A J;go_enter func127,ntmps127
     go_wp2_with(first
    |(refine Am rfl _ _ _ rfl _ rfl f args K.o _ H.o ?_;rintro e o ⟨rfl,d⟩;refine⟨_,rfl, ?_⟩;have a:=hZ d;unfold Jv;obtain⟨T,Q,D,i⟩:=HU.o o d;have P:=hZ D;have O:=hZ i;clear D i;clear d)
    |(refine Am rfl _ _ _ rfl _ rfl T Q P.o _ O.o ?_;rintro e w2 ⟨rfl,z⟩;refine⟨_,rfl, ?_⟩;have g:=UD (Chg w w2 []) (a.o.trans z);unfold Jv;have R:=g.o.keeps c1;have S:=g.o.keeps i;have V:=Q6 n g.o.size;have U:∀j,w2.frozen? ⟨W,j,nN⟩=false:=fun j=>(g.o.frozen (p:=⟨W,j,nN⟩) n Zh).trans (L j);clear z)
    |(go_at_call 80;refine(Bu _ _).mono ?_;rintro e E ⟨l,k⟩;unfold By at l;subst l;have s:=UD (Chg w E []) (Chg.trans (b:=_) (by(have:=g.o;exact oq)) k);clear k))
     exact⟨rfl,rfl,s.o⟩
   .have j2:¬(((B:Int)+((sz.bytes:Int)+(C:Int)-(M.bytes:Int)))<=2097152):=by omega
    rw[DO (E9 (fun h=>A h.2.1))];clear t y I G F q A;go_enter func127,ntmps127
    go_wp2_with(first
    |(refine Am rfl _ _ _ rfl _ rfl f args K.o _ H.o ?_;rintro e o ⟨rfl,d⟩;refine⟨_,rfl, ?_⟩;have a:=hZ d;unfold Jv;obtain⟨T,Q,D,i⟩:=HU.o o d;have P:=hZ D;have O:=hZ i;clear D i;clear d)
    |(refine Am rfl _ _ _ rfl _ rfl T Q P.o _ O.o ?_;rintro e w2 ⟨rfl,z⟩;refine⟨_,rfl, ?_⟩;have g:=UD (Chg w w2 []) (a.o.trans z);unfold Jv;have R:=g.o.keeps c1;have S:=g.o.keeps i;have V:=Q6 n g.o.size;have U:∀j,w2.frozen? ⟨W,j,nN⟩=false:=fun j=>(g.o.frozen (p:=⟨W,j,nN⟩) n Zh).trans (L j);clear z)
    |(go_at_call 80;refine(Bu _ _).mono ?_;rintro e E ⟨l,k⟩;unfold By at l;subst l;have s:=UD (Chg w E []) (Chg.trans (b:=_) (by(have:=g.o;exact oq)) k);clear k))
    exact⟨rfl,rfl,s.o⟩
  .have j1:¬(((N:Int)+((sz.nodes:Int)-(M.nodes:Int)))<=65536):=by omega
   rw[DO (E9 (fun h=>q h.1))];clear t y I G F q;go_enter func127,ntmps127
   go_wp2_with(first
    |(refine Am rfl _ _ _ rfl _ rfl f args K.o _ H.o ?_;rintro e o ⟨rfl,d⟩;refine⟨_,rfl, ?_⟩;have a:=hZ d;unfold Jv;obtain⟨T,Q,D,i⟩:=HU.o o d;have P:=hZ D;have O:=hZ i;clear D i;clear d)
    |(refine Am rfl _ _ _ rfl _ rfl T Q P.o _ O.o ?_;rintro e w2 ⟨rfl,z⟩;refine⟨_,rfl, ?_⟩;have g:=UD (Chg w w2 []) (a.o.trans z);unfold Jv;have R:=g.o.keeps c1;have S:=g.o.keeps i;have V:=Q6 n g.o.size;have U:∀j,w2.frozen? ⟨W,j,nN⟩=false:=fun j=>(g.o.frozen (p:=⟨W,j,nN⟩) n Zh).trans (L j);clear z)
    |(go_at_call 80;refine(Bu _ _).mono ?_;rintro e E ⟨l,k⟩;unfold By at l;subst l;have s:=UD (Chg w E []) (Chg.trans (b:=_) (by(have:=g.o;exact oq)) k);clear k))
   exact⟨rfl,rfl,s.o⟩
end
end Go.Proofs.YtpdnhfkacgdocaaGreatDoor

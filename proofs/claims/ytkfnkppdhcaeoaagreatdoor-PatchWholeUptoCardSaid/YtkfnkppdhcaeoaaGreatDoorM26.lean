/- Part 26 of the proof of patchJoined_card. -/
import Derived.Test.YtkfnkppdhcaeoaaGreatDoorM23
set_option maxRecDepth 100000
set_option maxHeartbeats 32000000
set_option linter.unusedSimpArgs false
set_option linter.unusedVariables false
set_option linter.unnecessarySimpa false
namespace Go.Proofs.YtkfnkppdhcaeoaaGreatDoor
open Go renaming Calls->Cl,Value->Vl,World->Wl
section
open _root_.Go.Proofs.Tryz
open Go Go.Shelf Go.RowKit Go.Lib Tree Ptr
theorem Zs(a b:Option Addr)(n c m d:Nat)(w:Wl)(h:n≠m):Cl prog 64 #[.slice a n c,.slice b m d] w fun e w'=>e= .returned (.bool false)/\w=w':=by
 have f:((n:Int) !=(m:Int))=true:=by rw[bne_iff_ne];omega
 go_enter func64,ntmps64
 go_wp2
 go_ret
 exact⟨rfl,rfl⟩
theorem Ax.cells{w:Wl}{F:Nat->Prop}{f:Vl}{xs:List Vl}(h:Ax w F f xs)(l:0<xs.length):∃b o c,f= .slice (some ⟨b,o,none⟩) xs.length c/\∀i v,xs[i]? =some v->w.cell? ⟨b,o+i,none⟩=some v:=by
 obtain⟨a,c,rfl,d⟩:=h.cell;obtain⟨b,o,rfl,_,_⟩:=d 0 _ (Q9 l);refine⟨b,o,c,rfl,fun i v m=> ?_⟩;obtain⟨n,p,e,_,k⟩:=d i v m
 injection e with e
 injection e with g j
 subst g;subst j;exact k
theorem Ix{F G:Nat->Prop}(ks f:List BY)(sk s:Vl)(w:Wl)(n:Ax w F sk (Ad ks))(o:Ax w G s (Ad f))(H:ks.length<=4294967296)(E:f.length<=4294967296):
  Cl prog 64 #[sk,s] w fun e w'=>e= .returned (.bool (decide (ks=f)))/\∃q,w'=w.drewN q:=by
 obtain⟨a,c,rfl,_⟩:=n.cell;obtain⟨b,d,rfl,_⟩:=o.cell;rw[Ao]at n o|-;rw[Ao];by_cases p:ks.length=f.length
 .by_cases v:ks.length=0
  .have g:ks=[]:=List.eq_nil_of_length_eq_zero v
   have i:f=[]:=List.eq_nil_of_length_eq_zero (by omega);subst g;subst i;have:=Any.slices_Equal_string_empty b9 a b c 0 d w (by omega);exact this.mono fun e w' h=>⟨by rw[h.1];rfl,0,h.2⟩
  .obtain⟨t,z,c1,g,x⟩:=Ax.cells n (by rw[Ao];omega)
   obtain⟨u,A,B,i,y⟩:=Ax.cells o (by rw[Ao];omega)
   injection g with g _ C
   injection i with i _ D
   subst g;subst i
   have r:∀(l:List BY) (j:Nat),j<l.length->(Ad l)[j]? =some (.string (l.getD j ByteArray.empty)):=fun l j k=>by
    simp[Ad,k]
   have m:=Any.slices_Equal_string b9 t z ks.length c u A f.length d ks f w (Q8 _) (Q8 _) (by omega) (by omega) (fun j k=>x j _ (r ks j k)) (fun j k=>y j _ (r f j k));rw[Qn (Q8 _),Qn (Q8 _)]at m;change Cl prog 64 _ _ _ at m;exact m
 .refine(Zs a b ks.length c f.length d w p).mono ?_
  rintro e w' ⟨rfl,rfl⟩;exact⟨by rw[decide_eq_false (fun h=>p (by rw[h]))],0,rfl⟩
end
section
open _root_.Go.Proofs.Tryz
open Go Go.Shelf Go.RowKit Go.Lib Tree
theorem WM(s:Ap)(c d:Vl)(w:Wl)(j l:Nat->Prop)(a:Ax w j c (Ad s.keys))(g:Ax w l d (Ad s.keys))(n:∀k,j k->k<w.heap.size)(o:∀k,l k->k<w.heap.size)(i:s.keys.length<=4294967296):
  Cl prog 39 #[.agg (AI s c).toArray,.agg (AI s d).toArray] w fun e w'=>e= .returned (.bool true)/\Chg w w' []:=by
 have f:Hid (∀b,Chg w b []->Cl prog 64 #[c,d] b fun e w'=>e= .returned (.bool true)/\Chg b w' []):=hZ fun b r=>by
  refine(Ix s.keys s.keys c d b (a.kept (r.keepsF n) (fun _ h=>h)) (g.kept (r.keepsF o) (fun _ h=>h)) i i).mono ?_;rintro e w' ⟨rfl,q,rfl⟩;exact⟨by rw[decide_eq_true rfl],(Chg.refl b []).drewN q⟩
 obtain⟨m,c1,rfl,_⟩:=a.cell;obtain⟨v,x,rfl,_⟩:=g.cell;rw[Ao]at f|-;have u:Hid (Ac ((w.alloc (.cells (AI s (.slice m s.keys.length c1)).toArray 72)).alloc (.cells (AI s (.slice v s.keys.length x)).toArray 72)) w.heap.size (AI s (.slice m s.keys.length c1)) 72):=hZ ((Ac.new w _ _).alloc _);obtain⟨B,p⟩:∃k,k=s.keys.length:=⟨_,rfl⟩
 rw[<-p]at f u|-;clear a g i p n o;obtain⟨C,A,y,D,z,ks⟩:=s;unfold AI at*
 dsimp only at*
 go_enter func39,ntmps39
 go_wp2_with((go_at_call 64;refine(f.o _ (by exact cg cR)).mono ?_;rintro e E ⟨rfl,a⟩;have t:=hZ a;clear a))
 go_ret
 exact⟨rfl,ct cR t.o⟩
end
section
open _root_.Go.Proofs.Tryz
open Go Go.Shelf Go.RowKit Go.Lib Tree Ptr
def BU(b:Bool)(w:Wl)(e:Ending)(w':Wl):Prop:=e= .returned (.bool b)/\Chg w w' []
theorem Sd{l m:List Tr}(h:l≠m):ER l m=false:=by
 cases a:ER l m with
 |false=>rfl
 |true=>exact absurd ((Gq l m).1 a) h
theorem Vy{l m:List Tr}(h:l=m):ER l m=true:=(Gq l m).2 h
theorem XI{l m:Tr}(h:l≠m):BQ l m=false:=by
 cases a:BQ l m with
 |false=>rfl
 |true=>exact absurd ((KG l m).1 a) h
theorem Vz{l m:Tr}(h:l=m):BQ l m=true:=(KG l m).2 h
theorem RC(l m:List Tr)(vs us:List Vl)(fs gs:List Nat)(a b:Option Addr)(c d:Nat)(w:Wl)(F:AK w (.slice a vs.length c) 95 vs)(G:AK w (.slice b us.length d) 95 us)(p:PsAt w l vs fs)(q:PsAt w m us gs)(Z:l.length<=65536)(C:∀t s v u E D w',t∈l->s∈m->AP w' t v E->AP w' s u D->Cl prog 171 #[v,u] w' (BU (BQ t s) w')):
  Cl prog 205 #[.slice a vs.length c,.slice b us.length d,.func (.func 171) #[] #[]] w (BU (ER l m) w):=by
 have M:=p.length;have L:=q.length;by_cases x:l.length=m.length
 .have H:us.length=vs.length:=by omega
  rw[H];have ab:((vs.length:Int) !=(vs.length:Int))=false:=by simp
  have ae:vs.length<=65536:=by omega
  have W:=hZ M;have V:=hZ L;have P:=hZ x;have O:=hZ H;have R:=hZ F;have S:=hZ G;have HP:=hZ p;have HQ:=hZ q;have HI:=hZ C;clear F G p q C M L x H Z;go_enter func205,ntmps205
  go_wp2_with fail
  go_loopw [17] (fun N wr=>∃k:Nat,k<=vs.length/\N= .int .i64 k/\(∀j,j<k->l[j]? =m[j]?)/\Chg w wr []) (fun N _=>vs.length-(intOf N).toNat)
  case atStart=>exact⟨0,by omega,rfl,fun j r=>by omega,Chg.refl _ _⟩
  case round=>
   obtain⟨k,hk,rfl,X,Y⟩:=hrel;have Q:=hZ X;have f:=hZ Y;clear X Y;by_cases aa:k<vs.length
   .obtain⟨t,z⟩:∃t,l[k]? =some t:=⟨_,Q9 (by have:=W.o;omega)⟩
    obtain⟨s,y⟩:∃s,m[k]? =some s:=⟨_,Q9 (by have:=V.o;have:=O.o;omega)⟩
    obtain⟨v,E,hv,J,_⟩:=HP.o.get z;obtain⟨u,D,K,I,_⟩:=HQ.o.get y
    obtain⟨ga,rfl⟩:∃g,a=some ⟨g,0,none⟩:=by
     rcases R.o.one with⟨_,h⟩|⟨g,_,h,_⟩
     .subst h;simp at aa
     .injection h with h;exact⟨g,h⟩
    obtain⟨gb,rfl⟩:∃g,b=some ⟨g,0,none⟩:=by
     rcases S.o.one with⟨_,h⟩|⟨g,_,h,_⟩
     .subst h;simp at K
     .injection h with h;exact⟨g,h⟩
    obtain⟨tv,xv,rfl⟩:=J.iface;obtain⟨tu,xu,rfl⟩:=I.iface;have c1:wr.cell? ⟨ga,k,none⟩=some (.iface tv xv):=f.o.keeps (R.o.cell rfl k _ hv);have c2:wr.cell? ⟨gb,k,none⟩=some (.iface tu xu):=f.o.keeps (S.o.cell rfl k _ K);have o:=hZ (HI.o t s _ _ E D wr (Qi z) (Qi y) (J.chg f.o (by simp)) (I.chg f.o (by simp)));have U:=hZ z;have T:=hZ y;clear z y hv K J I;by_cases i:t=s
    .rw[Vz i]at o
     have B:=hZ i;clear i
     go_wp2_with(first
      |(go_at_call 171;refine o.o.mono ?_;rintro e w1 ⟨rfl,n⟩;have A:=hZ n;clear n))
     go_roundw
     case rel=>exact⟨k+1,by omega,by go_num,fun j r=>by
      rcases Nat.lt_succ_iff_lt_or_eq.1 r with h|rfl
      .exact Q.o j h
      .rw[U.o,T.o,B.o],f.o.trans A.o⟩
     case measure=>simp[intOf];omega
    .rw[XI i]at o
     have B:=hZ i;clear i
     go_wp2_with(first
      |(go_at_call 171;refine o.o.mono ?_;rintro e w1 ⟨rfl,n⟩;have A:=hZ n;clear n))
     go_ret
     exact⟨Bo (Sd (fun h=>B.o (by
      have:=U.o;rw[h,T.o]at this
      injection this with this
      exact this.symm))).symm,f.o.trans A.o⟩
   .have ad:k=vs.length:=by omega
    go_wp2_with fail
    go_ret
    exact⟨Bo (Vy (List.ext_getElem? fun j=>by
     by_cases r:j<k
     .exact Q.o j r
     .rw[List.getElem?_eq_none (by have:=W.o;omega),List.getElem?_eq_none (by have:=V.o;have:=O.o;omega)])).symm,f.o⟩
 .have ab:((vs.length:Int) !=(us.length:Int))=true:=by rw[bne_iff_ne];omega
  have P:=hZ x;clear F G p q C M L x Z;go_enter func205,ntmps205
  go_wp2_with fail
  go_ret
  exact⟨Bo (Sd (fun h=>P.o (by rw[h]))).symm,Chg.refl _ _⟩
theorem ZB:∀(k:Nat) (t s:Tr) (v u:Vl) (bv bu:List Nat) (w:Wl),(Ag t).nodes<=k->(Ag t).nodes<=65536->Av t->Av s->AP w t v bv->AP w s u bu->Cl prog 171 #[v,u] w (BU (BQ t s) w):=by
 intro k
 induction k with
 |zero=>intro t _ _ _ _ _ _ h;have:=Cv t;omega
 |succ k ih=>
  intro t s v u bv bu w Y hn K E F p
  have ak:∀x y M N O P w',x∈Ab t->y∈Ab s->AP w' x M O->AP w' y N P->Cl prog 171 #[M,N] w' (BU (BQ x y) w'):=fun x y M N O P w' d hy r R=>by
   obtain⟨i,hi⟩:=List.mem_iff_getElem?.1 d;have:=CO hi;exact ih x y M N O P w' (by omega) (by omega) (K.items x d) (E.items y hy) r R
  obtain⟨tu,xu,rfl⟩:=p.iface;have HK:=hZ ak;clear ak ih;by_cases A:AX t=true
  .obtain⟨rfl,rfl⟩:=F.leaf (fun l e=>by subst e;simp[AX]at A) (fun ks l e=>by subst e;simp[AX]at A)
   have a0:∀(w:Wl),(Instr.typeAssert (.iface 183 (.agg #[AG t])) 95 183 true).run prog w= .ok (.tuple #[.agg #[AG t],.bool true]) w:=fun _=>by kernel_rfl
   obtain⟨st,sx,ah⟩:∃st sx,AG t= .iface st sx:=by cases t<;>first|exact⟨_,_,rfl⟩|simp[AX]at A
   by_cases C:AX s=true
   .obtain⟨e,rfl⟩:=p.leaf (fun l e=>by subst e;simp[AX]at C) (fun ks l e=>by subst e;simp[AX]at C)
    injection e with j o
    subst j;subst o;have a1:∀(w:Wl),(Instr.typeAssert (.iface 183 (.agg #[AG s])) 95 183 true).run prog w= .ok (.tuple #[.agg #[AG s],.bool true]) w:=fun _=>by kernel_rfl
    obtain⟨ss,sy,am⟩:∃st sx,AG s= .iface st sx:=by cases s<;>first|exact⟨_,_,rfl⟩|simp[AX]at C
    have ai:=fun w=>XJ t s A C K E w
    rw[ah]at a0 ai|-;rw[am]at a1 ai|-;obtain⟨B,J⟩:∃B,B=BQ t s:=⟨_,rfl⟩
    rw[<-J]at ai|-;clear ah am J F p K E;go_enter func171,ntmps171
    go_wp2_with fail
    go_ret
    exact⟨rfl,by exact cg cR⟩
   .have L:BQ t s=false:=by
     cases s with
     |list m=>cases t<;>simp[BQ,AX]at A|-
     |obj f m=>cases t<;>simp[BQ,AX]at A|-
     |_=>simp[AX]at C
    have a1:∀(w:Wl),(Instr.typeAssert (.iface tu xu) 95 183 true).run prog w= .ok (.tuple #[.agg #[.nilIface],.bool false]) w:=by
     cases s with
     |list m=>
      obtain⟨b,sv,us,Q,e,_,_⟩:=p.list
      injection e with j o
      subst j;subst o;exact fun _=>by kernel_rfl
     |obj f m=>
      obtain⟨b,sv,sk,us,Q,e,_,_⟩:=p.obj
      injection e with j o
      subst j;subst o;exact fun _=>by kernel_rfl
     |_=>simp[AX]at C
    rw[ah]at a0|-;rw[L];clear ah L F p K E;go_enter func171,ntmps171
    go_wp2_with fail
    go_ret
    exact⟨rfl,by exact cg cR⟩
  .cases t with
   |list l=>
    obtain⟨b,sv,vs,fs,e,g,_⟩:=F.list;subst e;unfold Jn;have a0:∀(w:Wl),(Instr.typeAssert (.iface 104 (.pointer (some ⟨b,0,none⟩))) 95 183 true).run prog w= .ok (.tuple #[.agg #[.nilIface],.bool false]) w:=fun _=>by kernel_rfl
    have a1:∀(w:Wl),(Instr.typeAssert (.iface 104 (.pointer (some ⟨b,0,none⟩))) 95 104 true).run prog w= .ok (.tuple #[.pointer (some ⟨b,0,none⟩),.bool true]) w:=fun _=>by kernel_rfl
    by_cases af:∃m,s= .list m
    .obtain⟨m,rfl⟩:=af
     obtain⟨D,su,us,Q,e,z,_⟩:=p.list
     injection e with j o
     subst j;subst o;have a2:∀(w:Wl),(Instr.typeAssert (.iface 104 (.pointer (some ⟨D,0,none⟩))) 95 104 true).run prog w= .ok (.tuple #[.pointer (some ⟨D,0,none⟩),.bool true]) w:=fun _=>by kernel_rfl
     obtain⟨a,c,rfl,_⟩:=g.lst.form;obtain⟨H,I,rfl,_⟩:=z.lst.form;have c1:w.cell? ⟨b,0,none⟩=some (.slice a vs.length c):=g.blk.cell 0;have U:w.cell? ⟨D,0,none⟩=some (.slice H us.length I):=z.blk.cell 0;have V:=Bj (.list l);simp only[Ab]at V
     have T:Hid (∀h,Chg w h []->Cl prog 205 #[.slice a vs.length c,.slice H us.length I,.func (.func 171) #[] #[]] h (BU (ER l m) h)):=hZ fun h d=>
      RC l m vs us fs Q a H c I h (g.lst.kept d) (z.lst.kept d) (g.at_.chg d (by simp)) (z.at_.chg d (by simp)) (by omega) fun x y M N O P w' d hy r R=>HK.o x y M N O P w' d hy r R
     have W:BQ (.list l) (.list m)=ER l m:=by simp only[BQ]
     rw[W];obtain⟨B,J⟩:∃B,B=ER l m:=⟨_,rfl⟩
     rw[<-J]at T|-;clear W J F p K E g z V Y hn A;go_enter func171,ntmps171
     go_wp2_with fail
     go_region_held3(fun w'=>w'.cell? ⟨b,0,none⟩=some (.slice a vs.length c)/\w'.cell? ⟨D,0,none⟩=some (.slice H us.length I)) (first|exact⟨c1,U⟩|exact⟨G.o.keeps c1,G.o.keeps U⟩)
      (first|(go_at_call 205;refine(T.o _ (by exact cg cR)).mono ?_;rintro e w1 ⟨rfl,r⟩;have G:Hid (Chg w w1 []):=hZ (ct cR r);clear r))
     all_goals
      go_wp2_with fail
      go_ret
      exact⟨rfl,by exact cg G.o⟩
    .have a2:∀(w:Wl),(Instr.typeAssert (.iface tu xu) 95 104 true).run prog w= .ok (.tuple #[.pointer none,.bool false]) w:=by
      by_cases C:AX s=true
      .obtain⟨e,_⟩:=p.leaf (fun l e=>by subst e;simp[AX]at C) (fun ks l e=>by subst e;simp[AX]at C)
       injection e with j o
       subst j;subst o;exact fun _=>by kernel_rfl
      .cases s with
       |list m=>exact absurd ⟨m,rfl⟩ af
       |obj f m=>
        obtain⟨b,sv,sk,us,Q,e,_,_⟩:=p.obj
        injection e with j o
        subst j;subst o;exact fun _=>by kernel_rfl
       |_=>simp[AX]at C
     have L:BQ (.list l) s=false:=by
      cases s with
      |list m=>exact absurd ⟨m,rfl⟩ af
      |_=>simp only[BQ]
     rw[L];clear L F p K E g Y hn A af;go_enter func171,ntmps171
     go_wp2_with fail
     go_quiet(fail)
     go_wp2_with fail
     go_ret
     exact⟨rfl,by exact cg cR⟩
   |obj ks l=>
    obtain⟨b,sv,sk,vs,fs,e,g,_⟩:=F.obj;subst e;unfold IR;have a0:∀(w:Wl),(Instr.typeAssert (.iface 175 (.pointer (some ⟨b,0,none⟩))) 95 183 true).run prog w= .ok (.tuple #[.agg #[.nilIface],.bool false]) w:=fun _=>by kernel_rfl
    have a1:∀(w:Wl),(Instr.typeAssert (.iface 175 (.pointer (some ⟨b,0,none⟩))) 95 104 true).run prog w= .ok (.tuple #[.pointer none,.bool false]) w:=fun _=>by kernel_rfl
    have a3:∀(w:Wl),(Instr.typeAssert (.iface 175 (.pointer (some ⟨b,0,none⟩))) 95 175 true).run prog w= .ok (.tuple #[.pointer (some ⟨b,0,none⟩),.bool true]) w:=fun _=>by kernel_rfl
    by_cases ag:∃f m,s= .obj f m
    .obtain⟨f,m,rfl⟩:=ag
     obtain⟨D,su,sl,us,Q,e,z,_⟩:=p.obj
     injection e with j o
     subst j;subst o;have a2:∀(w:Wl),(Instr.typeAssert (.iface 175 (.pointer (some ⟨D,0,none⟩))) 95 175 true).run prog w= .ok (.tuple #[.pointer (some ⟨D,0,none⟩),.bool true]) w:=fun _=>by kernel_rfl
     obtain⟨a,c,rfl,_⟩:=g.lst.form;obtain⟨H,I,rfl,_⟩:=z.lst.form;have ad:=g.keys;have ae:=z.keys;obtain⟨ka,kc,rfl,_⟩:=g.keys.form;obtain⟨la,lc,rfl,_⟩:=z.keys.form;have c1:w.cell? ⟨b,0,none⟩=some (.slice a vs.length c):=g.blk.cell 0;have U:w.cell? ⟨D,0,none⟩=some (.slice H us.length I):=z.blk.cell 0;have c3:w.cell? ⟨b,1,none⟩=some (.slice ka (Ad ks).length kc):=g.blk.cell 1;have c4:w.cell? ⟨D,1,none⟩=some (.slice la (Ad f).length lc):=z.blk.cell 1;have V:=Bj (.obj ks l);have al:=g.len;have aj:f.length<=4294967296:=by simp only[Av]at E;exact Q7 E.1.many (by omega)
     simp only[Ab]at V
     have T:Hid (∀h,Chg w h []->Cl prog 205 #[.slice a vs.length c,.slice H us.length I,.func (.func 171) #[] #[]] h (BU (ER l m) h)):=hZ fun h d=>
      RC l m vs us fs Q a H c I h (g.lst.kept d) (z.lst.kept d) (g.at_.chg d (by simp)) (z.at_.chg d (by simp)) (by omega) fun x y M N O P w' d hy r R=>HK.o x y M N O P w' d hy r R
     have X:Hid (∀h,Chg w h []->Cl prog 64 #[.slice ka (Ad ks).length kc,.slice la (Ad f).length lc] h (BU (decide (ks=f)) h)):=hZ fun h d=>
      (Ix ks f _ _ h (ad.kept d).toRow (ae.kept d).toRow (by omega) (by omega)).mono fun e w' ⟨r,q,R⟩=>⟨r,by subst R;exact(Chg.refl h []).drewN q⟩
     have W:BQ (.obj ks l) (.obj f m)=(decide (ks=f)&&ER l m):=by simp only[BQ]
     rw[W];obtain⟨B,J⟩:∃B,B=ER l m:=⟨_,rfl⟩
     obtain⟨K1,aa⟩:∃n,n=(Ad ks).length:=⟨_,rfl⟩
     obtain⟨K2,ab⟩:∃n,n=(Ad f).length:=⟨_,rfl⟩
     rw[<-J]at T|-;rw[<-aa]at X c3;rw[<-ab]at X c4;by_cases Z:ks=f
     .rw[decide_eq_true Z]at X|-
      rw[Bool.true_and];clear W J F p K E g z V Y hn A ad ae al aj Z aa ab;go_enter func171,ntmps171
      go_wp2_with fail
      go_region_held3(fun w'=>w'.cell? ⟨b,0,none⟩=some (.slice a vs.length c)/\w'.cell? ⟨D,0,none⟩=some (.slice H us.length I)/\w'.cell? ⟨b,1,none⟩=some (.slice ka K1 kc)/\w'.cell? ⟨D,1,none⟩=some (.slice la K2 lc))
       (first|exact⟨c1,U,c3,c4⟩|exact⟨G.o.keeps c1,G.o.keeps U,G.o.keeps c3,G.o.keeps c4⟩|exact⟨S.o.keeps c1,S.o.keeps U,S.o.keeps c3,S.o.keeps c4⟩)
       (first
        |(go_at_call 64;refine(X.o _ (by exact cg cR)).mono ?_;rintro e w2 ⟨rfl,r⟩;have S:Hid (Chg w w2 []):=hZ (ct cR r);clear r)
        |(go_at_call 205;refine(T.o _ (by exact cg S.o)).mono ?_;rintro e w1 ⟨rfl,r⟩;have G:Hid (Chg w w1 []):=hZ (ct S.o r);clear r))
      all_goals
       go_wp2_with fail
       go_ret
       exact⟨rfl,by exact cg G.o⟩
     .have an:Hid (∀n,Cl prog 64 #[.slice ka K1 kc,.slice la K2 lc] (w.drewN n) fun e w'=>e= .returned (.bool false)/\∃m,w'=(w.drewN n).drewN m):=hZ fun n=>by
       have d:Chg w (w.drewN n) []:=(Chg.refl w []).drewN n;have:=Ix ks f _ _ (w.drewN n) (ad.kept d).toRow (ae.kept d).toRow (by omega) (by omega);rw[decide_eq_false Z,<-aa,<-ab]at this;exact this
      rw[decide_eq_false Z];rw[Bool.false_and];clear W J F p K E g z V Y hn A ad ae al aj Z aa ab T X;go_enter func171,ntmps171
      go_wp2_with fail
      go_quiet((go_at_call 64;exact Calls.quiet_of (an.o _)))
      go_wp2_with fail
      go_ret
      exact⟨rfl,by exact cg cR⟩
    .have a2:∀(w:Wl),(Instr.typeAssert (.iface tu xu) 95 175 true).run prog w= .ok (.tuple #[.pointer none,.bool false]) w:=by
      by_cases C:AX s=true
      .obtain⟨e,_⟩:=p.leaf (fun l e=>by subst e;simp[AX]at C) (fun ks l e=>by subst e;simp[AX]at C)
       injection e with j o
       subst j;subst o;exact fun _=>by kernel_rfl
      .cases s with
       |obj f m=>exact absurd ⟨f,m,rfl⟩ ag
       |list m=>
        obtain⟨b,sv,us,Q,e,_,_⟩:=p.list
        injection e with j o
        subst j;subst o;exact fun _=>by kernel_rfl
       |_=>simp[AX]at C
     have L:BQ (.obj ks l) s=false:=by
      cases s with
      |obj f m=>exact absurd ⟨f,m,rfl⟩ ag
      |_=>simp only[BQ]
     rw[L];clear L F p K E g Y hn A ag;go_enter func171,ntmps171
     go_wp2_with fail
     go_quiet(fail)
     go_wp2_with fail
     go_ret
     exact⟨rfl,by exact cg cR⟩
   |null=>simp[AX]at A
   |flag _=>simp[AX]at A
   |num _=>simp[AX]at A
   |text _=>simp[AX]at A
end
end Go.Proofs.YtkfnkppdhcaeoaaGreatDoor

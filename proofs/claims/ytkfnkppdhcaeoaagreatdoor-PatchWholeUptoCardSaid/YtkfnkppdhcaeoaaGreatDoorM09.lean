/- Part 9 of the proof of patchJoined_card. -/
import Derived.Test.YtkfnkppdhcaeoaaGreatDoorM07
set_option maxRecDepth 100000
set_option maxHeartbeats 32000000
set_option linter.unusedSimpArgs false
set_option linter.unusedVariables false
set_option linter.unnecessarySimpa false
namespace Go.Proofs.YtkfnkppdhcaeoaaGreatDoor
open Go renaming Calls->Cl,TypeId->Ti,Value->Vl,World->Wl
section
open _root_.Go.Proofs.Tryz
open Go Go.RowKit Tree
def Cx(F:Nat->Prop)(T:Ti)(b:Nat)(sv:Vl)(l:List Tr)(w:Wl)(e:Ending)(w':Wl):Prop:=
 e= .returned .nilIface/\∃a c d,(∀k,F k->a k)/\(∀k,a k->k<w.heap.size->F k)/\C3 w' a T b c l d/\Chg w w' (b::sv.ownBlock.toList)/\∀g,c.ownBlock=some g->sv.ownBlock=some g\/w.heap.size<=g
def Fc(w:Wl)(e:Ending)(w':Wl):Prop:=(∃n:Int,e= .returned (.iface 50 (.int .i64 n)))/\Chg w w' []
theorem C3.set{w:Wl}{F:Nat->Prop}{T:Ti}{b:Nat}{sv:Vl}{l:List Tr}{vs:List Vl}(h:C3 w F T b sv l vs)(p:Addr)(v:Vl)(e:p.block≠b)(m:∀g,sv.ownBlock=some g->g≠p.block)(d:¬F p.block):
  C3 (w.setCell p v) F T b sv l vs:=by
 have c:Chg w (w.setCell p v) [p.block]:=(Chg.refl _ _).setCell _ _ (by simp)
 exact⟨h.blk.set_other _ _ e,h.lst.kept c fun g i j=>m g i (by simpa using j),Ak.kept (c.keepsF h.lt fun k a f=>d (by simp at a;subst a;exact f)) (fun _ h=>h) l vs h.items,h.apart,h.apart',
  fun k a=>Q6 (h.lt k a) c.size⟩
theorem DA{F a:Nat->Prop}{T:Ti}{b:Nat}{sv:Vl}{l:List Tr}{w d w2:Wl}(c:Chg w d [])(f:FZ a T b sv l d w2)(j:∀k,F k->a k)(m:∀k,a k->k<w.heap.size->F k)(s:b<w.heap.size)(o:∀g,sv.ownBlock=some g->g<w.heap.size)(k:Nat)(t:w.heap.size<=k)(u:k<d.heap.size)(p:¬a k)(v:Vl):Cx F T b sv l w (.returned .nilIface) (w2.setCell ⟨k,0,none⟩ v):=by
 obtain⟨q,r,n,i,e⟩:=f;refine⟨rfl,a,q,r,j,m,n.set _ _ (by simp;omega) (fun g h=> ?_) p,((c.none _).trans i).setCell _ _ (by simp;omega),fun g h=>(e g h).imp id fun h=>Q7 c.size h⟩;have:=c.size
 rcases e g h with h|h
 .have:=o g h;simp;omega
 .simp;omega
theorem FZ.chg{F:Nat->Prop}{T:Ti}{b:Nat}{sv:Vl}{l:List Tr}{w w':Wl}(h:FZ F T b sv l w w'):Chg w w' (b::sv.ownBlock.toList):=by
 obtain⟨_,_,_,h,_⟩:=h;exact h
theorem Lv(F:Nat->Prop)(T:Ti)(b:Nat)(sv:Vl)(l:List Tr)(vs:List Vl)(s:BY)(z:Vl)(w:Wl)(k:C3 w F T b sv l vs)(N:∃a c,z= .slice a 0 c)(v:Utf.Al s=true)(y:(Ag (.text s)).within=true)(O:l.length<=2147483648)(P:s.size<=2147483648):
  Cl prog 61 #[.pointer (some ⟨b,0,none⟩),DY 4 false 0 s 0 z] w (Cx F T b sv (l++[.text s]) w):=by
 obtain⟨a,c,rfl⟩:=N;have aa:∀(t:Fn) (first r:Array Vl) (w:Wl),(Instr.makeFunc t first r).run prog w= .ok (.func t first r) w:=fun _ _ _ _=>rfl
 have x:Bs 4 false 0 s 0 0=true:=by unfold Bs;simp
 have d:=hZ k;have E:=hZ x;have B:=hZ v;have G:=hZ y;have C:=hZ ((Ac.new w [.int .i64 4,.bool false,.int .u64 0,.string s,.int .i64 0,.slice a 0 c] 72).alloc (.cells #[.nilIface] 35));have A:=hZ (CH w (.cells [.int .i64 4,.bool false,.int .u64 0,.string s,.int .i64 0,.slice a 0 c].toArray 72) [.nilIface] 35);have K:=k.blk.lt;clear k x v y;go_enter_defers func61,ntmps61
 unfold DY
 go_wp2_with(first
  |(go_at_call 107;refine(Ck 4 false 0 s 0 a 0 c _).mono ?_;rintro e w1 ⟨rfl,i⟩;rw[E.o];have q:=hZ (C.o.kept i);have m:=hZ (A.o.kept i);obtain⟨ai,aj,ab,ad,ae,af,ag,ah⟩:=Ac.cells6 q.o;obtain⟨S,U,R⟩:=Ac.cells1 m.o)
  |(go_at_call 106;refine(Au _ _).mono ?_;rintro e w3 ⟨rfl,rfl⟩)
  |(go_at_call 101;refine(Dq s _ P).mono ?_;rintro e w2 ⟨rfl,j⟩;rw[B.o];have D:=hZ (q.o.kept j);have n:=hZ (m.o.kept j);obtain⟨aq,ar,ak,al,am,an,ao,ap⟩:=Ac.cells6 D.o;obtain⟨H,W,V⟩:=Ac.cells1 n.o)
  |(go_at_call 108;go_loud(have J:=hZ (d.o.kept ((((Chg.refl w []).alloc _).alloc _).trans (i.trans j)));refine(EO F T (.text s) _ b sv l vs _ J.o (by simp only[Af]) G.o O).mono ?_;rintro e Q ⟨rfl,u⟩;have p:=hZ u;clear u;have o:=hZ (n.o.kept p.o.chg (d.o.newNotIn (w.heap.size+1) (by omega)));obtain⟨Y,Z,X⟩:=Ac.cells1 o.o)))
 refine leaves_cons (f:=105) (args:=#[.pointer (some ⟨w.heap.size+1,0,none⟩)]) (by simp) (by simp[go_sem]) ?_;refine(DZ ⟨w.heap.size+1,0,none⟩ _).mono ?_;rintro e u' au ⟨rfl,rfl,rfl⟩;have I:(Q.setCell ⟨w.heap.size+1,0,none⟩ .nilIface).cell? ⟨w.heap.size+1,0,none⟩=some .nilIface:=(o.o.set 0 _).cell 0;simp[Leaves,settle,results,results61,go_sem,I];exact DA ((((Chg.refl w []).alloc _).alloc _).trans (i.trans j)) p.o (fun _ h=>h) (fun _ h _=>h) K (fun g M=>d.o.lst.lt M) _ (by omega) H (fun L=>by have:=d.o.lt _ L;omega) _
def Cg(n:Nat):Nat:=if Fl.A7 n=0 then 0 else n
theorem Mm(F:Nat->Prop)(T:Ti)(b:Nat)(sv:Vl)(l:List Tr)(vs:List Vl)(n:Nat)(S:Vl)(w:Wl)(x:C3 w F T b sv l vs)(Z:∃j k,S= .slice j 0 k)(P:n<18446744073709551616)(a:Fl.Fh n=true)(O:l.length<=2147483648):
  Cl prog 61 #[.pointer (some ⟨b,0,none⟩),DY 3 false n ⟨#[]⟩ 0 S] w (Cx F T b sv (l++[.num (Cg n)]) w):=by
 obtain⟨j,k,rfl⟩:=Z;have am:∀(K:Fn) (first J:Array Vl) (w:Wl),(Instr.makeFunc K first J).run prog w= .ok (.func K first J) w:=fun _ _ _ _=>rfl
 have al:=GW;have Q:Bs 3 false n ⟨#[]⟩ 0 0=true:=by unfold Bs;simp
 have L:decide (9218868437227405312<Fl.A7 n)=false:=by unfold Fl.Fh at a;simp at a;simp;omega
 have M:decide (Fl.A7 n=9218868437227405312)=false:=by unfold Fl.Fh at a;simp at a;simp;omega
 have R:(Ag (.num (Cg n))).within=true:=rfl;have d:=hZ x;have H:=hZ Q;have B:=hZ L;have C:=hZ M;have E:=hZ P;have I:=hZ R;have G:=hZ ((Ac.new w [.int .i64 3,.bool false,.int .u64 n,.string ⟨#[]⟩,.int .i64 0,.slice j 0 k] 72).alloc (.cells #[.nilIface] 35));have D:=hZ (CH w (.cells [.int .i64 3,.bool false,.int .u64 n,.string ⟨#[]⟩,.int .i64 0,.slice j 0 k].toArray 72) [.nilIface] 35);have N:=x.blk.lt;clear x Q R L M P a;by_cases i:Fl.A7 n=0
 .have aa:(FloatKind.f64.format.order n 0==some .eq)=true:=by rw[show FloatKind.f64.format=Ieee.double from rfl,Fl.Mb];simpa using i
  have t:Hid (Cg n=0):=by unfold Hid Cg;rw[Qr i]
  clear i;go_enter_defers func61,ntmps61
  unfold DY
  go_wp2_with(first
   |(go_at_call 107;refine(Ck 3 false n ⟨#[]⟩ 0 j 0 k _).mono ?_;rintro e w1 ⟨rfl,c⟩;rw[H.o];have s:=hZ (G.o.kept c);have m:=hZ (D.o.kept c);obtain⟨ai,aj,ab,ad,ae,af,ag,ah⟩:=Ac.cells6 s.o;obtain⟨u,V,U⟩:=Ac.cells1 m.o)
   |(go_at_call 106;refine(Au _ _).mono ?_;rintro e r ⟨rfl,rfl⟩)
   |(go_at_call 110;refine(FO n _).mono ?_;rintro e r ⟨rfl,rfl⟩;rw[B.o])
   |(go_at_call 111;refine(bJ n E.o _).mono ?_;rintro e r ⟨rfl,rfl⟩;rw[C.o])
   |(go_at_call 108;have y:=hZ (d.o.kept ((((Chg.refl w []).alloc _).alloc _).trans c));refine(EO F T (.num (Cg n)) _ b sv l vs _ y.o (by simp only[Af];rw[t.o]) I.o O).mono ?_;rintro e A ⟨rfl,q⟩;have p:=hZ q;clear q;have o:=hZ (m.o.kept p.o.chg (d.o.newNotIn (w.heap.size+1) (by omega)));obtain⟨X,Y,W⟩:=Ac.cells1 o.o))
  refine leaves_cons (f:=105) (args:=#[.pointer (some ⟨w.heap.size+1,0,none⟩)]) (by simp) (by simp[go_sem]) ?_;refine(DZ ⟨w.heap.size+1,0,none⟩ _).mono ?_;rintro e u' ak ⟨rfl,rfl,rfl⟩;have v:(A.setCell ⟨w.heap.size+1,0,none⟩ .nilIface).cell? ⟨w.heap.size+1,0,none⟩=some .nilIface:=(o.o.set 0 _).cell 0;simp[Leaves,settle,results,results61,go_sem,v];exact DA ((((Chg.refl w []).alloc _).alloc _).trans c) p.o (fun _ h=>h) (fun _ h _=>h) N (fun g z=>d.o.lst.lt z) _ (by omega) u (fun a=>by have:=d.o.lt _ a;omega) _
 .have aa:(FloatKind.f64.format.order n 0==some .eq)=false:=by rw[show FloatKind.f64.format=Ieee.double from rfl,Fl.Mb];simpa using i
  have t:Hid (Cg n=n):=by unfold Hid Cg;rw[Qs i]
  clear i;go_enter_defers func61,ntmps61
  unfold DY
  go_wp2_with(first
   |(go_at_call 107;refine(Ck 3 false n ⟨#[]⟩ 0 j 0 k _).mono ?_;rintro e w1 ⟨rfl,c⟩;rw[H.o];have s:=hZ (G.o.kept c);have m:=hZ (D.o.kept c);obtain⟨ai,aj,ab,ad,ae,af,ag,ah⟩:=Ac.cells6 s.o;obtain⟨u,V,U⟩:=Ac.cells1 m.o)
   |(go_at_call 106;refine(Au _ _).mono ?_;rintro e r ⟨rfl,rfl⟩)
   |(go_at_call 110;refine(FO n _).mono ?_;rintro e r ⟨rfl,rfl⟩;rw[B.o])
   |(go_at_call 111;refine(bJ n E.o _).mono ?_;rintro e r ⟨rfl,rfl⟩;rw[C.o])
   |(go_at_call 108;have y:=hZ (d.o.kept ((((Chg.refl w []).alloc _).alloc _).trans c));refine(EO F T (.num (Cg n)) _ b sv l vs _ y.o (by simp only[Af];rw[t.o]) I.o O).mono ?_;rintro e A ⟨rfl,q⟩;have p:=hZ q;clear q;have o:=hZ (m.o.kept p.o.chg (d.o.newNotIn (w.heap.size+1) (by omega)));obtain⟨X,Y,W⟩:=Ac.cells1 o.o))
  refine leaves_cons (f:=105) (args:=#[.pointer (some ⟨w.heap.size+1,0,none⟩)]) (by simp) (by simp[go_sem]) ?_;refine(DZ ⟨w.heap.size+1,0,none⟩ _).mono ?_;rintro e u' ak ⟨rfl,rfl,rfl⟩;have v:(A.setCell ⟨w.heap.size+1,0,none⟩ .nilIface).cell? ⟨w.heap.size+1,0,none⟩=some .nilIface:=(o.o.set 0 _).cell 0;simp[Leaves,settle,results,results61,go_sem,v];exact DA ((((Chg.refl w []).alloc _).alloc _).trans c) p.o (fun _ h=>h) (fun _ h _=>h) N (fun g z=>d.o.lst.lt z) _ (by omega) u (fun a=>by have:=d.o.lt _ a;omega) _
end
section
open Go Go.RowKit Tree
def Hs(b:Nat):Prop:=b<18446744073709551616/\Fl.Fh b=true/\Cg b=b
end
end Go.Proofs.YtkfnkppdhcaeoaaGreatDoor

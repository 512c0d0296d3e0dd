/- Part 27 of the proof of patchJoined_card. -/
import Derived.Test.YtkfnkppdhcaeoaaGreatDoorM26
set_option maxRecDepth 100000
set_option maxHeartbeats 32000000
set_option linter.unusedSimpArgs false
set_option linter.unusedVariables false
set_option linter.unnecessarySimpa false
namespace Go.Proofs.YtkfnkppdhcaeoaaGreatDoor
open Go renaming Calls->Cl,Value->Vl,World->Wl
section
open _root_.Go.Proofs.Tryz
open Go Go.Shelf Go.RowKit Go.Lib Tree
def DX(w:Wl)(sv:Vl)(l:List Ap):Prop:=∃a c,sv= .slice a l.length c/\∀i s,l[i]? =some s->∃b o sk,a=some ⟨b,o,none⟩/\Ax w (fun k=>k<w.heap.size) sk (Ad s.keys)/\∀j v,(AI s sk)[j]? =some v->w.cell? ⟨b,o+i*6+j,none⟩=some v
theorem DX.kept{w w':Wl}{sv:Vl}{l:List Ap}(h:DX w sv l)(d:Chg w w' []):DX w' sv l:=by
 obtain⟨a,c,e,h⟩:=h;refine⟨a,c,e,fun i s p=> ?_⟩;obtain⟨b,o,sk,f,g,m⟩:=h i s p;exact⟨b,o,sk,f,g.kept (d.keepsF (fun _ h=>h)) (fun k n=>Q6 n d.size),fun j v q=>d.keeps (m j v q)⟩
theorem SL{w:Wl}{sv:Vl}{l:List Ap}{xs:List Vl}(d:As w sv 6 l.length xs)(j:Az w l xs):DX w sv l:=by
 obtain⟨a,c,rfl,_⟩:=d.form;refine⟨a,c,rfl,fun i s f=> ?_⟩;have e:0<l.length:=Nat.lt_of_le_of_lt (Nat.zero_le _) (Qc.1 f).1;obtain⟨b,o,rfl,_⟩:=d.base e (by decide);obtain⟨sk,g,h⟩:=Az.item d e j f;exact⟨b,o,sk,rfl,g.rowLt,h⟩
theorem PW{w:Wl}{g a n:Nat}{F:Nat->Prop}{l:List Aw}{xs:List Vl}(h:Ba w (.slice (some ⟨g,0,none⟩) n a) 72 6 n xs)(k:AR w F l xs)(f:∀b,F b->b<w.heap.size)(m:n=l.length):DX w (.slice (some ⟨g,0,none⟩) n a) (l.map Aw.toI):=by
 refine⟨_,a,by rw[List.length_map,m],fun i s c=> ?_⟩;rw[List.getElem?_map]at c;obtain⟨p,o,rfl⟩:=Option.map_eq_some_iff.1 c;obtain⟨sk,d,e⟩:=k.get i p o;refine⟨g,0,sk,rfl,d.kept (fun _ _ _=>rfl) f,fun j v q=> ?_⟩;have:=h.cell rfl (6*i+j) v (e j v q);rwa[show 6*i+j=0+i*6+j from by omega]at this
theorem Rf(l:List Ap)(M N:Vl)(w:Wl)(W:DX w M l)(X:DX w N l)(Y:l.length<=4294967296)(f:∀s∈l,s.keys.length<=4294967296):
  Cl prog 37 #[M,N,.func (.func 39) #[] #[]] w (BU true w):=by
 obtain⟨a1,c1,rfl,D⟩:=W;obtain⟨a2,U,rfl,E⟩:=X;have R:=hZ D;have S:=hZ E;have P:=hZ f;obtain⟨n,t⟩:∃n,n=l.length:=⟨_,rfl⟩
 have ab:((n:Int) !=(n:Int))=false:=by simp
 have Q:=hZ t;rw[<-t]at Y|-;clear D E f t;go_enter func37,ntmps37
 go_wp2_with fail
 go_loopw [17] (fun z wr=>∃i:Nat,i<=n/\z= .int .i64 i/\Chg w wr []) (fun z _=>n-(intOf z).toNat)
 case atStart=>exact⟨0,by omega,rfl,Chg.refl _ _⟩
 case round=>
  obtain⟨i,hi,rfl,G⟩:=hrel;have a:=hZ G;clear G;by_cases aa:i<n
  .obtain⟨s,m⟩:∃s,l[i]? =some s:=⟨_,Q9 (by have:=Q.o;omega)⟩
   obtain⟨b,o,sk,rfl,p,u⟩:=R.o i s m;obtain⟨B,Z,ad,rfl,r,x⟩:=S.o i s m;obtain⟨I,K,rfl,_⟩:=p.cell;obtain⟨J,L,rfl,_⟩:=r.cell;rw[Ao]at p r u x;have c:∀j v,(AI s (.slice I s.keys.length K))[j]? =some v->wr.cell? ⟨b,o+i*6+j,none⟩=some v:=fun j v y=>a.o.keeps (u j v y)
   have d:∀j v,(AI s (.slice J s.keys.length L))[j]? =some v->wr.cell? ⟨B,Z+i*6+j,none⟩=some v:=fun j v y=>a.o.keeps (x j v y)
   have T:=c 0 _ rfl;have c1:=c 1 _ rfl;have U:=c 2 _ rfl;have c3:=c 3 _ rfl;have c4:=c 4 _ rfl;have c5:=c 5 _ rfl;have C:=d 0 _ rfl;have d1:=d 1 _ rfl;have d2:=d 2 _ rfl;have d3:=d 3 _ rfl;have d4:=d 4 _ rfl;have V:=d 5 _ rfl;rw[Nat.add_zero]at T C;have lb:B<wr.heap.size:=World.block_lt_of_cell? wr _ C
   have A:Hid (∀g,Chg wr g []->Cl prog 39 #[.agg #[.int .i64 s.sort,.bool s.flag,.int .u64 s.bits,.string s.text,.int .i64 s.count,.slice I s.keys.length K],.agg #[.int .i64 s.sort,.bool s.flag,.int .u64 s.bits,.string s.text,.int .i64 s.count,.slice J s.keys.length L]] g fun e w'=>e= .returned (.bool true)/\Chg g w' []):=hZ fun g h=>
    WM s _ _ g _ _ (p.kept ((a.o.trans h).keepsF (fun _ h=>h)) (fun _ h=>h)) (r.kept ((a.o.trans h).keepsF (fun _ h=>h)) (fun _ h=>h)) (fun k f=>Q6 f (a.o.trans h).size) (fun k f=>Q6 f (a.o.trans h).size) (P.o s (Qi m))
   obtain⟨sl,H⟩:∃q,q=s.keys.length:=⟨_,rfl⟩
   rw[<-H]at A c5 V;clear m p r u x c d H;go_wp2_with((go_at_call 39;refine(A.o _ (by exact cg cR)).mono ?_;rintro e w3 ⟨rfl,F⟩;have O:Hid (Chg wr w3 []):=hZ (ct cR F);clear F))
   go_roundw
   case rel=>exact⟨i+1,by omega,by go_num,Chg.trans (b:=_) a.o O.o⟩
   case measure=>simp[intOf];omega
  .go_wp2_with fail
   go_ret
   exact⟨rfl,a.o⟩
end
section
open _root_.Go.Proofs.Tryz
open Go Go.Shelf Go.RowKit Go.Lib Tree Ptr
def Je(s:BY)(n:Nat):Vl:=match bL s n with
 |some k=> .tuple #[.int .i64 k,.bool true]
 |none=> .tuple #[.int .i64 0,.bool false]
theorem SO{l:List UInt8}{i:Int}(h:Lib.atoiAll l= .ok i): -9223372036854775808<=i/\i<=9223372036854775807:=by
 unfold Lib.atoiAll at h;split at h
 .cases h
 .simp only at h
  split at h
  .cases h
  .cases h
  .split at h
   .cases h
   .split at h
    .cases h
    .injection h with h
     subst h;split<;>omega
theorem Gl(s:BY)(n:Nat)(w:Wl)(o:Br w)(E:s.size<=281474976710656)(r:n<=9223372036854775807):
  Cl prog 149 #[.string s,.int .i64 n] w fun e w'=>e= .returned (Je s n)/\Chg w w' []:=by
 by_cases u:∃i,Lib.atoiAll s.data.toList= .ok i
 .obtain⟨i,hi⟩:=u
  have l:Hid (Cl prog 181 #[.string s] w fun e w'=>e= .returned (.tuple #[.int .i64 i,.nilIface])/\Chg w w' []):=hZ ((Rh s E w o).mono fun e w' ⟨⟨j,v,B,b⟩,a⟩=>by
   rcases b with⟨rfl,b⟩|⟨_,b⟩
   .rw[hi]at b;injection b with b;subst b;exact⟨B,a⟩
   .exact absurd hi (b i))
  have D:=SO hi;have C:Hid (∀p,Chg w p []->Cl prog 70 #[.int .i64 i] p fun e w'=>e= .returned (.string ⟨(Lib.itoa i).toArray⟩)/\Chg p w' []):=hZ fun p I=>Ri i D.1 D.2 p (o.kept I)
  have q:=hZ hi;clear hi o;by_cases K:i<0
  .have d:bL s n=none:=FN r fun j h g=>by have:=q.o.symm.trans h;injection this with e;subst e;omega
   have f:=hZ d;clear d;go_enter func149,ntmps149
   go_wp2_with(first
      |(go_at_call 181;refine l.o.mono ?_;rintro e y ⟨rfl,a⟩;have c:=hZ a;clear a))
   refine bodyPost_ret (results_tmp2 rfl _ _ _) rfl ⟨by unfold Je;rw[f.o];rfl,by exact cg c.o⟩
  .by_cases L:(n:Int)<=i
   .have d:bL s n=none:=FN r fun j h g k=>by have:=q.o.symm.trans h;injection this with e;subst e;omega
    have f:=hZ d;clear d;go_enter func149,ntmps149
    go_wp2_with(first
      |(go_at_call 181;refine l.o.mono ?_;rintro e y ⟨rfl,a⟩;have c:=hZ a;clear a))
    refine bodyPost_ret (results_tmp2 rfl _ _ _) rfl ⟨by unfold Je;rw[f.o];rfl,by exact cg c.o⟩
   .by_cases A:(⟨(Lib.itoa i).toArray⟩:BY)=s
    .have F:bL s n=some i.toNat:=WD q.o (by omega) (by omega) (by rw[<-A])
     have G:=hZ F;clear F;go_enter func149,ntmps149
     go_wp2_with(first
      |(go_at_call 181;refine l.o.mono ?_;rintro e y ⟨rfl,a⟩;have c:=hZ a;clear a)
      |(go_at_call 70;refine(C.o _ (by exact cg c.o)).mono ?_;rintro e w2 ⟨rfl,m⟩;have z:Hid (Chg w w2 []):=hZ (ct c.o m);clear m))
     refine bodyPost_ret (results_tmp2 rfl _ _ _) rfl ⟨by unfold Je;rw[G.o];simp;omega,by exact cg z.o⟩
    .have d:bL s n=none:=FN r fun j h g k e=>by have:=q.o.symm.trans h;injection this with H;subst H;exact A (DK (by simpa using e))
     have J:(Lib.itoa i==s.toList)=false:=by rw[Qq,Lib.toList_data];intro e;exact A (DK (by simpa using e))
     have f:=hZ d;clear d;go_enter func149,ntmps149
     go_wp2_with(first
      |(go_at_call 181;refine l.o.mono ?_;rintro e y ⟨rfl,a⟩;have c:=hZ a;clear a)
      |(go_at_call 70;refine(C.o _ (by exact cg c.o)).mono ?_;rintro e w2 ⟨rfl,m⟩;have z:Hid (Chg w w2 []):=hZ (ct c.o m);clear m))
     refine bodyPost_ret (results_tmp2 rfl _ _ _) rfl ⟨by unfold Je;rw[f.o];rfl,by exact cg z.o⟩
 .have d:bL s n=none:=FN r fun j h=>absurd ⟨j,h⟩ u
  have f:=hZ d
  have l:Hid (Cl prog 181 #[.string s] w fun e w'=>(∃i t x,e= .returned (.tuple #[.int .i64 i,.iface t x]))/\Chg w w' []):=hZ ((Rh s E w o).mono fun e w' ⟨⟨j,v,B,b⟩,a⟩=>by
   rcases b with⟨_,b⟩|⟨⟨t,x,rfl⟩,_⟩
   .exact absurd ⟨_,b⟩ u
   .exact⟨⟨j,t,x,B⟩,a⟩)
  clear d u o;go_enter func149,ntmps149
  go_wp2_with(first
      |(go_at_call 181;refine l.o.mono ?_;rintro e y ⟨⟨i,t,x,rfl⟩,a⟩;have c:=hZ a;clear a))
  refine bodyPost_ret (results_tmp2 rfl _ _ _) rfl ⟨by unfold Je;rw[f.o];rfl,by exact cg c.o⟩
def Cz(w:Wl)(t:Tr)(v:Vl)(bs:List Nat)(ts:List BY)(e:Ending)(w':Wl):Prop:=
 Chg w w' []/\match Ah t ts with
  |some u=>∃a b rest,e= .returned (.tuple #[a,.bool true])/\Ir w t v bs ts u a b rest
  |none=>e= .returned (.tuple #[.nilIface,.bool false])
theorem Cz.none{w:Wl}{t:Tr}{v:Vl}{bs:List Nat}{ts:List BY}{e:Ending}{w':Wl}(h:Ah t ts=Option.none)(a:Chg w w' [])(b:e= .returned (.tuple #[.nilIface,.bool false])):Cz w t v bs ts e w':=by
 unfold Cz;rw[h];exact⟨a,b⟩
theorem Cz.some{w:Wl}{t u:Tr}{v a:Vl}{bs b rest:List Nat}{ts:List BY}{e:Ending}{w':Wl}(c:Ir w t v bs ts u a b rest)(d:Chg w w' [])(f:e= .returned (.tuple #[a,.bool true])):Cz w t v bs ts e w':=by
 unfold Cz;rw[c.lead];exact⟨d,a,b,rest,f,c⟩
theorem Iw{t u:Tr}:∀{ts:List BY} {k:Nat} {s:BY},Ah t (ts.take k)=Option.some u->ts[k]? =Option.some s->Dy u s=Option.none->Ah t ts=Option.none
 |[],k,s,_,b,_=>by simp at b
 |a::r,0,s,h,b,c=>by
  simp only[List.take_zero,Ah]at h
  injection h with h
  subst h;simp at b;subst b;simp[Ah,c]
 |a::r,k+1,s,h,b,c=>by
  simp only[List.take_succ_cons,Ah]at h|-
  cases d:Dy t a with
  |none=>rfl
  |some y=>
   rw[d]at h;simp only[Option.bind_some]at h|-;exact Iw h (by simpa using b) c
theorem Md{u:Tr}(h:AX u=true)(s:BY):Dy u s=Option.none:=by
 cases u<;>first|rfl|simp[AX]at h
theorem LJ(W:Nat)(t:Tr)(v n m uv:Vl)(bs:List Nat)(F:Nat->Prop)(sl:Vl)(ts:List BY)(w:Wl)(hL:Br w)(hB:Ac w W [v,n,m,uv] 98)(hP:AP w t v bs)(hf:Bt t)(hr:Ax w F sl (Ad ts))(ai:DR ts)(ak:∀s∈ts,s.size<=16777216)(hn:ts.length<=4294967296):
  Cl prog 201 #[.pointer (some ⟨W,0,none⟩),sl] w (Cz w t v bs ts):=by
 obtain⟨a,c,rfl,ad⟩:=hr.cell;rw[Ao];obtain⟨tv,xv,rfl⟩:=hP.iface;have av:w.cell? ⟨W,0,none⟩=Option.some (.iface tv xv):=hB.cell 0;have HC:=hZ ad;have HL:=hZ hL;have am:=hZ ai;have an:=hZ ak;have HF:=hZ hf;have HP:=hZ hP;clear hr hL ad ai ak hB hP hf;go_enter func201,ntmps201
 go_wp2_with fail
 go_loopw [6,22] (fun v6 ab wr=>∃(k:Nat) (u:Tr) (bu rest:List Nat),k<=ts.length/\ab= .int .i64 k/\Ir w t (.iface tv xv) bs (ts.take k) u v6 bu rest/\Chg w wr []) (fun _ ab _=>ts.length-(intOf ab).toNat)
 case atStart=>exact⟨0,t,bs,[],by omega,rfl,Ir.here HP.o,Chg.refl _ _⟩
 case round=>
  obtain⟨k,u,bu,rest,hk,rfl,z,P⟩:=hrel;by_cases ap:k<ts.length
  .obtain⟨s,U⟩:∃s,ts[k]? =Option.some s:=⟨_,Q9 ap⟩
   obtain⟨gb,go,rfl,_,ae⟩:=HC.o k (.string s) (by simp[Ad,U]);have aq:=P.keeps ae;have aj:=Qi U;have au:=an.o s aj;have j:=hZ P;have B:=hZ z;have K:=hZ U;have D:Bt u:=HF.o.lead z.lead;have y:=z.at_;clear P U ae z;by_cases p:AX u=true
   .obtain⟨rfl,_⟩:=y.leaf (fun l e=>by subst e;simp[AX]at p) (fun ks l e=>by subst e;simp[AX]at p)
    have a0:∀(w:Wl),(Instr.typeAssert (.iface 183 (.agg #[AG u])) 95 175 true).run prog w= .ok (.tuple #[.pointer none,.bool false]) w:=fun _=>by kernel_rfl
    have a1:∀(w:Wl),(Instr.typeAssert (.iface 183 (.agg #[AG u])) 95 104 true).run prog w= .ok (.tuple #[.pointer none,.bool false]) w:=fun _=>by kernel_rfl
    have J:=hZ (Iw B.o.lead K.o (Md p s));clear y D p;go_wp2_with fail
    refine bodyPost_ret (results_tmp2 rfl _ _ _) rfl (Cz.none J.o ?_ rfl);exact cg j.o
   .cases u with
    |list l=>
     obtain⟨b,sv,vs,fs,rfl,h,_⟩:=y.list;have ah:l.length<=65536:=by have:=D.many;simp only[Ab]at this;omega
     have I:=h.at_.length;unfold Jn;have a0:∀(w:Wl),(Instr.typeAssert (.iface 104 (.pointer (Option.some ⟨b,0,Option.none⟩))) 95 175 true).run prog w= .ok (.tuple #[.pointer Option.none,.bool false]) w:=fun _=>by kernel_rfl
     have a1:∀(w:Wl),(Instr.typeAssert (.iface 104 (.pointer (Option.some ⟨b,0,Option.none⟩))) 95 104 true).run prog w= .ok (.tuple #[.pointer (Option.some ⟨b,0,Option.none⟩),.bool true]) w:=fun _=>by kernel_rfl
     obtain⟨L,M,rfl,_⟩:=h.lst.form;have c1:wr.cell? ⟨b,0,none⟩=Option.some (.slice L vs.length M):=j.o.keeps (h.blk.cell 0)
     have H:Hid (∀f,Chg wr f []->Cl prog 149 #[.string s,.int .i64 vs.length] f fun e w'=>e= .returned (Je s l.length)/\Chg f w' []):=hZ fun f q=>by
      rw[I];exact Gl s l.length f (HL.o.kept (j.o.trans q)) (by omega) (by omega)
     cases hi:bL s l.length with
     |none=>
      have R:Dy (.list l) s=Option.none:=by simp[Dy,D6,hi]
      have J:=hZ (Iw B.o.lead K.o R);unfold Je at H;rw[hi]at H;clear y D p h ah I hi R
      go_wp2_with(first
       |(go_at_call 149;refine(H.o _ (by exact cg cR)).mono ?_;rintro e G ⟨rfl,o⟩;have r:Hid (Chg wr G []):=hZ (ct cR o);clear o))
      refine bodyPost_ret (results_tmp2 rfl _ _ _) rfl (Cz.none J.o ?_ rfl);exact cg (j.o.trans r.o)
     |some i=>
      have af:=Jf hi;obtain⟨x,q⟩:∃x,(Ab (.list l))[i]? =Option.some x:=⟨_,Q9 af⟩
      obtain⟨b',g,n',Y,vx,X,aa,ti,d,N,O,E⟩:=Fx y (by show D6 (.list l) s=_;simp only[D6];exact hi) q;unfold Jn at d
      injection d with et d
      subst et
      injection d with d
      injection d with d
      injection d with d
      subst d
      have C:(Vl.slice L vs.length M)= .slice (Option.some ⟨g,0,none⟩) n' Y:=by
       have:=h.blk.cell 0;rw[N]at this;simp only[Qa]at this
       injection this with this
       exact this.symm
      injection C with C e5 e6
      subst C;have Z:=j.o.keeps O;obtain⟨tx,xx,rfl⟩:=E.at_.iface;have V:=hZ (B.o.snoc E);unfold Je at H;rw[hi]at H;have ao:i<vs.length:=by omega
      clear y D p h ah I hi af q E N O e5 e6
      go_wp2_with(first
       |(go_at_call 149;refine(H.o _ (by exact cg cR)).mono ?_;rintro e G ⟨rfl,o⟩;have r:Hid (Chg wr G []):=hZ (ct cR o);have d1:=r.o.keeps c1;have d2:=r.o.keeps Z;clear o))
      go_roundw
      case rel=>
       refine⟨k+1,x,X,aa++rest,by omega,by go_num, ?_, ?_⟩
       .rw[Cb K.o];exact V.o
       .exact cg (j.o.trans r.o)
      case measure=>simp[intOf];omega
    |obj ks l=>
     obtain⟨b,sv,sk,vs,fs,rfl,h,_⟩:=y.obj;have Q:=D.good;simp only[Av]at Q;have I:=h.at_.length;unfold IR;have a0:∀(w:Wl),(Instr.typeAssert (.iface 175 (.pointer (Option.some ⟨b,0,Option.none⟩))) 95 175 true).run prog w= .ok (.tuple #[.pointer (Option.some ⟨b,0,Option.none⟩),.bool true]) w:=fun _=>by kernel_rfl
     obtain⟨L,M,rfl,_⟩:=h.lst.form;have c1:wr.cell? ⟨b,0,none⟩=Option.some (.slice L vs.length M):=j.o.keeps (h.blk.cell 0)
     have S:Hid (∀f,Chg wr f []->Cl prog 197 #[.pointer (Option.some ⟨b,0,none⟩),.string s] f fun e w'=>∃i:Nat,e= .returned (.tuple #[.int .i64 i,.bool (C4 ks s)])/\Chg f w' []/\Hr ks s i/\i<=ks.length):=hZ fun f q=>
      Pl ks s b _ sk f (h.blk.kept (j.o.trans q)) (h.keys.kept (j.o.trans q)) Q.1 (am.o.right s aj) (by omega)
     cases A:C4 ks s with
     |false=>
      have R:Dy (.obj ks l) s=Option.none:=by simp[Dy,D6,A]
      have J:=hZ (Iw B.o.lead K.o R);rw[A]at S;clear y D p h Q I A R
      go_wp2_with(first
       |(go_at_call 197;refine(S.o _ (by exact cg cR)).mono ?_;rintro e G ⟨i,rfl,o,_,_⟩;have r:Hid (Chg wr G []):=hZ (ct cR o);clear o))
      refine bodyPost_ret (results_tmp2 rfl _ _ _) rfl (Cz.none J.o ?_ rfl);exact cg (j.o.trans r.o)
     |true=>
      obtain⟨pi,T⟩:∃pi,pi=A5 ks s:=⟨_,rfl⟩
      have ar:pi<ks.length:=by rw[T];exact Dk (Cp.1 A)
      obtain⟨x,q⟩:∃x,(Ab (.obj ks l))[pi]? =Option.some x:=⟨_,Q9 (by simp only[Ab];omega)⟩
      obtain⟨b',g,n',Y,vx,X,aa,ti,d,N,O,E⟩:=Fx y (by show D6 (.obj ks l) s=_;simp only[D6];rw[Qr A,<-T]) q;unfold IR at d
      injection d with et d
      subst et
      injection d with d
      injection d with d
      injection d with d
      subst d
      have C:(Vl.slice L vs.length M)= .slice (Option.some ⟨g,0,none⟩) n' Y:=by
       have:=h.blk.cell 0;rw[N]at this;simp only[Qa]at this
       injection this with this
       exact this.symm
      injection C with C e5 e6
      subst C;have Z:=j.o.keeps O;obtain⟨tx,xx,rfl⟩:=E.at_.iface;have V:=hZ (B.o.snoc E)
      have al:Hid (∀f,Chg wr f []->Cl prog 197 #[.pointer (Option.some ⟨b,0,none⟩),.string s] f fun e w'=>e= .returned (.tuple #[.int .i64 pi,.bool true])/\Chg f w' []):=hZ fun f q=>
       (S.o f q).mono fun e w' ⟨i,o,h2,h3,_⟩=>⟨by rw[o,A,(h3.yes A).1,T],h2⟩
      have ao:pi<vs.length:=by have:=Q.2.1;omega
      clear y D p h Q I A q E N O e5 e6 S T
      go_wp2_with(first
       |(go_at_call 197;refine(al.o _ (by exact cg cR)).mono ?_;rintro e G ⟨rfl,o⟩;have r:Hid (Chg wr G []):=hZ (ct cR o);have d1:=r.o.keeps c1;have d2:=r.o.keeps Z;clear o))
      go_roundw
      case rel=>
       refine⟨k+1,x,X,aa++rest,by omega,by go_num, ?_, ?_⟩
       .rw[Cb K.o];exact V.o
       .exact cg (j.o.trans r.o)
      case measure=>simp[intOf];omega
    |null=>simp[AX]at p
    |flag _=>simp[AX]at p
    |num _=>simp[AX]at p
    |text _=>simp[AX]at p
  .have ag:ts.take k=ts:=Qn (by omega)
   rw[ag]at z;have B:=hZ z;have j:=hZ P;obtain⟨tu,xu,rfl⟩:=z.at_.iface;clear z P ag;go_wp2_with fail
   refine bodyPost_ret (results_tmp2 rfl _ _ _) rfl (Cz.some B.o ?_ rfl);exact cg j.o
def F8(w:Wl)(t:Tr)(v:Vl)(bs:List Nat)(ts:List BY)(e:Ending)(w':Wl):Prop:=
 Chg w w' []/\match Ah t ts with
  |some u=>∃a b rest,e= .returned a/\Ir w t v bs ts u a b rest
  |none=>e=By 4
theorem Jx{w:Wl}{t u:Tr}{v:Vl}{bs:List Nat}{ts:List BY}(h:Ah t ts=some u):F8 w t v bs ts=fun e w'=>Chg w w' []/\∃a b rest,e= .returned a/\Ir w t v bs ts u a b rest:=by
 funext e w';unfold F8;rw[h]
theorem Jw{w:Wl}{t:Tr}{v:Vl}{bs:List Nat}{ts:List BY}(h:Ah t ts=none):F8 w t v bs ts=fun e w'=>Chg w w' []/\e=By 4:=by
 funext e w';unfold F8;rw[h]
theorem Iv{w:Wl}{t u:Tr}{v:Vl}{bs:List Nat}{ts:List BY}(h:Ah t ts=some u):Cz w t v bs ts=fun e w'=>Chg w w' []/\∃a b rest,e= .returned (.tuple #[a,.bool true])/\Ir w t v bs ts u a b rest:=by
 funext e w';unfold Cz;rw[h]
theorem U4{w:Wl}{t:Tr}{v:Vl}{bs:List Nat}{ts:List BY}(h:Ah t ts=none):Cz w t v bs ts=fun e w'=>Chg w w' []/\e= .returned (.tuple #[.nilIface,.bool false]):=by
 funext e w';unfold Cz;rw[h]
theorem LI(W:Nat)(t:Tr)(v n m z:Vl)(bs:List Nat)(F:Nat->Prop)(y:Vl)(ts:List BY)(w:Wl)(o:Br w)(l:Ac w W [v,n,m,z] 98)(p:AP w t v bs)(r:Bt t)(k:Ax w F y (Ad ts))(j:DR ts)(x:∀s∈ts,s.size<=16777216):
  Cl prog 170 #[.pointer (some ⟨W,0,none⟩),y] w (F8 w t v bs ts):=by
 obtain⟨a,c,rfl,_⟩:=k.cell;have f:=hZ (LJ W t v n m z bs F _ ts w o l p r k j x (Q7 j.many (by omega)));clear o l p r k j x
 cases h:Ah t ts with
 |none=>
  rw[U4 h]at f;rw[Jw h];clear h;go_enter func170,ntmps170
  go_wp2_with(first
   |(go_at_call 201;refine f.o.mono ?_;rintro e B ⟨d,rfl⟩;have g:=hZ d;clear d)
   |(go_at_call 53;refine(Bu _ _).mono ?_;rintro e w2 ⟨q,b⟩;unfold By at q;subst q;have i:=hZ b;clear b))
  exact⟨rfl,g.o.trans i.o,rfl⟩
 |some u=>
  rw[Iv h]at f;rw[Jx h];clear h;go_enter func170,ntmps170
  go_wp2_with(first
   |(go_at_call 201;refine f.o.mono ?_;rintro e B ⟨d,D,A,rest,rfl,b⟩;obtain⟨C,E,rfl⟩:=b.at_.iface;have g:=hZ d;have i:=hZ b;clear d b)
   |(go_at_call 53;refine(Bv _ _).mono ?_;rintro e w2 ⟨rfl,rfl⟩))
  go_ret
  exact⟨g.o,_,A,rest,rfl,i.o⟩
def Hi(n b d:Nat):Bool:=decide (n<=65536)&&decide (b<=2097152)&&decide (d<=512)
def Dh(W:Nat)(v a:Vl)(n b d:Nat)(w:Wl)(e:Ending)(w':Wl):Prop:=
 if Hi n b d=true then e= .returned (.tuple #[])/\Ac w' W [v,.int .i64 n,.int .i64 b,a] 98/\Chg w w' [W]else e=By 3/\Chg w w' []
theorem En{W:Nat}{v a:Vl}{n b d:Nat}(h:Hi n b d=true):Dh W v a n b d=fun w e w'=>e= .returned (.tuple #[])/\Ac w' W [v,.int .i64 n,.int .i64 b,a] 98/\Chg w w' [W]:=by
 funext w e w';unfold Dh;rw[Qr h]
theorem DO{W:Nat}{v a:Vl}{n b d:Nat}(h:Hi n b d=false):Dh W v a n b d=fun w e w'=>e=By 3/\Chg w w' []:=by
 funext w e w';unfold Dh;rw[Qs (by simp[h])]
theorem KB{n b d:Nat}:Hi n b d=true↔n<=65536/\b<=2097152/\d<=512:=by unfold Hi;simp[and_assoc]
theorem E9{n b d:Nat}(h:¬(n<=65536/\b<=2097152/\d<=512)):Hi n b d=false:=by
 cases a:Hi n b d with
 |false=>rfl
 |true=>exact absurd (KB.1 a) h
def KT(w:Wl)(a:Vl)(m c:Nat):Prop:=(a= .nilIface/\m=0/\c=0)\/∃u b,AP w u a b/\Av u/\(Ag u).within=true/\m=(Ag u).nodes/\c=(Ag u).bytes
theorem Jl(W:Nat)(v uv:Vl)(N B:Nat)(x:Tr)(vx wv:Vl)(bx:List Nat)(m c n' Y C:Nat)(ta:Option Addr)(r tc:Nat)(w:Wl)(hB:Ac w W [v,.int .i64 N,.int .i64 B,uv] 98)(hx:AP w x vx bx)(hg:Av x)(hw:(Ag x).within=true)(ag:KT w wv m c)(hN:N<=65536)(ah:B<=2097152)(hk:C<=16777216)(ai:r<=65536)(G:n'+m=N+(Ag x).nodes)(F:Y+c=B+(Ag x).bytes+C):
  Cl prog 195 #[.pointer (some ⟨W,0,none⟩),.slice ta r tc,vx,wv,.int .i64 C] w (Dh W v uv n' Y (r+(Ag x).depth) w):=by
 obtain⟨tx,xx,rfl⟩:=hx.iface;have af:=Ar hw;obtain⟨x1,x2,x3⟩:=af;obtain⟨f,args,hm,Z⟩:=MD _ x _ bx w (Q8 _) hg hw hx;have K:=hZ hm;have H:=hZ Z;have X:=hZ hB;have n:=hB.lt;have L:∀j,w.frozen? ⟨W,j,none⟩=false:=fun j=>hB.frozen j
 obtain⟨sz,ab⟩:∃sz,sz=Ag x:=⟨_,rfl⟩
 rw[<-ab]at H G F x1 x2 x3|-;clear hm Z hB hg hw
 rcases ag with⟨rfl,rfl,rfl⟩|⟨u,bu,hu,ae,ad,rfl,rfl⟩
 .clear hx ab
  have t:(n':Int)=((N:Int)+(sz.nodes:Int)):=by omega
  have y:(Y:Int)=((B:Int)+((sz.bytes:Int)+(C:Int))):=by omega
  have I:((r+sz.depth:Nat):Int)=((r:Int)+(sz.depth:Int)):=by omega
  have G1:=hZ t;have G2:=hZ y;have c1:w.cell? ⟨W,1,none⟩=some (.int .i64 N):=X.o.cell 1;have d:w.cell? ⟨W,2,none⟩=some (.int .i64 B):=X.o.cell 2;by_cases q:n'<=65536
  .have j1:((N:Int)+(sz.nodes:Int))<=65536:=by omega
   by_cases A:Y<=2097152
   .have j2:((B:Int)+((sz.bytes:Int)+(C:Int)))<=2097152:=by omega
    by_cases J:r+sz.depth<=512
    .have j3:((r:Int)+(sz.depth:Int))<=512:=by omega
     rw[En (KB.2 ⟨q,A,J⟩)];clear t y I G F q A J;go_enter func195,ntmps195
     go_wp2_with(first
    |(refine Am rfl _ _ _ rfl _ rfl f args K.o _ H.o ?_;rintro e o ⟨rfl,g⟩;refine⟨_,rfl, ?_⟩;have a:=hZ g;unfold Jv;have R:=a.o.keeps c1;have S:=a.o.keeps d;have V:=Q6 n a.o.size;have U:∀j,o.frozen? ⟨W,j,none⟩=false:=fun j=>(a.o.frozen (p:=⟨W,j,none⟩) n (by simp)).trans (L j);clear g)
    |(go_at_call 53;refine(Bv _ _).mono ?_;rintro e w4 ⟨rfl,rfl⟩))
     go_end0
     refine⟨rfl, ?_, ?_⟩
     .refine(((X.o.kept a.o).set 1 (.int .i64 ((N:Int)+(sz.nodes:Int)))).set 2 (.int .i64 ((B:Int)+((sz.bytes:Int)+(C:Int))))).eq ?_
      simp only[List.set_cons_succ,List.set_cons_zero];rw[<-G1.o,<-G2.o]
     .have Z:Chg w o [W]:=a.o.none _
      (repeat(first|exact Z|with_reducible refine c1 ?_ _|with_reducible refine d ?_|with_reducible refine c3 ?_ _|with_reducible refine c4 ?_ _ _ (by simp)|with_reducible refine c4 ?_ _ _ (by simp;omega)))
    .have j3:¬(((r:Int)+(sz.depth:Int))<=512):=by omega
     rw[DO (E9 (fun h=>J h.2.2))];clear t y I G F q A J;go_enter func195,ntmps195
     go_wp2_with(first
    |(refine Am rfl _ _ _ rfl _ rfl f args K.o _ H.o ?_;rintro e o ⟨rfl,g⟩;refine⟨_,rfl, ?_⟩;have a:=hZ g;unfold Jv;have R:=a.o.keeps c1;have S:=a.o.keeps d;have V:=Q6 n a.o.size;have U:∀j,o.frozen? ⟨W,j,none⟩=false:=fun j=>(a.o.frozen (p:=⟨W,j,none⟩) n (by simp)).trans (L j);clear g)
    |(go_at_call 53;refine(Bu _ _).mono ?_;rintro e E ⟨l,k⟩;unfold By at l;subst l;have s:Hid (Chg w E []):=hZ (Chg.trans (b:=_) (by(repeat(first|exact a.o|with_reducible refine c1 ?_ _|with_reducible refine d ?_|with_reducible refine c3 ?_ _|with_reducible refine c4 ?_ _ _ (by simp)|with_reducible refine c4 ?_ _ _ (by simp;omega)))) k);clear k))
     exact⟨rfl,rfl,s.o⟩
   .have j2:¬(((B:Int)+((sz.bytes:Int)+(C:Int)))<=2097152):=by omega
    rw[DO (E9 (fun h=>A h.2.1))];clear t y I G F q A;go_enter func195,ntmps195
    go_wp2_with(first
    |(refine Am rfl _ _ _ rfl _ rfl f args K.o _ H.o ?_;rintro e o ⟨rfl,g⟩;refine⟨_,rfl, ?_⟩;have a:=hZ g;unfold Jv;have R:=a.o.keeps c1;have S:=a.o.keeps d;have V:=Q6 n a.o.size;have U:∀j,o.frozen? ⟨W,j,none⟩=false:=fun j=>(a.o.frozen (p:=⟨W,j,none⟩) n (by simp)).trans (L j);clear g)
    |(go_at_call 53;refine(Bu _ _).mono ?_;rintro e E ⟨l,k⟩;unfold By at l;subst l;have s:Hid (Chg w E []):=hZ (Chg.trans (b:=_) (by(repeat(first|exact a.o|with_reducible refine c1 ?_ _|with_reducible refine d ?_|with_reducible refine c3 ?_ _|with_reducible refine c4 ?_ _ _ (by simp)|with_reducible refine c4 ?_ _ _ (by simp;omega)))) k);clear k))
    exact⟨rfl,rfl,s.o⟩
  .have j1:¬(((N:Int)+(sz.nodes:Int))<=65536):=by omega
   rw[DO (E9 (fun h=>q h.1))];clear t y I G F q;go_enter func195,ntmps195
   go_wp2_with(first
    |(refine Am rfl _ _ _ rfl _ rfl f args K.o _ H.o ?_;rintro e o ⟨rfl,g⟩;refine⟨_,rfl, ?_⟩;have a:=hZ g;unfold Jv;have R:=a.o.keeps c1;have S:=a.o.keeps d;have V:=Q6 n a.o.size;have U:∀j,o.frozen? ⟨W,j,none⟩=false:=fun j=>(a.o.frozen (p:=⟨W,j,none⟩) n (by simp)).trans (L j);clear g)
    |(go_at_call 53;refine(Bu _ _).mono ?_;rintro e E ⟨l,k⟩;unfold By at l;subst l;have s:Hid (Chg w E []):=hZ (Chg.trans (b:=_) (by(repeat(first|exact a.o|with_reducible refine c1 ?_ _|with_reducible refine d ?_|with_reducible refine c3 ?_ _|with_reducible refine c4 ?_ _ _ (by simp)|with_reducible refine c4 ?_ _ _ (by simp;omega)))) k);clear k))
   exact⟨rfl,rfl,s.o⟩
 .obtain⟨tu,xu,rfl⟩:=hu.iface
  have aa:=Ar ad;obtain⟨u1,u2,u3⟩:=aa;have HU:Hid (∀wx,Chg w wx []->JB (.iface tu xu) (Ag u) wx):=hZ fun wx h=>MD _ u _ bu wx (Q8 _) ae ad (hu.chg h (by simp))
  obtain⟨M,aa⟩:∃sz,sz=Ag u:=⟨_,rfl⟩
  rw[<-aa]at HU G F u1 u2 u3;clear hu ae ad hx ab aa;have t:(n':Int)=((N:Int)+((sz.nodes:Int)-(M.nodes:Int))):=by omega
  have y:(Y:Int)=((B:Int)+((sz.bytes:Int)+(C:Int)-(M.bytes:Int))):=by omega
  have I:((r+sz.depth:Nat):Int)=((r:Int)+(sz.depth:Int)):=by omega
  have G1:=hZ t;have G2:=hZ y;have c1:w.cell? ⟨W,1,none⟩=some (.int .i64 N):=X.o.cell 1;have d:w.cell? ⟨W,2,none⟩=some (.int .i64 B):=X.o.cell 2;by_cases q:n'<=65536
  .have j1:((N:Int)+((sz.nodes:Int)-(M.nodes:Int)))<=65536:=by omega
   by_cases A:Y<=2097152
   .have j2:((B:Int)+((sz.bytes:Int)+(C:Int)-(M.bytes:Int)))<=2097152:=by omega
    by_cases J:r+sz.depth<=512
    .have j3:((r:Int)+(sz.depth:Int))<=512:=by omega
     rw[En (KB.2 ⟨q,A,J⟩)];clear t y I G F q A J;go_enter func195,ntmps195
     go_wp2_with(first
    |(refine Am rfl _ _ _ rfl _ rfl f args K.o _ H.o ?_;rintro e o ⟨rfl,g⟩;refine⟨_,rfl, ?_⟩;have a:=hZ g;unfold Jv;obtain⟨T,Q,D,d⟩:=HU.o o g;have P:=hZ D;have O:=hZ d;clear D d;clear g)
    |(refine Am rfl _ _ _ rfl _ rfl T Q P.o _ O.o ?_;rintro e w2 ⟨rfl,z⟩;refine⟨_,rfl, ?_⟩;have i:Hid (Chg w w2 []):=hZ (a.o.trans z);unfold Jv;have R:=i.o.keeps c1;have S:=i.o.keeps d;have V:=Q6 n i.o.size;have U:∀j,w2.frozen? ⟨W,j,none⟩=false:=fun j=>(i.o.frozen (p:=⟨W,j,none⟩) n (by simp)).trans (L j);clear z)
    |(go_at_call 53;refine(Bv _ _).mono ?_;rintro e w4 ⟨rfl,rfl⟩))
     go_end0
     refine⟨rfl, ?_, ?_⟩
     .refine(((X.o.kept i.o).set 1 (.int .i64 ((N:Int)+((sz.nodes:Int)-(M.nodes:Int))))).set 2 (.int .i64 ((B:Int)+((sz.bytes:Int)+(C:Int)-(M.bytes:Int))))).eq ?_
      simp only[List.set_cons_succ,List.set_cons_zero];rw[<-G1.o,<-G2.o]
     .have Z:Chg w w2 [W]:=i.o.none _
      (repeat(first|exact Z|with_reducible refine c1 ?_ _|with_reducible refine d ?_|with_reducible refine c3 ?_ _|with_reducible refine c4 ?_ _ _ (by simp)|with_reducible refine c4 ?_ _ _ (by simp;omega)))
    .have j3:¬(((r:Int)+(sz.depth:Int))<=512):=by omega
     rw[DO (E9 (fun h=>J h.2.2))];clear t y I G F q A J;go_enter func195,ntmps195
     go_wp2_with(first
    |(refine Am rfl _ _ _ rfl _ rfl f args K.o _ H.o ?_;rintro e o ⟨rfl,g⟩;refine⟨_,rfl, ?_⟩;have a:=hZ g;unfold Jv;obtain⟨T,Q,D,d⟩:=HU.o o g;have P:=hZ D;have O:=hZ d;clear D d;clear g)
    |(refine Am rfl _ _ _ rfl _ rfl T Q P.o _ O.o ?_;rintro e w2 ⟨rfl,z⟩;refine⟨_,rfl, ?_⟩;have i:Hid (Chg w w2 []):=hZ (a.o.trans z);unfold Jv;have R:=i.o.keeps c1;have S:=i.o.keeps d;have V:=Q6 n i.o.size;have U:∀j,w2.frozen? ⟨W,j,none⟩=false:=fun j=>(i.o.frozen (p:=⟨W,j,none⟩) n (by simp)).trans (L j);clear z)
    |(go_at_call 53;refine(Bu _ _).mono ?_;rintro e E ⟨l,k⟩;unfold By at l;subst l;have s:Hid (Chg w E []):=hZ (Chg.trans (b:=_) (by(repeat(first|exact i.o|with_reducible refine c1 ?_ _|with_reducible refine d ?_|with_reducible refine c3 ?_ _|with_reducible refine c4 ?_ _ _ (by simp)|with_reducible refine c4 ?_ _ _ (by simp;omega)))) k);clear k))
     exact⟨rfl,rfl,s.o⟩
   .have j2:¬(((B:Int)+((sz.bytes:Int)+(C:Int)-(M.bytes:Int)))<=2097152):=by omega
    rw[DO (E9 (fun h=>A h.2.1))];clear t y I G F q A;go_enter func195,ntmps195
    go_wp2_with(first
    |(refine Am rfl _ _ _ rfl _ rfl f args K.o _ H.o ?_;rintro e o ⟨rfl,g⟩;refine⟨_,rfl, ?_⟩;have a:=hZ g;unfold Jv;obtain⟨T,Q,D,d⟩:=HU.o o g;have P:=hZ D;have O:=hZ d;clear D d;clear g)
    |(refine Am rfl _ _ _ rfl _ rfl T Q P.o _ O.o ?_;rintro e w2 ⟨rfl,z⟩;refine⟨_,rfl, ?_⟩;have i:Hid (Chg w w2 []):=hZ (a.o.trans z);unfold Jv;have R:=i.o.keeps c1;have S:=i.o.keeps d;have V:=Q6 n i.o.size;have U:∀j,w2.frozen? ⟨W,j,none⟩=false:=fun j=>(i.o.frozen (p:=⟨W,j,none⟩) n (by simp)).trans (L j);clear z)
    |(go_at_call 53;refine(Bu _ _).mono ?_;rintro e E ⟨l,k⟩;unfold By at l;subst l;have s:Hid (Chg w E []):=hZ (Chg.trans (b:=_) (by(repeat(first|exact i.o|with_reducible refine c1 ?_ _|with_reducible refine d ?_|with_reducible refine c3 ?_ _|with_reducible refine c4 ?_ _ _ (by simp)|with_reducible refine c4 ?_ _ _ (by simp;omega)))) k);clear k))
    exact⟨rfl,rfl,s.o⟩
  .have j1:¬(((N:Int)+((sz.nodes:Int)-(M.nodes:Int)))<=65536):=by omega
   rw[DO (E9 (fun h=>q h.1))];clear t y I G F q;go_enter func195,ntmps195
   go_wp2_with(first
    |(refine Am rfl _ _ _ rfl _ rfl f args K.o _ H.o ?_;rintro e o ⟨rfl,g⟩;refine⟨_,rfl, ?_⟩;have a:=hZ g;unfold Jv;obtain⟨T,Q,D,d⟩:=HU.o o g;have P:=hZ D;have O:=hZ d;clear D d;clear g)
    |(refine Am rfl _ _ _ rfl _ rfl T Q P.o _ O.o ?_;rintro e w2 ⟨rfl,z⟩;refine⟨_,rfl, ?_⟩;have i:Hid (Chg w w2 []):=hZ (a.o.trans z);unfold Jv;have R:=i.o.keeps c1;have S:=i.o.keeps d;have V:=Q6 n i.o.size;have U:∀j,w2.frozen? ⟨W,j,none⟩=false:=fun j=>(i.o.frozen (p:=⟨W,j,none⟩) n (by simp)).trans (L j);clear z)
    |(go_at_call 53;refine(Bu _ _).mono ?_;rintro e E ⟨l,k⟩;unfold By at l;subst l;have s:Hid (Chg w E []):=hZ (Chg.trans (b:=_) (by(repeat(first|exact i.o|with_reducible refine c1 ?_ _|with_reducible refine d ?_|with_reducible refine c3 ?_ _|with_reducible refine c4 ?_ _ _ (by simp)|with_reducible refine c4 ?_ _ _ (by simp;omega)))) k);clear k))
   exact⟨rfl,rfl,s.o⟩
end
end Go.Proofs.YtkfnkppdhcaeoaaGreatDoor

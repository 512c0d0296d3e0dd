/- Part 30 of the proof of patchJoined_card. -/
import Derived.Test.YtkfnkppdhcaeoaaGreatDoorM29
set_option maxRecDepth 100000
set_option maxHeartbeats 32000000
set_option linter.unusedSimpArgs false
set_option linter.unusedVariables false
set_option linter.unnecessarySimpa false
namespace Go.Proofs.YtkfnkppdhcaeoaaGreatDoor
open Go renaming Calls->Cl,Value->Vl,World->Wl
section
open _root_.Go.Proofs.Tryz
open Go Go.Shelf Go.RowKit Go.Lib Tree Ptr
theorem Vc{t:Tr}{a:List BY}{s:BY}{l:List Tr}(b:Ah t a=some (.list l)):EN t (a++[s])=Gg s (.list l):=by rw[Iz,b]
theorem PY{t:Tr}{a:List BY}{s:BY}{l:List Tr}(b:Ah t a=some (.list l)):(Dd t (a++[s])).toI=AC 2 (a++[Eo s (.list l)]) []:=by
 unfold Dd;rw[Qs (by simp),List.dropLast_concat,BE,b];rfl
theorem O1(i:Nat)(h:i<10^20):(⟨(Go.Lib.decDigits i).toArray⟩:BY).size<=20:=by
 have:=IX 20 i h;simp only[ByteArray.size,List.size_toArray];omega
theorem VW{w:Wl}{F:Nat->Prop}{g:Vl}{b:List BY}{s:BY}{l:List Tr}{i:Nat}(d:JC w F g (b++[s]))(e:Bt (.list l))(f:Eo s (.list l)=⟨(Go.Lib.decDigits i).toArray⟩)(hi:i<=65536):
  DR (b++[⟨(Go.Lib.decDigits i).toArray⟩])/\∀x∈b++[⟨(Go.Lib.decDigits i).toArray⟩],x.size<=16777216:=by
 have c:=d.ok.spot (by simp) e;rw[List.dropLast_concat,BE,f]at c;refine⟨c,fun x a=> ?_⟩
 rcases Qf.1 a with a|a
 .exact d.small x (Qe _ a)
 .simp at a;subst a
  have:=O1 i (by omega);omega
theorem Tt(W:Nat)(t x:Tr)(v uv vx:Vl)(bs Z:List Nat)(F:Nat->Prop)(a:Option Addr)(c:Nat)(d:List BY)(s:BY)(w:Wl)(l:List Tr)(h:Sx W t x v uv vx bs Z F (.slice a (d.length+1) c) (d++[s]) w)(N:Ah t d=some (.list l)):
  Cl prog 166 #[.pointer (some ⟨W,0,none⟩),.slice a (d.length+1) c,vx] w (Cq W uv (W::(Z++bs)) t x (d++[s]) w):=by
 have am:=Vc (s:=s) N;have ao:d++[s]≠[]:=by simp
 have aj:Ah t (d++[s]).dropLast=some (.list l):=by rw[List.dropLast_concat];exact N
 obtain⟨b,o,rfl,aw,aI,ay,bh,bd,aH⟩:=h.tat.last;have lb:=h.tat.lt b aw;obtain⟨tx,xx,rfl⟩:=h.xat.iface;obtain⟨tv,xv,rfl⟩:=h.wat.at_.iface;obtain⟨vp,bp,rest,M⟩:=EU h.wat.at_ _ d _ rfl N;obtain⟨r,sv,vs,fs,rfl,J,ab⟩:=M.at_.list;have ak:=h.wat.fine.lead N;have aL:l.length<=65536:=by have:=ak.many;simp only[Ab]at this;omega
 have aC:=J.at_.length;have aN:=Ar h.xfine.fits;have aq:=Ar h.wat.fine.fits;have Y:=hZ (Dl h.laid h.wat h.tat.init M);unfold Jn at Y
 have ah:∀f,Chg w f []->Cl prog 200 #[.string s,.int .i64 vs.length] f (Dn s l.length f):=fun f K=>by
  rw[aC];exact YI s l.length f (h.laid.kept K) bd (by omega)
 have a0:∀(w:Wl),(Instr.typeAssert (.iface 104 (.pointer (some ⟨r,0,none⟩))) 95 175 true).run prog w= .ok (.tuple #[.pointer none,.bool false]) w:=fun _=>by kernel_rfl
 have a1:∀(w:Wl),(Instr.typeAssert (.iface 104 (.pointer (some ⟨r,0,none⟩))) 95 104 true).run prog w= .ok (.tuple #[.pointer (some ⟨r,0,none⟩),.bool true]) w:=fun _=>by kernel_rfl
 obtain⟨B,C,rfl,_⟩:=J.lst.form;have c1:w.cell? ⟨r,0,none⟩=some (.slice B vs.length C):=J.blk.cell 0;have lW:=h.wat.blk.lt;have aZ:=J.blk.lt
 have a8:r≠W:=fun e=>by
  have n:r∈bs:=M.perm.mem_iff.2 (by rw[ab];simp);have:=h.nodup;rw[e]at n;simp[n]at this
 cases ad:Em s l.length with
 |none=>
  obtain⟨T,m2⟩:=Vn (l:=l) ad;rw[LG (am.trans T) m2];have ae:=hZ ah;rw[RM ad]at ae;obtain⟨m,n⟩:∃m,m=d.length:=⟨_,rfl⟩
  rw[<-n]at Y aI ay aH|-;clear h am ao aj M J ab ak aL aC aN aq ah ad T m2 n N aw;go_enter func166,ntmps166
  go_wp2_with(first
   |(go_at_call 170;refine(Y.o _ (by exact cg cR)).mono ?_;rintro e U ⟨rfl,u⟩;have E:Hid (Chg w U []):=hZ (ct cR u);have d1:=E.o.keeps c1;clear u)
   |(go_at_call 200;refine(ae.o _ (by exact cg E.o)).mono ?_;rintro e w2 ⟨A,he⟩;unfold By at he;subst he;have V:Hid (Chg w w2 []):=hZ (ct E.o A);clear A))
  exact⟨rfl,rfl,V.o.none _⟩
 |some i=>
  obtain⟨T,m2,m3,m4⟩:=Xy ad x;have ae:=hZ ah;rw[RN ad]at ae;have an:=am.trans T;have az:∀ks l',Tr.list l= .obj ks l'->C4 ks (AH (d++[s]))=false:=fun _ _ e=>by cases e
  obtain⟨q1,q2,q3⟩:=MR (x:=x) h.wat.fine ao aj (by rw[BE];exact T) az;have ap:=Oy (x:=x) h.wat.fine ao aj (by rw[BE];exact T) az;have aK:(d++[s]).length=d.length+1:=by simp
  rw[aK]at ap;unfold NC at q2
  have af:Hid (∀f,Chg w f []->Cl prog 195 #[.pointer (some ⟨W,0,none⟩),.slice (some ⟨b,o,none⟩) (d.length+1) c,.iface tx xx,.nilIface,.int .i64 0] f (Dh W (.iface tv xv) uv (Ag (At t (d++[s]) x)).nodes (Ag (At t (d++[s]) x)).bytes (d.length+1+(Ag x).depth) f)):=hZ fun f K=>
   Jl W _ uv _ _ x _ _ Z 0 0 _ _ 0 _ _ c f (h.wat.blk.kept K) (h.xat.chg K (by simp)) h.xfine.good h.xfine.fits (.inl ⟨rfl,rfl,rfl⟩) aq.1 aq.2.1 (by omega) ay (by omega) (by omega)
  have ai:=PY (s:=s) N;rw[m4]at ai;obtain⟨aA,aB⟩:=VW h.tat ak m4 (by omega);obtain⟨z,ax⟩:∃z:BY,z=⟨(Go.Lib.decDigits i).toArray⟩:=⟨_,rfl⟩
  rw[<-ax]at ai aA aB;have ar:∀y,y∈(Vl.slice B vs.length C).ownBlock.toList->y∈bs:=fun y k=>M.perm.mem_iff.2 (by rw[ab];simp only[Qh,Qf];exact .inl (.inr (.inl k)))
  have aM:=AP.lt _ _ _ h.wat.at_;have aS:Hid (∀y,y∈(Vl.slice B vs.length C).ownBlock.toList->y<w.heap.size):=hZ fun y k=>aM y (ar y k)
  have aG:∀y,y∈(Vl.slice B vs.length C).ownBlock.toList->y≠W:=fun y k e=>by
   have:=ar y k;subst e;have hn:=h.nodup;simp[this]at hn
  have aP:Hid (∀q,Chg w q [W]->Cl prog 199 #[.slice B vs.length C,.int .i64 i,.slice (some ⟨q.heap.size,0,none⟩) 1 1] (q.alloc (.cells #[.iface tx xx] 95)) (E1 (q.alloc (.cells #[.iface tx xx] 95)) (.slice B vs.length C) 95 vs.length (vs.insertIdx i (.iface tx xx)))):=hZ fun q hc=>
   N5 _ (.iface tx xx) q.heap.size i vs _ ((J.lst.kept hc (fun y k n=>by simp at n;exact aG y (by rw[k];simp) n)).kept (bs:=[]) ((Chg.refl q []).alloc _) (by simp)) (Ac.new q _ _) (fun y k e=>by have:=aS.o y (by rw[k];simp);have:=hc.size;omega) rfl J.at_.one (by omega) (by omega)
  have aR:Hid (∀q wI R g aa,Chg w q [W]->Chg q wI []->AK R (.slice (some ⟨g,0,none⟩) (vs.length+1) aa) 95 (vs.insertIdx i (.iface tx xx))->Chg wI R (Vl.slice B vs.length C).ownBlock.toList->((Vl.slice B vs.length C).ownBlock=some g\/wI.heap.size<=g)->Wc w q R W r g aa (vs.length+1) (Bz (Cj s x) t d) (.iface tv xv) (.slice B vs.length C) (W::(Z++bs))):=hZ fun q wI R g aa H D I k4 k5=>
   Yt h.wat M J ab h.nodup h.xat m2 m3 H D I k4 k5
  have al:∀y,y∈W::r::(Vl.slice B vs.length C).ownBlock.toList->y∈W::(Z++bs):=fun y k=>by
   rcases Qh.1 k with rfl|k
   .simp
   .rcases Qh.1 k with rfl|k
    .have:y∈bs:=M.perm.mem_iff.2 (by rw[ab];simp)
     simp[this]
    .simp[ar y k]
  have aD:Hid (∀f,Chg w f (W::r::(Vl.slice B vs.length C).ownBlock.toList)->Cl prog 42 #[.slice (some ⟨b,o,none⟩) d.length c] f (fun e w'=>∃P Q,e= .returned (.slice P d.length Q)/\AK w' (.slice P d.length Q) 9 (Ad d)/\(∀g,(Vl.slice P d.length Q).ownBlock=some g->f.heap.size<=g)/\Chg f w' [])):=hZ fun f K=>by
   have ht:=h.tat.init.kept K (fun y k=>h.apart y (al y k));refine(DL F _ _ f ht.row (Gu d) (by rw[Ao];omega)).mono ?_;rintro e U ⟨sk,rfl,u,A,h3⟩;obtain⟨P,Q,rfl,_⟩:=u.form;rw[Ao]at u A|-;exact⟨P,Q,rfl,u,A,h3⟩
  have aQ:Hid (∀f,Chg w f (W::r::(Vl.slice B vs.length C).ownBlock.toList)->Cl prog 70 #[.int .i64 i] f (fun e w'=>e= .returned (.string z)/\Chg f w' [])):=hZ fun f K=>by
   have:=Ri (i:Int) (by omega) (by omega) f (h.laid.kept K (fun y k=>h.big y (al y k)));rw[Mc,<-ax]at this;exact this
  have aE:Hid (∀f S ag,Chg w f (W::r::(Vl.slice B vs.length C).ownBlock.toList)->AK f (.slice (some ⟨S,0,none⟩) (d.length+1) ag) 9 (Ad d++[.string z])->Cl prog 196 #[.int .i64 2,.slice (some ⟨S,0,none⟩) (d.length+1) ag,.nilIface] f (Et (AC 2 (d++[z]) []) f)):=hZ fun f S ag K h9=>by
   have bc:Ad (d++[z])=Ad d++[.string z]:=by simp[Ad]
   rw[<-bc]at h9;exact ME 2 (fun y=>(Vl.slice (some ⟨S,0,none⟩) (d.length+1) ag).ownBlock=some y) _ (d++[z]) f (h.laid.kept K (fun y k=>h.big y (al y k))) h9.toRow (fun y k=>h9.lt k) aA aB
  have av:Hid ((Ad d).length=d.length):=hZ (Ao d);have aJ:(Ag (At t (d++[s]) x)).within=true->Bt (At t (d++[s]) x):=fun O=>h.wat.fine.add h.xfine h.tat.ok an O
  have a6:=hZ (E3 t x d s);have a2:=hZ ai;have HH:=hZ h;by_cases O:(Ag (At t (d++[s]) x)).within=true
  .rw[LS an O]
   rw[En (by rw[ap];exact O)]at af;have a5:=hZ (aJ O);obtain⟨m,n⟩:∃m,m=d.length:=⟨_,rfl⟩
   rw[<-n]at Y af aE aD av aI ay aH|-;clear h am ao aj M J ab ak aL aC aN aq ah ad T m2 m3 m4 n N aw az q1 q2 q3 ap aK ai aA aB ax ar aM aG al aJ O an;go_enter func166,ntmps166
   go_wp2_with(first
   |(go_at_call 170;refine(Y.o _ (by exact cg cR)).mono ?_;rintro e U ⟨rfl,u⟩;have E:Hid (Chg w U []):=hZ (ct cR u);have B1:Hid (Ac U w.heap.size Ef 42):=hZ ((Ac.new w Ef 42).kept u);have d1:=E.o.keeps c1;clear u)
   |(go_at_call 200;refine(ae.o _ (by exact cg E.o)).mono ?_;rintro e w2 ⟨A,rfl⟩;have V:Hid (Chg w w2 []):=hZ (ct E.o A);have B2:Hid (Ac w2 w.heap.size Ef 42):=hZ (B1.o.kept A);clear A)
   |(go_at_call 195;refine(af.o _ (by exact cg V.o)).mono ?_;rintro e q ⟨rfl,h3,h4⟩;have a4:=hZ h3;have X:Hid (Chg w q [W]):=hZ (ct ((V.o.none [W])) h4);have B3:Hid (Ac q w.heap.size Ef 42):=hZ (B2.o.kept h4 (by simp;omega));have e1:=(X.o.cell (p:=⟨r,0,none⟩) aZ (by simpa using a8)).trans c1;have bk:=Q6 aZ X.o.size;clear h3 h4)
   |(go_at_call 199;refine(aP.o q X.o).mono ?_;rintro e R ⟨g,aa,rfl,H,D,I⟩;obtain⟨aT,s1,s2,s3,s4,s5,s6,s7,s8⟩:=aR.o q (q.alloc (.cells #[.iface tx xx] 95)) R g aa X.o (by exact cg cR) H D I;have S1:=hZ s1;have S2:=hZ s2;have S3:=hZ s3;have S4:=hZ s4;have S5:=hZ s5;have S6:=hZ s6;have S7:=hZ s7;have S8:=hZ s8;have e2:=s3.cell 0;have f2:∀j,R.frozen? ⟨r,j,none⟩=false:=fun j=>s3.frozen j;have bl:=s3.lt;simp only[Qa]at e2;have B5:Hid (Ac (R.setCell ⟨r,0,none⟩ (.slice (some ⟨g,0,none⟩) (vs.length+1) aa)) w.heap.size Ef 42):=hZ (((B3.o.alloc _).kept D (fun n=>by have:=aS.o _ n;omega)).set_other _ _ (by simp only;omega));have C5:=hZ D;clear H D I s1 s2 s3 s4 s5 s6 s7 s8)
   |(go_at_call 42;refine(aD.o _ (by exact S5.o)).mono ?_;rintro e w7 ⟨P,Q,rfl,H,D,I⟩;have L7:=hZ H;have N7:=hZ D;have H7:=hZ I;clear H D I)
   |(go_at_call 70;refine(aQ.o _ (by exact(S5.o.trans (H7.o.none _)))).mono ?_;rintro e w8 ⟨rfl,I⟩;have H8:=hZ (H7.o.trans I);have L8:=hZ (L7.o.kept I);clear I)
   |(refine AM rfl _ _ _ rfl 9 Ho 16 underlying27 Cf rfl (.slice P m Q) (Ad d) (by rfl) (by exact L8.o.kept (bs:=[]) (by exact cg cR) (by simp)) w8.heap.size (.string z) (by rfl) (by exact Bx rfl _ _) rfl (by rw[av.o];omega) (by rw[av.o];omega) ?_;rw[av.o];intro S ag w9 aX aV aW;have L9:=hZ aX;have C9:Hid (Chg w8 w9 (Vl.slice P m Q).ownBlock.toList):=hZ ((((Chg.refl w8 []).alloc _).none _).trans aV);have G9:Hid ((Vl.slice P m Q).ownBlock=some S\/w8.heap.size<=S):=hZ (aW.imp id (fun h=>by rw[World.size_alloc]at h;omega));have H9:Hid (Chg (R.setCell ⟨r,0,none⟩ (.slice (some ⟨g,0,none⟩) (vs.length+1) aa)) w9 []):=hZ (H8.o.fresh C9.o (fun y k=>N7.o y (by simpa using k)));clear aX aV aW)
   |(go_at_call 196;refine(aE.o w9 S ag (by exact S5.o.trans (H9.o.none _)) L9.o).mono ?_;rintro e bf h5;obtain⟨bm,ys,G,rfl,H,D⟩:=h5.at;have K1:=hZ H;have K2:=hZ D;obtain⟨sa,sc,rfl,_⟩:=H.row.form;clear h5 H D)
   |(refine Ae rfl _ _ _ rfl w.heap.size (BJ (AC 2 (d++[z]) []) (.slice sa (AC 2 (d++[z]) []).steps.length sc)) (by rfl) (by rfl) 42 Ef (by exact B5.o.kept (H9.o.trans K2.o)) A0 rfl (Dx _ _ _ _) ?_;intro bg aO aU aY;have a3:=hZ aU;have au:=hZ aY;clear aO aU aY))
   have be:=X.o.size;have aF:=H9.o.trans K2.o;have aO:w.heap.size<w9.heap.size:=by have:=(B5.o.kept H9.o).lt;exact this
   have a9:Chg w bf (W::(Z++bs)):=(S5.o.mono (fun y _ n=>S6.o y n)).trans (aF.none _);have a7:Chg w bg (W::(Z++bs)):=a9.step au.o (fun i hi N=>by simp at hi;omega);have hk:=K1.o.kept (w0:=w) au.o (fun b L=>by simp at L;subst L;exact aO) (by omega);have ba:=AP.lt _ _ _ S1.o;have bi:=H9.o.size;refine bodyPost_ret (Bi rfl _ _ w.heap.size 42 (BJ (AC 2 (d++[z]) []) (.slice sa (AC 2 (d++[z]) []).steps.length sc)) _ rfl a3.o underlying42 rfl A0) rfl ?_;rw[a2.o]
   have bb:w.heap.size∉aT:=fun n=>by
    rcases S2.o.come _ (Qg _ n)with h|h
    .rcases Qh.1 h with h|h
     .omega
     .rcases Qf.1 h with h|h
      .have:=AP.lt _ _ _ HH.o.xat _ h;omega
      .have:=AP.lt _ _ _ HH.o.wat.at_ _ h;omega
    .have:=B3.o.lt;omega
   have bj:W<w9.heap.size:=by omega
   refine⟨.iface tv xv,aT,_,ys,G,rfl,hk,⟨?_, ?_,a5.o⟩,S2.o.back be,a7,fun b L hG=> ?_⟩
   .exact(((((a4.o.alloc _).kept C5.o S8.o).set_other _ _ (by simp only;exact fun e=>S7.o e.symm)).kept aF).kept au.o (by simp;omega))
   .rw[a6.o]
    exact(S1.o.chg aF (by simp)).chg au.o (fun b L n=>by simp at L;subst L;exact bb n)
   .have u:=(K1.o.new b hG).1
    rcases Qh.1 L with rfl|L
    .omega
    .have:=ba b L;omega
  .rw[Hv an (by simpa using O)]
   rw[DO (by rw[ap];simpa using O)]at af;obtain⟨m,n⟩:∃m,m=d.length:=⟨_,rfl⟩
   rw[<-n]at Y af aI ay aH|-;clear h am ao aj M J ab ak aL aC aN aq ah ad T m2 m3 m4 n N aw az q1 q2 q3 ap aK ai aA aB ax ar aM aG al aJ O an aP aR aE aD aQ;go_enter func166,ntmps166
   go_wp2_with(first
   |(go_at_call 170;refine(Y.o _ (by exact cg cR)).mono ?_;rintro e U ⟨rfl,u⟩;have E:Hid (Chg w U []):=hZ (ct cR u);have B1:Hid (Ac U w.heap.size Ef 42):=hZ ((Ac.new w Ef 42).kept u);have d1:=E.o.keeps c1;clear u)
   |(go_at_call 200;refine(ae.o _ (by exact cg E.o)).mono ?_;rintro e w2 ⟨A,rfl⟩;have V:Hid (Chg w w2 []):=hZ (ct E.o A);have B2:Hid (Ac w2 w.heap.size Ef 42):=hZ (B1.o.kept A);clear A)
   |(go_at_call 195;refine(af.o _ (by exact cg V.o)).mono ?_;rintro e q ⟨he,h4⟩;unfold By at he;subst he;have X:Hid (Chg w q []):=hZ (ct V.o h4);clear h4))
   exact⟨rfl,rfl,X.o.none _⟩
end
section
open Go Go.Shelf Go.RowKit Go.Lib Tree Ptr
def Ee(a i:Nat)(s:BY)(b sv sk:Vl)(j:Nat)(v:Vl):Prop:=
 match j with
 |0=>v= .pointer (some ⟨a,0,none⟩)
 |1=>v= .pointer (some ⟨a,0,none⟩)
 |2=>v= .pointer (some ⟨a,0,none⟩)
 |3=>v= .pointer (some ⟨a,0,none⟩)
 |10=>v= .pointer (some ⟨a,0,none⟩)
 |11=>v= .pointer (some ⟨a,0,none⟩)
 |12=>v= .pointer (some ⟨a,0,none⟩)
 |13=>v= .pointer (some ⟨a,0,none⟩)
 |19=>v= .pointer (some ⟨a,0,none⟩)
 |22=>v= .pointer (some ⟨a,0,none⟩)
 |23=>v= .pointer (some ⟨a,0,none⟩)
 |24=>v= .pointer (some ⟨a,0,none⟩)
 |4=>v= .pointer (some ⟨a,1,none⟩)
 |20=>v= .pointer (some ⟨a,1,none⟩)
 |5=>v=sk
 |14=>v=sv
 |6=>v= .int .i64 i
 |15=>v= .int .i64 i
 |7=>v= .string s
 |16=>v=b
 |_=>True
structure Lo(w0:Wl)(b' i:Nat)(s:BY)(vx sv sk:Vl)(ks:List BY)(vs:List Vl)(d:Nat->Bool)(f:Nat->Vl)(w:Wl):Prop where
 chg:Chg w0 w (b'::(sk.ownBlock.toList++sv.ownBlock.toList))
 vals:∀j,d j=true->Ee b' i s vx sv sk j (f j)
 o9:d 9=true->d 5=true
 o18:d 18=true->d 9=true/\d 14=true
 o21:d 21=true->d 18=true
 o25:d 25=true->d 21=true
 blk0:d 21=false->Ac w b' [sv,sk] 177
 blk1:d 21=true->d 25=false->Ac w b' [sv,f 9] 177
 blk2:d 25=true->Ac w b' [f 18,f 9] 177
 keys0:d 9=false->AK w sk 9 (Ad ks)
 items0:d 18=false->AK w sv 95 vs
 r8:d 8=true->d 9=false->∃B,f 8= .slice (some ⟨B,0,none⟩) 1 1/\Ac w B [.string s] 9/\w0.heap.size<=B
 r17:d 17=true->d 18=false->∃B,f 17= .slice (some ⟨B,0,none⟩) 1 1/\Ac w B [vx] 95/\w0.heap.size<=B
 r9:d 9=true->∃g cap,f 9= .slice (some ⟨g,0,none⟩) (ks.length+1) cap/\AK w (.slice (some ⟨g,0,none⟩) (ks.length+1) cap) 9 (Ad (ks.insertIdx i s))/\(sk.ownBlock=some g\/w0.heap.size<=g)
 r18:d 18=true->∃g cap,f 18= .slice (some ⟨g,0,none⟩) (vs.length+1) cap/\AK w (.slice (some ⟨g,0,none⟩) (vs.length+1) cap) 95 (vs.insertIdx i vx)/\(sv.ownBlock=some g\/w0.heap.size<=g)/\(f 9).ownBlock≠some g
structure Nh(w0:Wl)(b':Nat)(sv sk:Vl):Prop where
 lb:b'<w0.heap.size
 lk:∀g,sk.ownBlock=some g->g<w0.heap.size/\g≠b'/\sv.ownBlock≠some g
 lv:∀g,sv.ownBlock=some g->g<w0.heap.size/\g≠b'
section
variable {w0:Wl} {b' i:Nat} {s:BY} {vx sv sk:Vl} {ks:List BY} {vs:List Vl} {d:Nat->Bool} {f:Nat->Vl} {w w':Wl}
theorem Lo.vals'{j:Nat}{v:Vl}(h:Lo w0 b' i s vx sv sk ks vs d f w)(b:Ee b' i s vx sv sk j v):∀k,BA d j k=true->Ee b' i s vx sv sk k (Eb f j v k):=fun k a=>by
 by_cases e:k=j
 .subst e;rw[Bf];exact b
 .rw[AA f v e];rw[An d e]at a;exact h.vals k a
theorem Lo.plain{j:Nat}{v:Vl}(h:Lo w0 b' i s vx sv sk ks vs d f w)(q:8≠j)(r:9≠j)(o:17≠j)(p:18≠j)(x:21≠j)(y:25≠j)(u:Ee b' i s vx sv sk j v)(a:Chg w w' []):Lo w0 b' i s vx sv sk ks vs (BA d j) (Eb f j v) w':=by
 have up:∀k,d k=true->BA d j k=true:=fun k t=>by unfold BA;split;rfl;exact t
 refine⟨h.chg.trans (a.none _),h.vals' u, ?_, ?_, ?_, ?_, ?_, ?_, ?_, ?_, ?_, ?_, ?_, ?_, ?_⟩<;>simp only[An d q,An d r,An d o,An d p,An d x,An d y,AA f v q,AA f v r,AA f v o,AA f v p]
 .exact fun e=>up 5 (h.o9 e)
 .exact fun e=>⟨(h.o18 e).1,up 14 (h.o18 e).2⟩
 .exact h.o21
 .exact h.o25
 .exact fun e=>(h.blk0 e).kept a
 .exact fun e n=>(h.blk1 e n).kept a
 .exact fun e=>(h.blk2 e).kept a
 .exact fun e=>(h.keys0 e).kept a
 .exact fun e=>(h.items0 e).kept a
 .exact fun e n=>by obtain⟨B,b,l,m⟩:=h.r8 e n;exact⟨B,b,l.kept a,m⟩
 .exact fun e n=>by obtain⟨B,b,l,m⟩:=h.r17 e n;exact⟨B,b,l.kept a,m⟩
 .exact fun e=>by obtain⟨g,c,b,l,m⟩:=h.r9 e;exact⟨g,c,b,l.kept a,m⟩
 .exact fun e=>by obtain⟨g,c,b,l,m⟩:=h.r18 e;exact⟨g,c,b,l.kept a,m⟩
theorem Lo.new8(h:Lo w0 b' i s vx sv sk ks vs d f w):Lo w0 b' i s vx sv sk ks vs (BA d 8) (Eb f 8 (.slice (some ⟨w.heap.size,0,none⟩) 1 1)) (w.alloc (.cells #[.string s] 9)):=by
 have a:Chg w (w.alloc (.cells #[.string s] 9)) []:=(Chg.refl w []).alloc _;have n:∀k,k≠8->BA d 8 k=d k:=fun k p=>An d p
 have m:∀k,k≠8->Eb f 8 (.slice (some ⟨w.heap.size,0,none⟩) 1 1) k=f k:=fun k p=>AA f _ p
 refine⟨h.chg.trans (a.none _),h.vals' (by simp[Ee]), ?_, ?_, ?_, ?_, ?_, ?_, ?_, ?_, ?_, ?_, ?_, ?_, ?_⟩<;>simp only[n 5 (by decide),n 9 (by decide),n 14 (by decide),n 17 (by decide),n 18 (by decide),n 21 (by decide),n 25 (by decide),m 9 (by decide),m 17 (by decide),m 18 (by decide)]
 .exact h.o9
 .exact h.o18
 .exact h.o21
 .exact h.o25
 .exact fun e=>(h.blk0 e).kept a
 .exact fun e o=>(h.blk1 e o).kept a
 .exact fun e=>(h.blk2 e).kept a
 .exact fun e=>(h.keys0 e).kept a
 .exact fun e=>(h.items0 e).kept a
 .exact fun _ _=>⟨w.heap.size,Bf _ _ _,Ac.new w [.string s] _,h.chg.size⟩
 .exact fun e o=>by obtain⟨B,b,j,l⟩:=h.r17 e o;exact⟨B,b,j.kept a,l⟩
 .exact fun e=>by obtain⟨g,c,b,j,l⟩:=h.r9 e;exact⟨g,c,b,j.kept a,l⟩
 .exact fun e=>by obtain⟨g,c,b,j,l⟩:=h.r18 e;exact⟨g,c,b,j.kept a,l⟩
theorem Lo.new17(h:Lo w0 b' i s vx sv sk ks vs d f w):Lo w0 b' i s vx sv sk ks vs (BA d 17) (Eb f 17 (.slice (some ⟨w.heap.size,0,none⟩) 1 1)) (w.alloc (.cells #[vx] 95)):=by
 have a:Chg w (w.alloc (.cells #[vx] 95)) []:=(Chg.refl w []).alloc _;have n:∀k,k≠17->BA d 17 k=d k:=fun k p=>An d p
 have m:∀k,k≠17->Eb f 17 (.slice (some ⟨w.heap.size,0,none⟩) 1 1) k=f k:=fun k p=>AA f _ p
 refine⟨h.chg.trans (a.none _),h.vals' (by simp[Ee]), ?_, ?_, ?_, ?_, ?_, ?_, ?_, ?_, ?_, ?_, ?_, ?_, ?_⟩<;>simp only[n 5 (by decide),n 8 (by decide),n 9 (by decide),n 14 (by decide),n 18 (by decide),n 21 (by decide),n 25 (by decide),m 9 (by decide),m 8 (by decide),m 18 (by decide)]
 .exact h.o9
 .exact h.o18
 .exact h.o21
 .exact h.o25
 .exact fun e=>(h.blk0 e).kept a
 .exact fun e o=>(h.blk1 e o).kept a
 .exact fun e=>(h.blk2 e).kept a
 .exact fun e=>(h.keys0 e).kept a
 .exact fun e=>(h.items0 e).kept a
 .exact fun e o=>by obtain⟨B,b,j,l⟩:=h.r8 e o;exact⟨B,b,j.kept a,l⟩
 .exact fun _ _=>⟨w.heap.size,Bf _ _ _,Ac.new w [vx] _,h.chg.size⟩
 .exact fun e=>by obtain⟨g,c,b,j,l⟩:=h.r9 e;exact⟨g,c,b,j.kept a,l⟩
 .exact fun e=>by obtain⟨g,c,b,j,l⟩:=h.r18 e;exact⟨g,c,b,j.kept a,l⟩
theorem Lo.call9{g b:Nat}(o:Nh w0 b' sv sk)(h:Lo w0 b' i s vx sv sk ks vs d f w)(q:d 9=false)(z:d 5=true)(D:AK w' (.slice (some ⟨g,0,none⟩) (ks.length+1) b) 9 (Ad (ks.insertIdx i s)))(j:Chg w w' sk.ownBlock.toList)(E:sk.ownBlock=some g\/w.heap.size<=g):
  Lo w0 b' i s vx sv sk ks vs (BA d 9) (Eb f 9 (.slice (some ⟨g,0,none⟩) (ks.length+1) b)) w':=by
 have n:∀k,k≠9->BA d 9 k=d k:=fun k p=>An d p
 have m:∀k,k≠9->Eb f 9 (.slice (some ⟨g,0,none⟩) (ks.length+1) b) k=f k:=fun k p=>AA f _ p
 have c:d 18=false:=by cases e:d 18 with
  |false=>rfl
  |true=>rw[(h.o18 e).1]at q;cases q
 have l:d 21=false:=by cases e:d 21 with
  |false=>rfl
  |true=>rw[h.o21 e]at c;cases c
 have x:d 25=false:=by cases e:d 25 with
  |false=>rfl
  |true=>rw[h.o25 e]at l;cases l
 have A:b'∉sk.ownBlock.toList:=fun a=>(o.lk b' (by simpa using a)).2.1 rfl
 refine⟨h.chg.trans (j.mono fun _ _ a=>Qg _ (Qe _ a)),h.vals' (by simp[Ee]), ?_, ?_, ?_, ?_, ?_, ?_, ?_, ?_, ?_, ?_, ?_, ?_, ?_⟩<;>simp only[n 5 (by decide),n 8 (by decide),n 14 (by decide),n 17 (by decide),n 18 (by decide),n 21 (by decide),n 25 (by decide),m 8 (by decide),m 17 (by decide),m 18 (by decide),BG,Bf]
 .exact fun _=>z
 .rw[c];intro e;cases e
 .exact h.o21
 .exact h.o25
 .exact fun e=>(h.blk0 e).kept j A
 .rw[l];intro e;cases e
 .rw[x];intro e;cases e
 .intro e;cases e
 .exact fun e=>(h.items0 e).kept j (fun y C a=>(o.lk y (by simpa using a)).2.2 C)
 .intro _ e;cases e
 .exact fun e v=>by
   obtain⟨B,r,t,u⟩:=h.r17 e v;exact⟨B,r,t.kept j (fun a=>by have:=(o.lk B (by simpa using a)).1;omega),u⟩
 .exact fun _=>⟨g,b,rfl,D,E.imp id fun e=>Q7 h.chg.size e⟩
 .rw[c];intro e;cases e
theorem Lo.call18{g j:Nat}(q:Nh w0 b' sv sk)(h:Lo w0 b' i s vx sv sk ks vs d f w)(t:d 18=false)(l:d 9=true)(C:d 14=true)(E:AK w' (.slice (some ⟨g,0,none⟩) (vs.length+1) j) 95 (vs.insertIdx i vx))(p:Chg w w' sv.ownBlock.toList)(b:sv.ownBlock=some g\/w.heap.size<=g):
  Lo w0 b' i s vx sv sk ks vs (BA d 18) (Eb f 18 (.slice (some ⟨g,0,none⟩) (vs.length+1) j)) w':=by
 have n:∀k,k≠18->BA d 18 k=d k:=fun k r=>An d r
 have m:∀k,k≠18->Eb f 18 (.slice (some ⟨g,0,none⟩) (vs.length+1) j) k=f k:=fun k r=>AA f _ r
 have o:d 21=false:=by cases e:d 21 with
  |false=>rfl
  |true=>rw[h.o21 e]at t;cases t
 have B:d 25=false:=by cases e:d 25 with
  |false=>rfl
  |true=>rw[h.o25 e]at o;cases o
 have D:b'∉sv.ownBlock.toList:=fun a=>(q.lv b' (by simpa using a)).2 rfl
 obtain⟨gk,A,x,z,c⟩:=h.r9 l
 have u:gk∉sv.ownBlock.toList:=fun a=>by
  have a:sv.ownBlock=some gk:=by simpa using a
  rcases c with c|c
  .exact(q.lk gk c).2.2 a
  .have:=(q.lv gk a).1;omega
 have F:gk<w.heap.size:=z.lt rfl;refine⟨h.chg.trans (p.mono fun _ _ a=>Qg _ (Qd _ a)),h.vals' (by simp[Ee]), ?_, ?_, ?_, ?_, ?_, ?_, ?_, ?_, ?_, ?_, ?_, ?_, ?_⟩<;>simp only[n 5 (by decide),n 8 (by decide),n 9 (by decide),n 14 (by decide),n 17 (by decide),n 21 (by decide),n 25 (by decide),m 8 (by decide),m 9 (by decide),m 17 (by decide),BG,Bf]
 .exact h.o9
 .exact fun _=>⟨l,C⟩
 .exact fun _=>trivial
 .exact h.o25
 .exact fun e=>(h.blk0 e).kept p D
 .rw[o];intro e;cases e
 .rw[B];intro e;cases e
 .rw[l];intro e;cases e
 .intro e;cases e
 .rw[l];intro _ e;cases e
 .intro _ e;cases e
 .exact fun _=>⟨gk,A,x,z.kept p (fun y v a=>by simp[Vl.ownBlock]at v;subst v;exact u a),c⟩
 .refine fun _=>⟨g,j,rfl,E,b.imp id fun e=>Q7 h.chg.size e, ?_⟩
  rw[x];simp only[Vl.ownBlock,ne_eq,Option.some.injEq];intro e;subst e
  rcases b with b|b
  .exact u (by simp[b])
  .omega
theorem Lo.store21(h:Lo w0 b' i s vx sv sk ks vs d f w)(c:Nh w0 b' sv sk)(j:d 21=false)(b:d 18=true):Lo w0 b' i s vx sv sk ks vs (BA d 21) (Eb f 21 undef) (w.setCell ⟨b',1,none⟩ (f 9)):=by
 have n:∀k,k≠21->BA d 21 k=d k:=fun k p=>An d p
 have m:∀k,k≠21->Eb f 21 undef k=f k:=fun k p=>AA f _ p
 have z:d 25=false:=by cases e:d 25 with
  |false=>rfl
  |true=>rw[h.o25 e]at j;cases j
 have l:=(h.o18 b).1;have o:Chg w (w.setCell ⟨b',1,none⟩ (f 9)) [b']:=(Chg.refl w [b']).setCell _ _ (by simp);obtain⟨gk,v,D,E,u⟩:=h.r9 l;obtain⟨g,x,A,B,t,C⟩:=h.r18 b
 have F:gk≠b':=by
  rcases u with q|q
  .exact(c.lk gk q).2.1
  .have:=c.lb;omega
 have G:g≠b':=by
  rcases t with q|q
  .exact(c.lv g q).2
  .have:=c.lb;omega
 refine⟨h.chg.trans (o.mono fun _ _ a=>by simp at a;simp[a]),h.vals' (by simp[Ee]), ?_, ?_, ?_, ?_, ?_, ?_, ?_, ?_, ?_, ?_, ?_, ?_, ?_⟩<;>simp only[n 5 (by decide),n 8 (by decide),n 9 (by decide),n 14 (by decide),n 17 (by decide),n 18 (by decide),n 25 (by decide),m 8 (by decide),m 9 (by decide),m 17 (by decide),m 18 (by decide),BG]
 .exact h.o9
 .exact h.o18
 .exact fun _=>b
 .exact fun _=>trivial
 .intro e;cases e
 .exact fun _ _=>(h.blk0 j).set 1 (f 9)
 .rw[z];intro e;cases e
 .rw[l];intro e;cases e
 .rw[b];intro e;cases e
 .rw[l];intro _ e;cases e
 .rw[b];intro _ e;cases e
 .exact fun _=>⟨gk,v,D,E.kept o (fun y r a=>by simp[Vl.ownBlock]at r a;omega),u⟩
 .exact fun _=>⟨g,x,A,B.kept o (fun y r a=>by simp[Vl.ownBlock]at r a;omega),t,C⟩
theorem Lo.store25(h:Lo w0 b' i s vx sv sk ks vs d f w)(g:Nh w0 b' sv sk)(z:d 25=false)(c:d 21=true):Lo w0 b' i s vx sv sk ks vs (BA d 25) (Eb f 25 undef) (w.setCell ⟨b',0,none⟩ (f 18)):=by
 have n:∀k,k≠25->BA d 25 k=d k:=fun k p=>An d p
 have m:∀k,k≠25->Eb f 25 undef k=f k:=fun k p=>AA f _ p
 have b:=h.o21 c;have l:=(h.o18 b).1;have o:Chg w (w.setCell ⟨b',0,none⟩ (f 18)) [b']:=(Chg.refl w [b']).setCell _ _ (by simp);obtain⟨gk,v,D,E,u⟩:=h.r9 l;obtain⟨j,x,A,B,t,C⟩:=h.r18 b
 have F:gk≠b':=by
  rcases u with q|q
  .exact(g.lk gk q).2.1
  .have:=g.lb;omega
 have G:j≠b':=by
  rcases t with q|q
  .exact(g.lv j q).2
  .have:=g.lb;omega
 refine⟨h.chg.trans (o.mono fun _ _ a=>by simp at a;simp[a]),h.vals' (by simp[Ee]), ?_, ?_, ?_, ?_, ?_, ?_, ?_, ?_, ?_, ?_, ?_, ?_, ?_⟩<;>simp only[n 5 (by decide),n 8 (by decide),n 9 (by decide),n 14 (by decide),n 17 (by decide),n 18 (by decide),n 21 (by decide),m 8 (by decide),m 9 (by decide),m 17 (by decide),m 18 (by decide),BG]
 .exact h.o9
 .exact h.o18
 .exact h.o21
 .exact fun _=>c
 .rw[c];intro e;cases e
 .intro _ e;cases e
 .exact fun _=>(h.blk1 c z).set 0 (f 18)
 .rw[l];intro e;cases e
 .rw[b];intro e;cases e
 .rw[l];intro _ e;cases e
 .rw[b];intro _ e;cases e
 .exact fun _=>⟨gk,v,D,E.kept o (fun y r a=>by simp[Vl.ownBlock]at r a;omega),u⟩
 .exact fun _=>⟨j,x,A,B.kept o (fun y r a=>by simp[Vl.ownBlock]at r a;omega),t,C⟩
end
theorem DJ.put{b:Wl}{c rest:List Nat}{o:Option Nat}{g:Nat}(h:DJ b c (o.toList++rest))(a:o=some g\/b.heap.size<=g)(d:b.heap.size<=g->g∉rest):DJ b c (g::rest):=by
 rcases a with a|a
 .rw[a]at h;exact h
 .exact(h.sub (List.sublist_append_right _ _)).cons a (d a)
def Wd(w f d:Wl)(W a:Nat)(e:Tr)(v sv sk:Vl)(c:List Nat):Prop:=
 ∃b,AP d e v b/\DJ f c (W::b)/\Chg w d (W::a::(sk.ownBlock.toList++sv.ownBlock.toList))/\(∀y,y∈W::a::(sk.ownBlock.toList++sv.ownBlock.toList)->y∈c)/\W∉a::(sk.ownBlock.toList++sv.ownBlock.toList)
theorem Yu{w m j:Wl}{W k gk E D P O i:Nat}{t x:Tr}{v B uv sv sk:Vl}{bs f C rest:List Nat}{N:List BY}{s:BY}{ks:List BY}{l:List Tr}{d:Nat}{vs:List Vl}{g:List Nat}(G:Hu w W t v uv bs)(J:Ir w t v bs N (.obj ks l) (IR d) C rest)(V:PS w ks l d sv sk vs g)(ab:C=d::(sv.ownBlock.toList++(sk.ownBlock.toList++g)))(u:(W::(f++bs)).Nodup)(M:AP w x B f)(hi:i<=l.length)(aa:Cj s x (.obj ks l)= .obj (ks.insertIdx i s) (l.insertIdx i x))(H:Chg w m [W])(ae:Chg m j (d::(sk.ownBlock.toList++sv.ownBlock.toList)))(X:Ac j d [.slice (some ⟨k,0,none⟩) P E,.slice (some ⟨gk,0,none⟩) O D] 177)(Z:AK j (.slice (some ⟨k,0,none⟩) P E) 95 (vs.insertIdx i B))(Y:AK j (.slice (some ⟨gk,0,none⟩) O D) 9 (Ad (ks.insertIdx i s)))(ai:sv.ownBlock=some k\/m.heap.size<=k)(ah:sk.ownBlock=some gk\/m.heap.size<=gk)(am:gk≠k):
  Wd w m j W d (Bz (Cj s x) t N) v sv sk (W::(f++bs)):=by
 have af:=List.nodup_iff_count.1 u;have L:=J.perm;subst ab;have K:=fun a=>L.count_eq a
 have hz:=H.size;have n:=AP.lt _ _ _ G.at_;have ak:=AP.lt _ _ _ M;have aw:=G.blk.lt;have o:∀y,y∈(d::(sv.ownBlock.toList++(sk.ownBlock.toList++g)))++rest->y∈bs:=fun y b=>L.mem_iff.2 b
 have A:∀y,y∈f++bs->y≠W:=fun y b e=>by subst e;exact(List.nodup_cons.1 u).1 b
 have q:∀y,y∈d::(sk.ownBlock.toList++sv.ownBlock.toList)->y∈bs:=fun y b=>o y (by
  simp only[Qh,Qf]at b|-
  rcases b with h|h|h
  .exact .inl (.inl h)
  .exact .inl (.inr (.inr (.inl h)))
  .exact .inl (.inr (.inl h)))
 have al:((d::(sk.ownBlock.toList++sv.ownBlock.toList))++(g++rest)).Nodup:=by
  rw[List.nodup_iff_count];intro a;have z:=af a;have p:=K a;simp only[List.count_cons,List.count_append]at z p|-;omega
 have ad:∀y,y∈f->y∉bs:=fun y b c=>Cd (List.nodup_cons.1 u).2 b c
 have r:Chg w j (W::d::(sk.ownBlock.toList++sv.ownBlock.toList)):=(H.mono (fun _ _ c=>by simp at c;simp[c])).trans (ae.mono (fun _ _ c=>Qg _ c))
 have I:∀y,y∈g++rest->y∉W::d::(sk.ownBlock.toList++sv.ownBlock.toList):=fun y b c=>by
  rcases Qh.1 c with h|h
  .refine A y (Qd _ (o y ?_)) h
   rcases Qf.1 b with h|h
   .simp only[Qh,Qf];exact .inl (.inr (.inr (.inr h)))
   .exact Qd _ h
  .exact Cd al h b
 have ag:Ca g w j:=r.sameB (fun y b=>n y (o y (by simp only[Qh,Qf];exact .inl (.inr (.inr (.inr b)))))) (fun y b=>I y (Qe _ b));have ap:Ca rest w j:=r.sameB (fun y b=>n y (o y (Qd _ b))) (fun y b=>I y (Qd _ b))
 have ar:AP j x B f:=M.chg r (fun y b c=>by
  rcases Qh.1 b with h|h
  .exact A y (Qe _ c) h
  .exact ad y c (q y h))
 obtain⟨av,hO,an⟩:=V.insert (i:=i) (s:=s) hi ar X Z Y ag;obtain⟨S,k1,k2⟩:=J.back (Cj s x) _ _ (by rw[aa];exact hO.pat) ap;have aj:=fun a=>k2.count_eq a
 have ao:=fun a=>an.count_eq a
 have F:∀y,y∈W::d::(f++(g++rest))->y<w.heap.size:=fun y b=>by
  simp only[Qh,Qf]at b
  rcases b with h|h|h|h|h
  .omega
  .have:=n d (q d (by simp));omega
  .exact ak y h
  .exact n y (o y (by simp only[Qh,Qf];exact .inl (.inr (.inr (.inr h)))))
  .exact n y (o y (Qd _ h))
 have aq:∀y,y∈sk.ownBlock.toList->y<w.heap.size:=fun y b=>n y (q y (by simp only[Qh,Qf];exact .inr (.inl b)))
 have T:DJ m (W::(f++bs)) (sv.ownBlock.toList++(sk.ownBlock.toList++(W::d::(f++(g++rest))))):=(DJ.refl u).count (fun a=>by
  have p:=K a;simp only[List.count_cons,List.count_append]at p|-
  omega)
 have z:=T.put ai (fun au c=>by
  rcases Qf.1 c with h|h
  .have:=aq k h;omega
  .have:=F k h;omega)
 have p:DJ m (W::(f++bs)) (sk.ownBlock.toList++(k::W::d::(f++(g++rest)))):=z.count (fun a=>by simp only[List.count_cons,List.count_append];omega)
 have U:=p.put ah (fun au c=>by
  rcases Qh.1 c with h|h
  .exact am h
  .have:=F gk h;omega)
 refine⟨S,k1,U.count (fun a=> ?_),r,fun y b=> ?_,fun c=>A W (Qd _ (q W c)) rfl⟩
 .have Q:=aj a;have R:=ao a
  simp only[Vl.ownBlock,Option.toList_some,List.count_cons,List.count_append,List.count_nil]at Q R|-;omega
 .rcases Qh.1 b with h|h
  .simp[h]
  .simp[q y h]
theorem SM{t:Tr}{a:List BY}{s:BY}{ks:List BY}{l:List Tr}(c:Ah t a=some (.obj ks l))(b:C4 ks s=false):(Dd t (a++[s])).toI=AC 2 (a++[s]) []:=by
 unfold Dd;rw[Qs (by simp),List.dropLast_concat,BE,c]
 show(GF a s (.obj ks l)).toI=_
 unfold GF;simp only;rw[Qs (by simp[b])];rfl
end
end Go.Proofs.YtkfnkppdhcaeoaaGreatDoor

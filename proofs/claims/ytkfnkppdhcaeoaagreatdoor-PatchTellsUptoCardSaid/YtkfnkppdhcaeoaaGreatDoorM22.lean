/- Part 22 of the proof of coreBase. -/
import Derived.Test.YtkfnkppdhcaeoaaGreatDoorM21
set_option maxRecDepth 100000
set_option maxHeartbeats 32000000
set_option linter.all false
namespace Go.Proofs.YtkfnkppdhcaeoaaGreatDoor
open Go renaming Calls->Cl,Value->Vl,World->Wl
section
open _root_.Go.Proofs.Tryz
open Go Go.Shelf Go.RowKit Go.Lib Tree Ptr
theorem Vc{t:Tr}{a:List BY}{s:BY}{l:List Tr}(b:Ah t a=some (.list l)):EN t (a++[s])=Gg s (.list l):=by rw[Iz,b]
theorem PY{t:Tr}{a:List BY}{s:BY}{l:List Tr}(b:Ah t a=some (.list l)):(Dd t (a++[s])).toI=AC 2 (a++[Eo s (.list l)]) []:=by
 unfold Dd;rw[Qs Zh,List.dropLast_concat,BE,b];rfl
theorem O1(i:Nat)(h:i<10^20):(⟨(Go.Lib.decDigits i).toArray⟩:BY).size<=20:=by
 have:=IX 20 i h;simp only[ByteArray.size,List.size_toArray];omega
theorem VW{w:Wl}{F:Nat->Prop}{g:Vl}{b:List BY}{s:BY}{l:List Tr}{i:Nat}(d:JC w F g (b++[s]))(e:Bt (.list l))(f:Eo s (.list l)=⟨(Go.Lib.decDigits i).toArray⟩)(hi:i<=65536):
  DR (b++[⟨(Go.Lib.decDigits i).toArray⟩])/\∀x∈b++[⟨(Go.Lib.decDigits i).toArray⟩],x.size<=16777216:=by
 have c:=d.ok.spot Zh e;rw[List.dropLast_concat,BE,f]at c;refine⟨c,fun x a=> ?_⟩
 rcases Qf.1 a with a|a
 .exact d.small x (Qe _ a)
 .simp at a;subst a
  have:=O1 i Zj;omega
theorem Tt(W:Nat)(t x:Tr)(v uv vx:Vl)(bs Z:List Nat)(F:Nat->Prop)(a:Option Addr)(c:Nat)(d:List BY)(s:BY)(w:Wl)(l:List Tr)(h:Sx W t x v uv vx bs Z F (.slice a (d.length+1) c) (d++[s]) w)(N:Ah t d=some (.list l)):
  Cl prog 166 #[.pointer (some ⟨W,0,none⟩),.slice a (d.length+1) c,vx] w (Cq W uv (W::(Z++bs)) t x (d++[s]) w):=by
 have am:=Vc (s:=s) N;have ao:d++[s]≠[]:=Zh
 have aj:Ah t (d++[s]).dropLast=some (.list l):=by rw[List.dropLast_concat];exact N
 obtain⟨b,o,rfl,aw,aI,ay,bh,bd,aH⟩:=h.tat.last;have lb:=h.tat.lt b aw;obtain⟨tx,xx,rfl⟩:=h.xat.iface;obtain⟨tv,xv,rfl⟩:=h.wat.at_.iface;obtain⟨vp,bp,rest,M⟩:=EU h.wat.at_ _ d _ rfl N;obtain⟨r,sv,vs,fs,rfl,J,ab⟩:=M.at_.list;have ak:=h.wat.fine.lead N;have aL:l.length<=65536:=by have:=ak.many;simp only[Ab]at this;omega
 have aC:=J.at_.length;have aN:=Ar h.xfine.fits;have aq:=Ar h.wat.fine.fits;have Y:=hZ (Dl h.laid h.wat h.tat.init M);unfold Jn at Y
 have ah:∀f,Chg w f []->Cl prog 200 #[.string s,.int .i64 vs.length] f (Dn s l.length f):=fun f K=>by
  rw[aC];exact YI s l.length f (h.laid.kept K) bd Zj
 have a0:OS prog (.iface 104 (.pointer (some ⟨r,0,none⟩))) 95 175 #[.pointer none,.bool false]:=fun _=>Yb
 have a1:OS prog (.iface 104 (.pointer (some ⟨r,0,none⟩))) 95 104 #[.pointer (some ⟨r,0,none⟩),.bool true]:=fun _=>Yb
 obtain⟨A,B,rfl,_⟩:=J.lst.form;have c1:w.cell? ⟨r,0,none⟩=some (.slice A vs.length B):=J.blk.cell 0;have lW:=h.wat.blk.lt;have aZ:=J.blk.lt
 have a8:r≠W:=fun e=>by
  have n:r∈bs:=M.perm.mem_iff.2 (by rw[ab];simp);have:=h.nodup;rw[e]at n;simp[n]at this
 cases ad:Em s l.length with
 |none=>
  obtain⟨T,m2⟩:=Vn (l:=l) ad;rw[LG (am.trans T) m2];have ae:=hZ ah;rw[RM ad]at ae;obtain⟨m,n⟩:=Ue d.length
  rw[<-n]at Y aI ay aH|-;clear h am ao aj M J ab ak aL aC aN aq ah ad T m2 n N aw;go_enter func166,ntmps166
  go_wp2_with(first
   |(go_at_call 170;refine(Y.o _ (by exact cg cR)).mono ?_;rintro e U ⟨rfl,u⟩;have D:=UD (Chg w U []) (ct cR u);have d1:=D.o.keeps c1;clear u)
   |(go_at_call 200;refine(ae.o _ (by exact cg D.o)).mono ?_;rintro e w2 ⟨z,he⟩;unfold By at he;subst he;have V:=UD (Chg w w2 []) (ct D.o z);clear z))
  exact⟨rfl,rfl,V.o.none _⟩
 |some i=>
  obtain⟨T,m2,m3,m4⟩:=Xy ad x;have ae:=hZ ah;rw[RN ad]at ae;have an:=am.trans T;have az:∀ks l',Tr.list l= .obj ks l'->C4 ks (AH (d++[s]))=false:=fun _ _ e=>by cases e
  obtain⟨q1,q2,q3⟩:=MR (x:=x) h.wat.fine ao aj (by rw[BE];exact T) az;have ap:=Oy (x:=x) h.wat.fine ao aj (by rw[BE];exact T) az;have aK:(d++[s]).length=d.length+1:=Zh
  rw[aK]at ap;unfold NC at q2
  have af:=UD (∀f,Chg w f []->Cl prog 195 #[.pointer (some ⟨W,0,none⟩),.slice (some ⟨b,o,none⟩) (d.length+1) c,.iface tx xx,.nilIface,.int .i64 0] f (Dh W (.iface tv xv) uv (Ag (At t (d++[s]) x)).nodes (Ag (At t (d++[s]) x)).bytes (d.length+1+(Ag x).depth) f)) fun f K=>
   Jl W _ uv _ _ x _ _ Z 0 0 _ _ 0 _ _ c f (h.wat.blk.kept K) (h.xat.chg K Zh) h.xfine.good h.xfine.fits (.inl ⟨rfl,rfl,rfl⟩) aq.1 aq.2.1 Zj ay Zj Zj
  have ai:=PY (s:=s) N;rw[m4]at ai;obtain⟨aA,aB⟩:=VW h.tat ak m4 Zj;obtain⟨E,ax⟩:=Ue (⟨(Go.Lib.decDigits i).toArray⟩:BY)
  rw[<-ax]at ai aA aB;have ar:∀y,y∈(Vl.slice A vs.length B).ownBlock.toList->y∈bs:=fun y k=>M.perm.mem_iff.2 (by rw[ab];simp only[Qh,Qf];exact .inl (.inr (.inl k)))
  have aM:=AP.lt _ _ _ h.wat.at_;have aS:=UD (∀y,y∈(Vl.slice A vs.length B).ownBlock.toList->y<w.heap.size) fun y k=>aM y (ar y k)
  have aG:∀y,y∈(Vl.slice A vs.length B).ownBlock.toList->y≠W:=fun y k e=>by
   have:=ar y k;subst e;have hn:=h.nodup;simp[this]at hn
  have aP:=UD (∀q,Chg w q [W]->Cl prog 199 #[.slice A vs.length B,.int .i64 i,.slice (some ⟨q.heap.size,0,none⟩) 1 1] (q.alloc (.cells #[.iface tx xx] 95)) (E1 (q.alloc (.cells #[.iface tx xx] 95)) (.slice A vs.length B) 95 vs.length (vs.insertIdx i (.iface tx xx)))) fun q hc=>
   N5 _ (.iface tx xx) q.heap.size i vs _ ((J.lst.kept hc (fun y k n=>by simp at n;exact aG y (by rw[k];simp) n)).kept (bs:=[]) ((Chg.refl q []).alloc _) Zh) (Ac.new q _ _) (fun y k e=>by have:=aS.o y (by rw[k];simp);have:=hc.size;omega) rfl J.at_.one Zj Zj
  have aR:=UD (∀q wI R g aa,Chg w q [W]->Chg q wI []->AK R (.slice (some ⟨g,0,none⟩) (vs.length+1) aa) 95 (vs.insertIdx i (.iface tx xx))->Chg wI R (Vl.slice A vs.length B).ownBlock.toList->((Vl.slice A vs.length B).ownBlock=some g\/wI.heap.size<=g)->Wc w q R W r g aa (vs.length+1) (Bz (Cj s x) t d) (.iface tv xv) (.slice A vs.length B) (W::(Z++bs))) fun q wI R g aa H C I k4 k5=>
   Yt h.wat M J ab h.nodup h.xat m2 m3 H C I k4 k5
  have al:∀y,y∈W::r::(Vl.slice A vs.length B).ownBlock.toList->y∈W::(Z++bs):=fun y k=>by
   rcases Qh.1 k with rfl|k
   .simp
   .rcases Qh.1 k with rfl|k
    .have:y∈bs:=M.perm.mem_iff.2 (by rw[ab];simp)
     simp[this]
    .simp[ar y k]
  have aD:=UD (∀f,Chg w f (W::r::(Vl.slice A vs.length B).ownBlock.toList)->Cl prog 42 #[.slice (some ⟨b,o,none⟩) d.length c] f (fun e w'=>∃P Q,e= .returned (.slice P d.length Q)/\AK w' (.slice P d.length Q) 9 (Ad d)/\(∀g,(Vl.slice P d.length Q).ownBlock=some g->f.heap.size<=g)/\Chg f w' [])) fun f K=>by
   have ht:=h.tat.init.kept K (fun y k=>h.apart y (al y k));refine(DL F _ _ f ht.row (Gu d) (by rw[Ao];omega)).mono ?_;rintro e U ⟨sk,rfl,u,z,h3⟩;obtain⟨P,Q,rfl,_⟩:=u.form;rw[Ao]at u z|-;exact⟨P,Q,rfl,u,z,h3⟩
  have aQ:=UD (∀f,Chg w f (W::r::(Vl.slice A vs.length B).ownBlock.toList)->Cl prog 70 #[.int .i64 i] f (fun e w'=>e= .returned (.string E)/\Chg f w' [])) fun f K=>by
   have:=Ri (i:Int) Zj Zj f (h.laid.kept K (fun y k=>h.big y (al y k)));rw[Mc,<-ax]at this;exact this
  have aE:=UD (∀f S ag,Chg w f (W::r::(Vl.slice A vs.length B).ownBlock.toList)->AK f (.slice (some ⟨S,0,none⟩) (d.length+1) ag) 9 (Ad d++[.string E])->Cl prog 196 #[.int .i64 2,.slice (some ⟨S,0,none⟩) (d.length+1) ag,.nilIface] f (Et (AC 2 (d++[E]) []) f)) fun f S ag K h9=>by
   have bc:Ad (d++[E])=Ad d++[.string E]:=by simp[Ad]
   rw[<-bc]at h9;exact ME 2 (fun y=>(Vl.slice (some ⟨S,0,none⟩) (d.length+1) ag).ownBlock=some y) _ (d++[E]) f (h.laid.kept K (fun y k=>h.big y (al y k))) h9.toRow (fun y k=>h9.lt k) aA aB
  have av:=UD ((Ad d).length=d.length) (Ao d);have aJ:(Ag (At t (d++[s]) x)).within=true->Bt (At t (d++[s]) x):=fun O=>h.wat.fine.add h.xfine h.tat.ok an O
  have a6:=hZ (E3 t x d s);have a2:=hZ ai;have HH:=hZ h;by_cases O:(Ag (At t (d++[s]) x)).within=true
  .rw[LS an O]
   rw[En (by rw[ap];exact O)]at af;have a5:=hZ (aJ O);obtain⟨m,n⟩:=Ue d.length
   rw[<-n]at Y af aE aD av aI ay aH|-;clear h am ao aj M J ab ak aL aC aN aq ah ad T m2 m3 m4 n N aw az q1 q2 q3 ap aK ai aA aB ax ar aM aG al aJ O an;go_enter func166,ntmps166
   go_wp2_with(first
   |(go_at_call 170;refine(Y.o _ (by exact cg cR)).mono ?_;rintro e U ⟨rfl,u⟩;have D:=UD (Chg w U []) (ct cR u);have B1:=UD (Ac U w.heap.size Ef 42) ((Ac.new w Ef 42).kept u);have d1:=D.o.keeps c1;clear u)
   |(go_at_call 200;refine(ae.o _ (by exact cg D.o)).mono ?_;rintro e w2 ⟨z,rfl⟩;have V:=UD (Chg w w2 []) (ct D.o z);have B2:=UD (Ac w2 w.heap.size Ef 42) (B1.o.kept z);clear z)
   |(go_at_call 195;refine(af.o _ (by exact cg V.o)).mono ?_;rintro e q ⟨rfl,h3,h4⟩;have a4:=hZ h3;have X:=UD (Chg w q [W]) (ct ((V.o.none [W])) h4);have B3:=UD (Ac q w.heap.size Ef 42) (B2.o.kept h4 (by simp;omega));have e1:=(X.o.cell (p:=⟨r,0,none⟩) aZ (by simpa using a8)).trans c1;have bk:=Q6 aZ X.o.size;clear h3 h4)
   |(go_at_call 199;refine(aP.o q X.o).mono ?_;rintro e R ⟨g,aa,rfl,H,C,I⟩;obtain⟨aT,s1,s2,s3,s4,s5,s6,s7,s8⟩:=aR.o q (q.alloc (.cells #[.iface tx xx] 95)) R g aa X.o (by exact cg cR) H C I;have S1:=hZ s1;have S2:=hZ s2;have S3:=hZ s3;have S4:=hZ s4;have S5:=hZ s5;have S6:=hZ s6;have S7:=hZ s7;have S8:=hZ s8;have e2:=s3.cell 0;have f2:∀j,R.frozen? ⟨r,j,none⟩=false:=fun j=>s3.frozen j;have bl:=s3.lt;simp only[Qa]at e2;have B5:=UD (Ac (R.setCell ⟨r,0,none⟩ (.slice (some ⟨g,0,none⟩) (vs.length+1) aa)) w.heap.size Ef 42) (((B3.o.alloc _).kept C (fun n=>by have:=aS.o _ n;omega)).set_other _ _ (by simp only;omega));have C5:=hZ C;clear H C I s1 s2 s3 s4 s5 s6 s7 s8)
   |(go_at_call 42;refine(aD.o _ (by exact S5.o)).mono ?_;rintro e w7 ⟨P,Q,rfl,H,C,I⟩;have L7:=hZ H;have N7:=hZ C;have H7:=hZ I;clear H C I)
   |(go_at_call 70;refine(aQ.o _ (by exact(S5.o.trans (H7.o.none _)))).mono ?_;rintro e w8 ⟨rfl,I⟩;have H8:=hZ (H7.o.trans I);have L8:=hZ (L7.o.kept I);clear I)
   |(refine AM rfl _ _ _ rfl 9 Ho 16 underlying27 Cf rfl (.slice P m Q) (Ad d) ZN (by exact L8.o.kept (bs:=[]) (by exact cg cR) Zh) w8.heap.size (.string E) ZN (by exact Bx rfl _ _) rfl (by rw[av.o];omega) (by rw[av.o];omega) ?_;rw[av.o];intro S ag w9 aX aV aW;have L9:=hZ aX;have C9:=UD (Chg w8 w9 (Vl.slice P m Q).ownBlock.toList) ((((Chg.refl w8 []).alloc _).none _).trans aV);have G9:=UD ((Vl.slice P m Q).ownBlock=some S\/w8.heap.size<=S) (aW.imp id (fun h=>by rw[World.size_alloc]at h;omega));have H9:=UD (Chg (R.setCell ⟨r,0,none⟩ (.slice (some ⟨g,0,none⟩) (vs.length+1) aa)) w9 []) (H8.o.fresh C9.o (fun y k=>N7.o y (by simpa using k)));clear aX aV aW)
   |(go_at_call 196;refine(aE.o w9 S ag (by exact S5.o.trans (H9.o.none _)) L9.o).mono ?_;rintro e bf h5;obtain⟨bm,ys,G,rfl,H,C⟩:=h5.at;have K1:=hZ H;have K2:=hZ C;obtain⟨sa,sc,rfl,_⟩:=H.row.form;clear h5 H C)
   |(refine Ae rfl _ _ _ rfl w.heap.size (BJ (AC 2 (d++[E]) []) (.slice sa (AC 2 (d++[E]) []).steps.length sc)) ZN ZN 42 Ef (by exact B5.o.kept (H9.o.trans K2.o)) A0 rfl (Dx _ _ _ _) ?_;intro bg aO aU aY;have a3:=hZ aU;have au:=hZ aY;clear aO aU aY))
   have be:=X.o.size;have aF:=H9.o.trans K2.o;have aO:w.heap.size<w9.heap.size:=by have:=(B5.o.kept H9.o).lt;exact this
   have a9:Chg w bf (W::(Z++bs)):=(S5.o.mono (fun y _ n=>S6.o y n)).trans (aF.none _);have a7:Chg w bg (W::(Z++bs)):=a9.step au.o (fun i hi N=>by simp at hi;omega);have hk:=K1.o.kept (w0:=w) au.o (fun b L=>by simp at L;subst L;exact aO) Zj;have ba:=AP.lt _ _ _ S1.o;have bi:=H9.o.size;refine bodyPost_ret (Bi rfl _ _ w.heap.size 42 (BJ (AC 2 (d++[E]) []) (.slice sa (AC 2 (d++[E]) []).steps.length sc)) _ rfl a3.o underlying42 rfl A0) rfl ?_;rw[a2.o]
   have bb:w.heap.size∉aT:=fun n=>by
    rcases S2.o.come _ (Qg _ n)with h|h
    .rcases Qh.1 h with h|h
     .omega
     .rcases Qf.1 h with h|h
      .have:=AP.lt _ _ _ HH.o.xat _ h;omega
      .have:=AP.lt _ _ _ HH.o.wat.at_ _ h;omega
    .have:=B3.o.lt;omega
   have bj:W<w9.heap.size:=Zj
   refine⟨.iface tv xv,aT,_,ys,G,rfl,hk,⟨?_, ?_,a5.o⟩,S2.o.back be,a7,fun b L hG=> ?_⟩
   .exact(((((a4.o.alloc _).kept C5.o S8.o).set_other _ _ (by simp only;exact fun e=>S7.o e.symm)).kept aF).kept au.o (by simp;omega))
   .rw[a6.o]
    exact(S1.o.chg aF Zh).chg au.o (fun b L n=>by simp at L;subst L;exact bb n)
   .have u:=(K1.o.new b hG).1
    rcases Qh.1 L with rfl|L
    .omega
    .have:=ba b L;omega
  .rw[Hv an (by simpa using O)]
   rw[DO (by rw[ap];simpa using O)]at af;obtain⟨m,n⟩:=Ue d.length
   rw[<-n]at Y af aI ay aH|-;clear h am ao aj M J ab ak aL aC aN aq ah ad T m2 m3 m4 n N aw az q1 q2 q3 ap aK ai aA aB ax ar aM aG al aJ O an aP aR aE aD aQ;go_enter func166,ntmps166
   go_wp2_with(first
   |(go_at_call 170;refine(Y.o _ (by exact cg cR)).mono ?_;rintro e U ⟨rfl,u⟩;have D:=UD (Chg w U []) (ct cR u);have B1:=UD (Ac U w.heap.size Ef 42) ((Ac.new w Ef 42).kept u);have d1:=D.o.keeps c1;clear u)
   |(go_at_call 200;refine(ae.o _ (by exact cg D.o)).mono ?_;rintro e w2 ⟨z,rfl⟩;have V:=UD (Chg w w2 []) (ct D.o z);have B2:=UD (Ac w2 w.heap.size Ef 42) (B1.o.kept z);clear z)
   |(go_at_call 195;refine(af.o _ (by exact cg V.o)).mono ?_;rintro e q ⟨he,h4⟩;unfold By at he;subst he;have X:=UD (Chg w q []) (ct V.o h4);clear h4))
   exact⟨rfl,rfl,X.o.none _⟩
end
section
open Go Go.Shelf Go.RowKit Go.Lib Tree Ptr
def Ee(a i:Nat)(s:BY)(b sv sk:Vl)(j:Nat)(v:Vl):Prop:=
 match j with
 |0=>v= .pointer (some ⟨a,0,none⟩)
 |1=>v= .pointer (some ⟨a,0,none⟩)
 |2=>v= .pointer (some ⟨a,0,none⟩)
 |3=>v= .pointer (some ⟨a,0,none⟩)
 |10=>v= .pointer (some ⟨a,0,none⟩)
 |11=>v= .pointer (some ⟨a,0,none⟩)
 |12=>v= .pointer (some ⟨a,0,none⟩)
 |13=>v= .pointer (some ⟨a,0,none⟩)
 |19=>v= .pointer (some ⟨a,0,none⟩)
 |22=>v= .pointer (some ⟨a,0,none⟩)
 |23=>v= .pointer (some ⟨a,0,none⟩)
 |24=>v= .pointer (some ⟨a,0,none⟩)
 |4=>v= .pointer (some ⟨a,1,none⟩)
 |20=>v= .pointer (some ⟨a,1,none⟩)
 |5=>v=sk
 |14=>v=sv
 |6=>v= .int .i64 i
 |15=>v= .int .i64 i
 |7=>v= .string s
 |16=>v=b
 |_=>True
structure Lo(w0:Wl)(b' i:Nat)(s:BY)(vx sv sk:Vl)(ks:List BY)(vs:List Vl)(d:Nat->Bool)(f:Nat->Vl)(w:Wl):Prop where
 chg:Chg w0 w (b'::(sk.ownBlock.toList++sv.ownBlock.toList))
 vals:∀j,d j=true->Ee b' i s vx sv sk j (f j)
 o9:d 9=true->d 5=true
 o18:d 18=true->d 9=true/\d 14=true
 o21:d 21=true->d 18=true
 o25:d 25=true->d 21=true
 blk0:d 21=false->Ac w b' [sv,sk] 177
 blk1:d 21=true->d 25=false->Ac w b' [sv,f 9] 177
 blk2:d 25=true->Ac w b' [f 18,f 9] 177
 keys0:d 9=false->AK w sk 9 (Ad ks)
 items0:d 18=false->AK w sv 95 vs
 r8:d 8=true->d 9=false->∃B,f 8= .slice (some ⟨B,0,none⟩) 1 1/\Ac w B [.string s] 9/\w0.heap.size<=B
 r17:d 17=true->d 18=false->∃B,f 17= .slice (some ⟨B,0,none⟩) 1 1/\Ac w B [vx] 95/\w0.heap.size<=B
 r9:d 9=true->∃g cap,f 9= .slice (some ⟨g,0,none⟩) (ks.length+1) cap/\AK w (.slice (some ⟨g,0,none⟩) (ks.length+1) cap) 9 (Ad (ks.insertIdx i s))/\(sk.ownBlock=some g\/w0.heap.size<=g)
 r18:d 18=true->∃g cap,f 18= .slice (some ⟨g,0,none⟩) (vs.length+1) cap/\AK w (.slice (some ⟨g,0,none⟩) (vs.length+1) cap) 95 (vs.insertIdx i vx)/\(sv.ownBlock=some g\/w0.heap.size<=g)/\(f 9).ownBlock≠some g
structure Nh(w0:Wl)(b':Nat)(sv sk:Vl):Prop where
 lb:b'<w0.heap.size
 lk:∀g,sk.ownBlock=some g->g<w0.heap.size/\g≠b'/\sv.ownBlock≠some g
 lv:∀g,sv.ownBlock=some g->g<w0.heap.size/\g≠b'
section
variable {w0:Wl} {b' i:Nat} {s:BY} {vx sv sk:Vl} {ks:List BY} {vs:List Vl} {d:Nat->Bool} {f:Nat->Vl} {w w':Wl}
theorem Lo.vals'{j:Nat}{v:Vl}(h:Lo w0 b' i s vx sv sk ks vs d f w)(b:Ee b' i s vx sv sk j v):∀k,BA d j k=true->Ee b' i s vx sv sk k (Eb f j v k):=fun k a=>by
 by_cases e:k=j
 .subst e;rw[Bf];exact b
 .rw[AA f v e];rw[An d e]at a;exact h.vals k a
theorem Lo.plain{j:Nat}{v:Vl}(h:Lo w0 b' i s vx sv sk ks vs d f w)(q:8≠j)(r:9≠j)(o:17≠j)(p:18≠j)(x:21≠j)(y:25≠j)(u:Ee b' i s vx sv sk j v)(a:Chg w w' []):Lo w0 b' i s vx sv sk ks vs (BA d j) (Eb f j v) w':=by
 have up:∀k,d k=true->BA d j k=true:=fun k t=>by unfold BA;split;rfl;exact t
 refine⟨h.chg.trans (a.none _),h.vals' u, ?_, ?_, ?_, ?_, ?_, ?_, ?_, ?_, ?_, ?_, ?_, ?_, ?_⟩<;>simp only[An d q,An d r,An d o,An d p,An d x,An d y,AA f v q,AA f v r,AA f v o,AA f v p]
 .exact fun e=>up 5 (h.o9 e)
 .exact fun e=>⟨(h.o18 e).1,up 14 (h.o18 e).2⟩
 .exact h.o21
 .exact h.o25
 .exact fun e=>(h.blk0 e).kept a
 .exact fun e n=>(h.blk1 e n).kept a
 .exact fun e=>(h.blk2 e).kept a
 .exact fun e=>(h.keys0 e).kept a
 .exact fun e=>(h.items0 e).kept a
 .exact fun e n=>by obtain⟨B,b,l,m⟩:=h.r8 e n;exact⟨B,b,l.kept a,m⟩
 .exact fun e n=>by obtain⟨B,b,l,m⟩:=h.r17 e n;exact⟨B,b,l.kept a,m⟩
 .exact fun e=>by obtain⟨g,c,b,l,m⟩:=h.r9 e;exact⟨g,c,b,l.kept a,m⟩
 .exact fun e=>by obtain⟨g,c,b,l,m⟩:=h.r18 e;exact⟨g,c,b,l.kept a,m⟩
theorem Lo.new8(h:Lo w0 b' i s vx sv sk ks vs d f w):Lo w0 b' i s vx sv sk ks vs (BA d 8) (Eb f 8 (.slice (some ⟨w.heap.size,0,none⟩) 1 1)) (w.alloc (.cells #[.string s] 9)):=by
 have a:Chg w (w.alloc (.cells #[.string s] 9)) []:=(Chg.refl w []).alloc _;have n:∀k,k≠8->BA d 8 k=d k:=fun k p=>An d p
 have m:∀k,k≠8->Eb f 8 (.slice (some ⟨w.heap.size,0,none⟩) 1 1) k=f k:=fun k p=>AA f _ p
 refine⟨h.chg.trans (a.none _),h.vals' (by simp[Ee]), ?_, ?_, ?_, ?_, ?_, ?_, ?_, ?_, ?_, ?_, ?_, ?_, ?_⟩<;>simp only[n 5 ZM,n 9 ZM,n 14 ZM,n 17 ZM,n 18 ZM,n 21 ZM,n 25 ZM,m 9 ZM,m 17 ZM,m 18 ZM]
 .exact h.o9
 .exact h.o18
 .exact h.o21
 .exact h.o25
 .exact fun e=>(h.blk0 e).kept a
 .exact fun e o=>(h.blk1 e o).kept a
 .exact fun e=>(h.blk2 e).kept a
 .exact fun e=>(h.keys0 e).kept a
 .exact fun e=>(h.items0 e).kept a
 .exact fun _ _=>⟨w.heap.size,Bf _ _ _,Ac.new w [.string s] _,h.chg.size⟩
 .exact fun e o=>by obtain⟨B,b,j,l⟩:=h.r17 e o;exact⟨B,b,j.kept a,l⟩
 .exact fun e=>by obtain⟨g,c,b,j,l⟩:=h.r9 e;exact⟨g,c,b,j.kept a,l⟩
 .exact fun e=>by obtain⟨g,c,b,j,l⟩:=h.r18 e;exact⟨g,c,b,j.kept a,l⟩
theorem Lo.new17(h:Lo w0 b' i s vx sv sk ks vs d f w):Lo w0 b' i s vx sv sk ks vs (BA d 17) (Eb f 17 (.slice (some ⟨w.heap.size,0,none⟩) 1 1)) (w.alloc (.cells #[vx] 95)):=by
 have a:Chg w (w.alloc (.cells #[vx] 95)) []:=(Chg.refl w []).alloc _;have n:∀k,k≠17->BA d 17 k=d k:=fun k p=>An d p
 have m:∀k,k≠17->Eb f 17 (.slice (some ⟨w.heap.size,0,none⟩) 1 1) k=f k:=fun k p=>AA f _ p
 refine⟨h.chg.trans (a.none _),h.vals' (by simp[Ee]), ?_, ?_, ?_, ?_, ?_, ?_, ?_, ?_, ?_, ?_, ?_, ?_, ?_⟩<;>simp only[n 5 ZM,n 8 ZM,n 9 ZM,n 14 ZM,n 18 ZM,n 21 ZM,n 25 ZM,m 9 ZM,m 8 ZM,m 18 ZM]
 .exact h.o9
 .exact h.o18
 .exact h.o21
 .exact h.o25
 .exact fun e=>(h.blk0 e).kept a
 .exact fun e o=>(h.blk1 e o).kept a
 .exact fun e=>(h.blk2 e).kept a
 .exact fun e=>(h.keys0 e).kept a
 .exact fun e=>(h.items0 e).kept a
 .exact fun e o=>by obtain⟨B,b,j,l⟩:=h.r8 e o;exact⟨B,b,j.kept a,l⟩
 .exact fun _ _=>⟨w.heap.size,Bf _ _ _,Ac.new w [vx] _,h.chg.size⟩
 .exact fun e=>by obtain⟨g,c,b,j,l⟩:=h.r9 e;exact⟨g,c,b,j.kept a,l⟩
 .exact fun e=>by obtain⟨g,c,b,j,l⟩:=h.r18 e;exact⟨g,c,b,j.kept a,l⟩
theorem Lo.call9{g b:Nat}(o:Nh w0 b' sv sk)(h:Lo w0 b' i s vx sv sk ks vs d f w)(q:d 9=false)(z:d 5=true)(D:AK w' (.slice (some ⟨g,0,none⟩) (ks.length+1) b) 9 (Ad (ks.insertIdx i s)))(j:Chg w w' sk.ownBlock.toList)(E:sk.ownBlock=some g\/w.heap.size<=g):
  Lo w0 b' i s vx sv sk ks vs (BA d 9) (Eb f 9 (.slice (some ⟨g,0,none⟩) (ks.length+1) b)) w':=by
 have n:∀k,k≠9->BA d 9 k=d k:=fun k p=>An d p
 have m:∀k,k≠9->Eb f 9 (.slice (some ⟨g,0,none⟩) (ks.length+1) b) k=f k:=fun k p=>AA f _ p
 have c:d 18=false:=by cases e:d 18 with
  |false=>rfl
  |true=>rw[(h.o18 e).1]at q;cases q
 have l:d 21=false:=by cases e:d 21 with
  |false=>rfl
  |true=>rw[h.o21 e]at c;cases c
 have x:d 25=false:=by cases e:d 25 with
  |false=>rfl
  |true=>rw[h.o25 e]at l;cases l
 have A:b'∉sk.ownBlock.toList:=fun a=>(o.lk b' (by simpa using a)).2.1 rfl
 refine⟨h.chg.trans (j.mono fun _ _ a=>Qg _ (Qe _ a)),h.vals' (by simp[Ee]), ?_, ?_, ?_, ?_, ?_, ?_, ?_, ?_, ?_, ?_, ?_, ?_, ?_⟩<;>simp only[n 5 ZM,n 8 ZM,n 14 ZM,n 17 ZM,n 18 ZM,n 21 ZM,n 25 ZM,m 8 ZM,m 17 ZM,m 18 ZM,BG,Bf]
 .exact fun _=>z
 .rw[c];intro e;cases e
 .exact h.o21
 .exact h.o25
 .exact fun e=>(h.blk0 e).kept j A
 .rw[l];intro e;cases e
 .rw[x];intro e;cases e
 .intro e;cases e
 .exact fun e=>(h.items0 e).kept j (fun y C a=>(o.lk y (by simpa using a)).2.2 C)
 .intro _ e;cases e
 .exact fun e v=>by
   obtain⟨B,r,t,u⟩:=h.r17 e v;exact⟨B,r,t.kept j (fun a=>by have:=(o.lk B (by simpa using a)).1;omega),u⟩
 .exact fun _=>⟨g,b,rfl,D,E.imp id fun e=>Q7 h.chg.size e⟩
 .rw[c];intro e;cases e
theorem Lo.call18{g j:Nat}(q:Nh w0 b' sv sk)(h:Lo w0 b' i s vx sv sk ks vs d f w)(t:d 18=false)(l:d 9=true)(C:d 14=true)(E:AK w' (.slice (some ⟨g,0,none⟩) (vs.length+1) j) 95 (vs.insertIdx i vx))(p:Chg w w' sv.ownBlock.toList)(b:sv.ownBlock=some g\/w.heap.size<=g):
  Lo w0 b' i s vx sv sk ks vs (BA d 18) (Eb f 18 (.slice (some ⟨g,0,none⟩) (vs.length+1) j)) w':=by
 have n:∀k,k≠18->BA d 18 k=d k:=fun k r=>An d r
 have m:∀k,k≠18->Eb f 18 (.slice (some ⟨g,0,none⟩) (vs.length+1) j) k=f k:=fun k r=>AA f _ r
 have o:d 21=false:=by cases e:d 21 with
  |false=>rfl
  |true=>rw[h.o21 e]at t;cases t
 have B:d 25=false:=by cases e:d 25 with
  |false=>rfl
  |true=>rw[h.o25 e]at o;cases o
 have D:b'∉sv.ownBlock.toList:=fun a=>(q.lv b' (by simpa using a)).2 rfl
 obtain⟨gk,A,x,z,c⟩:=h.r9 l
 have u:gk∉sv.ownBlock.toList:=fun a=>by
  have a:sv.ownBlock=some gk:=by simpa using a
  rcases c with c|c
  .exact(q.lk gk c).2.2 a
  .have:=(q.lv gk a).1;omega
 have F:gk<w.heap.size:=z.lt rfl;refine⟨h.chg.trans (p.mono fun _ _ a=>Qg _ (Qd _ a)),h.vals' (by simp[Ee]), ?_, ?_, ?_, ?_, ?_, ?_, ?_, ?_, ?_, ?_, ?_, ?_, ?_⟩<;>simp only[n 5 ZM,n 8 ZM,n 9 ZM,n 14 ZM,n 17 ZM,n 21 ZM,n 25 ZM,m 8 ZM,m 9 ZM,m 17 ZM,BG,Bf]
 .exact h.o9
 .exact fun _=>⟨l,C⟩
 .exact fun _=>trivial
 .exact h.o25
 .exact fun e=>(h.blk0 e).kept p D
 .rw[o];intro e;cases e
 .rw[B];intro e;cases e
 .rw[l];intro e;cases e
 .intro e;cases e
 .rw[l];intro _ e;cases e
 .intro _ e;cases e
 .exact fun _=>⟨gk,A,x,z.kept p (fun y v a=>by simp[Vl.ownBlock]at v;subst v;exact u a),c⟩
 .refine fun _=>⟨g,j,rfl,E,b.imp id fun e=>Q7 h.chg.size e, ?_⟩
  rw[x];simp only[Vl.ownBlock,ne_eq,Option.some.injEq];intro e;subst e
  rcases b with b|b
  .exact u (by simp[b])
  .omega
theorem Lo.store21(h:Lo w0 b' i s vx sv sk ks vs d f w)(c:Nh w0 b' sv sk)(j:d 21=false)(b:d 18=true):Lo w0 b' i s vx sv sk ks vs (BA d 21) (Eb f 21 undef) (w.setCell ⟨b',1,none⟩ (f 9)):=by
 have n:∀k,k≠21->BA d 21 k=d k:=fun k p=>An d p
 have m:∀k,k≠21->Eb f 21 undef k=f k:=fun k p=>AA f _ p
 have z:d 25=false:=by cases e:d 25 with
  |false=>rfl
  |true=>rw[h.o25 e]at j;cases j
 have l:=(h.o18 b).1;have o:Chg w (w.setCell ⟨b',1,none⟩ (f 9)) [b']:=(Chg.refl w [b']).setCell _ _ Zh;obtain⟨gk,v,D,E,u⟩:=h.r9 l;obtain⟨g,x,A,B,t,C⟩:=h.r18 b
 have F:gk≠b':=by
  rcases u with q|q
  .exact(c.lk gk q).2.1
  .have:=c.lb;omega
 have G:g≠b':=by
  rcases t with q|q
  .exact(c.lv g q).2
  .have:=c.lb;omega
 refine⟨h.chg.trans (o.mono fun _ _ a=>by simp at a;simp[a]),h.vals' (by simp[Ee]), ?_, ?_, ?_, ?_, ?_, ?_, ?_, ?_, ?_, ?_, ?_, ?_, ?_⟩<;>simp only[n 5 ZM,n 8 ZM,n 9 ZM,n 14 ZM,n 17 ZM,n 18 ZM,n 25 ZM,m 8 ZM,m 9 ZM,m 17 ZM,m 18 ZM,BG]
 .exact h.o9
 .exact h.o18
 .exact fun _=>b
 .exact fun _=>trivial
 .intro e;cases e
 .exact fun _ _=>(h.blk0 j).set 1 (f 9)
 .rw[z];intro e;cases e
 .rw[l];intro e;cases e
 .rw[b];intro e;cases e
 .rw[l];intro _ e;cases e
 .rw[b];intro _ e;cases e
 .exact fun _=>⟨gk,v,D,E.kept o (fun y r a=>by simp[Vl.ownBlock]at r a;omega),u⟩
 .exact fun _=>⟨g,x,A,B.kept o (fun y r a=>by simp[Vl.ownBlock]at r a;omega),t,C⟩
theorem Lo.store25(h:Lo w0 b' i s vx sv sk ks vs d f w)(g:Nh w0 b' sv sk)(z:d 25=false)(c:d 21=true):Lo w0 b' i s vx sv sk ks vs (BA d 25) (Eb f 25 undef) (w.setCell ⟨b',0,none⟩ (f 18)):=by
 have n:∀k,k≠25->BA d 25 k=d k:=fun k p=>An d p
 have m:∀k,k≠25->Eb f 25 undef k=f k:=fun k p=>AA f _ p
 have b:=h.o21 c;have l:=(h.o18 b).1;have o:Chg w (w.setCell ⟨b',0,none⟩ (f 18)) [b']:=(Chg.refl w [b']).setCell _ _ Zh;obtain⟨gk,v,D,E,u⟩:=h.r9 l;obtain⟨j,x,A,B,t,C⟩:=h.r18 b
 have F:gk≠b':=by
  rcases u with q|q
  .exact(g.lk gk q).2.1
  .have:=g.lb;omega
 have G:j≠b':=by
  rcases t with q|q
  .exact(g.lv j q).2
  .have:=g.lb;omega
 refine⟨h.chg.trans (o.mono fun _ _ a=>by simp at a;simp[a]),h.vals' (by simp[Ee]), ?_, ?_, ?_, ?_, ?_, ?_, ?_, ?_, ?_, ?_, ?_, ?_, ?_⟩<;>simp only[n 5 ZM,n 8 ZM,n 9 ZM,n 14 ZM,n 17 ZM,n 18 ZM,n 21 ZM,m 8 ZM,m 9 ZM,m 17 ZM,m 18 ZM,BG]
 .exact h.o9
 .exact h.o18
 .exact h.o21
 .exact fun _=>c
 .rw[c];intro e;cases e
 .intro _ e;cases e
 .exact fun _=>(h.blk1 c z).set 0 (f 18)
 .rw[l];intro e;cases e
 .rw[b];intro e;cases e
 .rw[l];intro _ e;cases e
 .rw[b];intro _ e;cases e
 .exact fun _=>⟨gk,v,D,E.kept o (fun y r a=>by simp[Vl.ownBlock]at r a;omega),u⟩
 .exact fun _=>⟨j,x,A,B.kept o (fun y r a=>by simp[Vl.ownBlock]at r a;omega),t,C⟩
end
theorem DJ.put{b:Wl}{c rest:List Nat}{o:Option Nat}{g:Nat}(h:DJ b c (o.toList++rest))(a:o=some g\/b.heap.size<=g)(d:b.heap.size<=g->g∉rest):DJ b c (g::rest):=by
 rcases a with a|a
 .rw[a]at h;exact h
 .exact(h.sub (List.sublist_append_right _ _)).cons a (d a)
def Wd(w f d:Wl)(W a:Nat)(e:Tr)(v sv sk:Vl)(c:List Nat):Prop:=
 ∃b,AP d e v b/\DJ f c (W::b)/\Chg w d (W::a::(sk.ownBlock.toList++sv.ownBlock.toList))/\(∀y,y∈W::a::(sk.ownBlock.toList++sv.ownBlock.toList)->y∈c)/\W∉a::(sk.ownBlock.toList++sv.ownBlock.toList)
theorem Yu{w m j:Wl}{W k gk E D P O i:Nat}{t x:Tr}{v B uv sv sk:Vl}{bs f C rest:List Nat}{N:List BY}{s:BY}{ks:List BY}{l:List Tr}{d:Nat}{vs:List Vl}{g:List Nat}(G:Hu w W t v uv bs)(J:Ir w t v bs N (.obj ks l) (IR d) C rest)(V:PS w ks l d sv sk vs g)(ab:C=d::(sv.ownBlock.toList++(sk.ownBlock.toList++g)))(u:(W::(f++bs)).Nodup)(M:AP w x B f)(hi:i<=l.length)(aa:Cj s x (.obj ks l)= .obj (ks.insertIdx i s) (l.insertIdx i x))(H:Chg w m [W])(ae:Chg m j (d::(sk.ownBlock.toList++sv.ownBlock.toList)))(X:Ac j d [.slice (some ⟨k,0,none⟩) P E,.slice (some ⟨gk,0,none⟩) O D] 177)(Z:AK j (.slice (some ⟨k,0,none⟩) P E) 95 (vs.insertIdx i B))(Y:AK j (.slice (some ⟨gk,0,none⟩) O D) 9 (Ad (ks.insertIdx i s)))(ai:sv.ownBlock=some k\/m.heap.size<=k)(ah:sk.ownBlock=some gk\/m.heap.size<=gk)(am:gk≠k):
  Wd w m j W d (Bz (Cj s x) t N) v sv sk (W::(f++bs)):=by
 have af:=List.nodup_iff_count.1 u;have L:=J.perm;subst ab;have K:=fun a=>L.count_eq a
 have hz:=H.size;have n:=AP.lt _ _ _ G.at_;have ak:=AP.lt _ _ _ M;have aw:=G.blk.lt;have o:∀y,y∈(d::(sv.ownBlock.toList++(sk.ownBlock.toList++g)))++rest->y∈bs:=fun y b=>L.mem_iff.2 b
 have A:∀y,y∈f++bs->y≠W:=fun y b e=>by subst e;exact(List.nodup_cons.1 u).1 b
 have q:∀y,y∈d::(sk.ownBlock.toList++sv.ownBlock.toList)->y∈bs:=fun y b=>o y (by
  simp only[Qh,Qf]at b|-
  rcases b with h|h|h
  .exact .inl (.inl h)
  .exact .inl (.inr (.inr (.inl h)))
  .exact .inl (.inr (.inl h)))
 have al:((d::(sk.ownBlock.toList++sv.ownBlock.toList))++(g++rest)).Nodup:=by
  rw[List.nodup_iff_count];intro a;have z:=af a;have p:=K a;simp only[List.count_cons,List.count_append]at z p|-;omega
 have ad:∀y,y∈f->y∉bs:=fun y b c=>Cd (List.nodup_cons.1 u).2 b c
 have r:Chg w j (W::d::(sk.ownBlock.toList++sv.ownBlock.toList)):=(H.mono (fun _ _ c=>by simp at c;simp[c])).trans (ae.mono (fun _ _ c=>Qg _ c))
 have I:∀y,y∈g++rest->y∉W::d::(sk.ownBlock.toList++sv.ownBlock.toList):=fun y b c=>by
  rcases Qh.1 c with h|h
  .refine A y (Qd _ (o y ?_)) h
   rcases Qf.1 b with h|h
   .simp only[Qh,Qf];exact .inl (.inr (.inr (.inr h)))
   .exact Qd _ h
  .exact Cd al h b
 have ag:Ca g w j:=r.sameB (fun y b=>n y (o y (by simp only[Qh,Qf];exact .inl (.inr (.inr (.inr b)))))) (fun y b=>I y (Qe _ b));have ap:Ca rest w j:=r.sameB (fun y b=>n y (o y (Qd _ b))) (fun y b=>I y (Qd _ b))
 have ar:AP j x B f:=M.chg r (fun y b c=>by
  rcases Qh.1 b with h|h
  .exact A y (Qe _ c) h
  .exact ad y c (q y h))
 obtain⟨av,hO,an⟩:=V.insert (i:=i) (s:=s) hi ar X Z Y ag;obtain⟨S,k1,k2⟩:=J.back (Cj s x) _ _ (by rw[aa];exact hO.pat) ap;have aj:=fun a=>k2.count_eq a
 have ao:=fun a=>an.count_eq a
 have F:∀y,y∈W::d::(f++(g++rest))->y<w.heap.size:=fun y b=>by
  simp only[Qh,Qf]at b
  rcases b with h|h|h|h|h
  .omega
  .have:=n d (q d Zh);omega
  .exact ak y h
  .exact n y (o y (by simp only[Qh,Qf];exact .inl (.inr (.inr (.inr h)))))
  .exact n y (o y (Qd _ h))
 have aq:∀y,y∈sk.ownBlock.toList->y<w.heap.size:=fun y b=>n y (q y (by simp only[Qh,Qf];exact .inr (.inl b)))
 have T:DJ m (W::(f++bs)) (sv.ownBlock.toList++(sk.ownBlock.toList++(W::d::(f++(g++rest))))):=(DJ.refl u).count (fun a=>by
  have p:=K a;simp only[List.count_cons,List.count_append]at p|-
  omega)
 have z:=T.put ai (fun au c=>by
  rcases Qf.1 c with h|h
  .have:=aq k h;omega
  .have:=F k h;omega)
 have p:DJ m (W::(f++bs)) (sk.ownBlock.toList++(k::W::d::(f++(g++rest)))):=z.count (fun a=>by simp only[List.count_cons,List.count_append];omega)
 have U:=p.put ah (fun au c=>by
  rcases Qh.1 c with h|h
  .exact am h
  .have:=F gk h;omega)
 refine⟨S,k1,U.count (fun a=> ?_),r,fun y b=> ?_,fun c=>A W (Qd _ (q W c)) rfl⟩
 .have Q:=aj a;have R:=ao a
  simp only[Vl.ownBlock,Option.toList_some,List.count_cons,List.count_append,List.count_nil]at Q R|-;omega
 .rcases Qh.1 b with h|h
  .simp[h]
  .simp[q y h]
theorem SM{t:Tr}{a:List BY}{s:BY}{ks:List BY}{l:List Tr}(c:Ah t a=some (.obj ks l))(b:C4 ks s=false):(Dd t (a++[s])).toI=AC 2 (a++[s]) []:=by
 unfold Dd;rw[Qs Zh,List.dropLast_concat,BE,c]
 show(GF a s (.obj ks l)).toI=_
 unfold GF;simp only;rw[Qs (by simp[b])];rfl
end
section
open _root_.Go.Proofs.Tryz
open Go Go.Shelf Go.RowKit Go.Lib Tree Ptr
theorem XS(ks:List BY)(i:Nat)(s:BY)(hi:i<=ks.length):(Ad ks).insertIdx i (.string s)=Ad (ks.insertIdx i s):=by
 rw[AQ _ i (by rw[Ao];exact hi),AQ ks i hi];simp[Ad]
theorem Vj(W:Nat)(t x:Tr)(v uv vx:Vl)(bs Y:List Nat)(F:Nat->Prop)(a:Option Addr)(c:Nat)(p:List BY)(s:BY)(w:Wl)(ks:List BY)(l:List Tr)(h:Sx W t x v uv vx bs Y F (.slice a (p.length+1) c) (p++[s]) w)(Z:Ah t p=some (.obj ks l))(U:C4 ks s=false):
  Cl prog 166 #[.pointer (some ⟨W,0,none⟩),.slice a (p.length+1) c,vx] w (Cq W uv (W::(Y++bs)) t x (p++[s]) w):=by
 have ak:=Rk (s:=s) Z;have ax:p++[s]≠[]:=Zh
 have ar:Ah t (p++[s]).dropLast=some (.obj ks l):=by rw[List.dropLast_concat];exact Z
 obtain⟨b,o,rfl,aJ,a8,aR,b7,cH,a7⟩:=h.tat.last;have lb:=h.tat.lt b aJ;obtain⟨tx,xx,rfl⟩:=h.xat.iface;obtain⟨tv,xv,rfl⟩:=h.wat.at_.iface;obtain⟨vp,bp,rest,hf⟩:=EU h.wat.at_ _ p _ rfl Z;obtain⟨k,sv,sk,vs,fs,rfl,I,ai⟩:=hf.at_.obj;have au:=h.wat.fine.lead Z;have ab:=au.good;have bd:l.length<=65536:=by have:=au.many;simp only[Ab]at this;omega
 have aV:=I.at_.length;have bf:=Ar h.xfine.fits;have az:=Ar h.wat.fine.fits;have ag:=hZ (Dl h.laid h.wat h.tat.init hf);unfold IR at ag
 have aZ:=UD (∀A,Chg w A []->Cl prog 197 #[.pointer (some ⟨k,0,none⟩),.string s] A fun e w'=>∃i:Nat,e= .returned (.tuple #[.int .i64 i,.bool false])/\Chg A w' []/\Hr ks s i/\i<=ks.length) fun A hx=>by
  have:=Pl ks s k sv sk A (I.blk.kept hx) (I.keys.kept hx) ab.1 b7 Zj;rwa[U]at this
 have a0:OS prog (.iface 175 (.pointer (some ⟨k,0,none⟩))) 95 175 #[.pointer (some ⟨k,0,none⟩),.bool true]:=fun _=>Yb
 obtain⟨D,E,rfl,_⟩:=I.lst.form;obtain⟨B,C,rfl,_⟩:=I.keys.form;have lW:=h.wat.blk.lt;have cL:=I.blk.lt;have aw:=AP.lt _ _ _ h.wat.at_
 have ay:∀aW l',Tr.obj ks l= .obj aW l'->C4 aW (AH (p++[s]))=false:=fun aW l' e=>by injection e with e1 e2;subst e1;rw[BE];exact U
 obtain⟨q1,q2,q3⟩:=MR (x:=x) h.wat.fine ax ar (by rw[BE];rfl) ay;have an:=Oy (x:=x) h.wat.fine ax ar (by rw[BE];rfl) ay;have aQ:(p++[s]).length=p.length+1:=Zh
 rw[aQ]at an;unfold NC at q2;rw[BE]at q2
 have ae:=UD (∀A,Chg w A []->Cl prog 195 #[.pointer (some ⟨W,0,none⟩),.slice (some ⟨b,o,none⟩) (p.length+1) c,.iface tx xx,.nilIface,.int .i64 s.size] A (Dh W (.iface tv xv) uv (Ag (At t (p++[s]) x)).nodes (Ag (At t (p++[s]) x)).bytes (p.length+1+(Ag x).depth) A)) fun A hx=>
  Jl W _ uv _ _ x _ _ Y 0 0 _ _ s.size _ _ c A (h.wat.blk.kept hx) (h.xat.chg hx Zh) h.xfine.good h.xfine.fits (.inl ⟨rfl,rfl,rfl⟩) az.1 az.2.1 Zj aR Zj Zj
 have aK:=SM Z U
 have af:∀y,y∈k::((Vl.slice B (Ad ks).length C).ownBlock.toList++(Vl.slice D vs.length E).ownBlock.toList)->y∈bs:=fun y L=>hf.perm.mem_iff.2 (by
  rw[ai];simp only[Qh,Qf]at L|-
  rcases L with h|h|h
  .exact .inl (.inl h)
  .exact .inl (.inr (.inr (.inl h)))
  .exact .inl (.inr (.inl h)))
 have av:∀y,y∈W::k::((Vl.slice B (Ad ks).length C).ownBlock.toList++(Vl.slice D vs.length E).ownBlock.toList)->y∈W::(Y++bs):=fun y L=>by
  rcases Qh.1 L with rfl|L
  .simp
  .simp[af y L]
 have al:W∉k::((Vl.slice B (Ad ks).length C).ownBlock.toList++(Vl.slice D vs.length E).ownBlock.toList):=fun n=>by
  have:=af W n;have hn:=h.nodup;simp[this]at hn
 have aS:∀y,List.count y (k::((Vl.slice B (Ad ks).length C).ownBlock.toList++(Vl.slice D vs.length E).ownBlock.toList))<=1:=fun y=>by
  have S:=List.nodup_iff_count.1 h.nodup y;have Q:=hf.perm.count_eq y;rw[ai]at Q;simp only[List.count_cons,List.count_append]at S Q|-;omega
 have aP:(k::((Vl.slice B (Ad ks).length C).ownBlock.toList++(Vl.slice D vs.length E).ownBlock.toList)).Nodup:=List.nodup_iff_count.2 aS
 have hH:∀u,w.heap.size<=u.heap.size->Nh u k (.slice D vs.length E) (.slice B (Ad ks).length C):=fun u hz=>by
  have aN:=List.nodup_cons.1 aP;refine⟨Zj,fun g N=> ?_,fun g N=> ?_⟩
  .have n:g∈(Vl.slice B (Ad ks).length C).ownBlock.toList:=by rw[N];simp
   have:=aw g (af g (Qg _ (Qe _ n)));exact⟨Zj,fun e=>aN.1 (by rw[<-e];exact Qe _ n),fun e=>Cd aN.2 n (by rw[e];simp)⟩
  .have n:g∈(Vl.slice D vs.length E).ownBlock.toList:=by rw[N];simp
   have:=aw g (af g (Qg _ (Qd _ n)));exact⟨Zj,fun e=>aN.1 (by rw[<-e];exact Qd _ n)⟩
 have b6:=I.at_.one
 have aC:=UD (∀u,Chg w u [W]->Ac u k [.slice D vs.length E,.slice B (Ad ks).length C] 177/\AK u (.slice B (Ad ks).length C) 9 (Ad ks)/\AK u (.slice D vs.length E) 95 vs) fun u hc=>
  ⟨I.blk.kept hc (fun n=>by simp at n;exact al (by rw[<-n];simp)),I.keys.kept hc (fun g N n=>by simp at n;subst n;exact al (Qg _ (Qe _ (by rw[N];simp)))),
   I.lst.kept hc (fun g N n=>by simp at n;subst n;exact al (Qg _ (Qd _ (by rw[N];simp))))⟩
 have aE:=UD (∀i u P R gk cv ck,i<=l.length->Hr ks s i->Chg w u [W]->Chg u P (k::((Vl.slice B (Ad ks).length C).ownBlock.toList++(Vl.slice D vs.length E).ownBlock.toList))->
   Ac P k [.slice (some ⟨R,0,none⟩) (vs.length+1) cv,.slice (some ⟨gk,0,none⟩) (ks.length+1) ck] 177->AK P (.slice (some ⟨R,0,none⟩) (vs.length+1) cv) 95 (vs.insertIdx i (.iface tx xx))->AK P (.slice (some ⟨gk,0,none⟩) (ks.length+1) ck) 9 (Ad (ks.insertIdx i s))->
   ((Vl.slice D vs.length E).ownBlock=some R\/u.heap.size<=R)->((Vl.slice B (Ad ks).length C).ownBlock=some gk\/u.heap.size<=gk)->gk≠R->Wd w u P W k (Bz (Cj s x) t p) (.iface tv xv) (.slice D vs.length E) (.slice B (Ad ks).length C) (W::(Y++bs))) fun i u P R gk cv ck hi b3 O k2 k3 k4 k5 k6 k7 k8=>by
  obtain⟨n1,n2,n3,n4⟩:=b3.no U
  have bZ:Cj s x (.obj ks l)= .obj (ks.insertIdx i s) (l.insertIdx i x):=by
   simp only[Cj];rw[Qs (by simp[U])];exact If ab.1 ab.2.1 n1 n2 n3 n4
  exact Yu h.wat hf I ai h.nodup h.xat hi bZ O k2 k3 k4 k5 k6 k7 k8
 have ap:=UD (∀A,Chg w A (W::k::((Vl.slice B (Ad ks).length C).ownBlock.toList++(Vl.slice D vs.length E).ownBlock.toList))->Cl prog 196 #[.int .i64 2,.slice (some ⟨b,o,none⟩) (p.length+1) c,.nilIface] A (Et (AC 2 (p++[s]) []) A)) fun A hx=>by
  have ht:=h.tat.kept hx (fun y L=>h.apart y (av y L));exact ME 2 F _ (p++[s]) A (h.laid.kept hx (fun y L=>h.big y (av y L))) ht.row ht.lt ht.ok ht.small
 have aO:(Ag (At t (p++[s]) x)).within=true->Bt (At t (p++[s]) x):=fun V=>h.wat.fine.add h.xfine h.tat.ok ak V
 have bP:=hZ (E3 t x p s);have bJ:=hZ aK;have HH:=hZ h;have aD:=hZ hH;have a1:=UD (ks.length=l.length/\vs.length=l.length) ⟨ab.2.1,aV⟩;have cG:ks.length<=65536:=by have:=ab.2.1;omega
 have cI:vs.length<=65536:=Zj
 by_cases V:(Ag (At t (p++[s]) x)).within=true
 .rw[LS ak V]
  rw[En (by rw[an];exact V)]at ae;have bN:=hZ (aO V);have be:=Ao ks;obtain⟨aX,aU⟩:=Ue ((Ad ks).length)
  have cc:=hZ (aU.trans be);rw[<-aU]at aE ap aC aD;obtain⟨m,n⟩:=Ue p.length
  rw[<-n]at ag ae ap a8 aR a7|-;clear h ak ax ar hf I ai au ab bd aV bf az n Z aJ ay q1 q2 q3 an aQ aK af av al aS aP hH aw aO V U be aU;go_enter func166,ntmps166
  go_wp2_with(first
   |(go_at_call 170;refine(ag.o _ (by exact cg cR)).mono ?_;rintro e w1 ⟨rfl,S⟩;have H1:=UD (Chg w w1 []) (ct cR S);have B1:=UD (Ac w1 w.heap.size Ef 42) ((Ac.new w Ef 42).kept S);clear S)
   |(go_at_call 197;refine(aZ.o _ (by exact cg H1.o)).mono ?_;rintro e w2 ⟨i,rfl,Q,h3,M⟩;have H2:=UD (Chg w w2 []) (ct H1.o Q);have B2:=UD (Ac w2 w.heap.size Ef 42) (B1.o.kept Q);have bO:=hZ h3;have bc:=M;clear Q h3 M)
   |(go_at_call 195;refine(ae.o _ (by exact cg H2.o)).mono ?_;rintro e u ⟨rfl,h3,M⟩;have bL:=hZ h3;have H3:=UD (Chg w u [W]) (ct ((H2.o.none [W])) M);have B3:=UD (Ac u w.heap.size Ef 42) (B2.o.kept M (by simp;omega));clear h3 M))
  have cF:i<=vs.length:=by have:=a1.o;omega
  obtain⟨X,aA⟩:=Ue u.drew
  have bR:=hZ aA;have aB:Hid (Chg u X []):=by rw[aA];exact hZ ((Chg.refl u []).drew)
  have bH:X.heap.size=u.heap.size:=by rw[aA];rfl
  have bS:=hZ bH;have H4:=UD (Chg w X [W]) (H3.o.trans (aB.o.none _));have bI:=H4.o.size;have ad:=aD.o X bI;obtain⟨p1,p2,p3⟩:=aC.o X H4.o
  have a6:∀f,Lo X k i s (.iface tx xx) (.slice D vs.length E) (.slice B aX C) ks vs (fun _=>false) f X:=fun f=>
   ⟨Chg.refl _ _,(fun _ e=>by cases e),(fun e=>by cases e),(fun e=>by cases e),(fun e=>by cases e),(fun e=>by cases e),fun _=>p1,(fun e=>by cases e),(fun e=>by cases e),fun _=>p2,fun _=>p3,(fun e=>by cases e),(fun e=>by cases e),(fun e=>by cases e),(fun e=>by cases e)⟩
  clear aA bH;refine wp_region_any Yb ?_;change wpAny _ _ _ _ _ _ _ (World.drew _);rw[<-bR.o];refine Gy _ (Lo X k i s (.iface tx xx) (.slice D vs.length E) (.slice B aX C) ks vs) Yb ?_ ?_ _ ?_
  .intro ii op a wa dd j J K r d K q
   match ii,j with
   |0,j=>
    obtain rfl:=Q5 j;have aH:a.tmps.getD 10 undef= .pointer (some ⟨k,0,none⟩):=J.at 10 Yb;go_simp
    exact q _ _ Zh (d.plain ZM ZM ZM ZM ZM ZM (by simp[Ee]) cR)
   |1,j=>
    obtain rfl:=Q5 j;have aH:a.tmps.getD 10 undef= .pointer (some ⟨k,0,none⟩):=J.at 10 Yb;go_simp
    exact q _ _ Zh (d.plain ZM ZM ZM ZM ZM ZM (by simp[Ee]) cR)
   |2,j=>
    obtain rfl:=Q5 j;have aH:a.tmps.getD 10 undef= .pointer (some ⟨k,0,none⟩):=J.at 10 Yb;go_simp
    exact q _ _ Zh (d.plain ZM ZM ZM ZM ZM ZM (by simp[Ee]) cR)
   |3,j=>
    obtain rfl:=Q5 j;have cw:a.tmps.getD 91 undef= .pointer (some ⟨k,0,none⟩):=d.vals 2 (r ⟨2,.data⟩ Zh rfl);go_simp
    exact q _ _ Zh (d.plain ZM ZM ZM ZM ZM ZM (by simp[Ee]) cR)
   |4,j=>
    obtain rfl:=Q5 j;have cx:a.tmps.getD 92 undef= .pointer (some ⟨k,0,none⟩):=d.vals 3 (r ⟨3,.data⟩ Zh rfl);go_simp
    exact q _ _ Zh (d.plain ZM ZM ZM ZM ZM ZM (by simp[Ee]) cR)
   |5,j=>
    obtain rfl:=Q5 j;have cy:a.tmps.getD 93 undef= .pointer (some ⟨k,1,none⟩):=d.vals 4 (r ⟨4,.data⟩ Zh rfl)
    have aG:dd 21=false:=by
     cases e:dd 21 with
     |false=>rfl
     |true=>have aI:=d.o21 e;have h:=d.o9 (d.o18 aI).1;rw[K]at h;cases h
    have H:=d.blk0 aG;have aa:=H.cell 1;simp only[Qa,Qb]at aa;go_simp
    exact q _ _ Zh (d.plain ZM ZM ZM ZM ZM ZM (by simp[Ee]) cR)
   |6,j=>
    obtain rfl:=Q5 j;have bU:a.tmps.getD 11 undef= .int .i64 i:=J.at 11 Yb;go_simp
    exact q _ _ Zh (d.plain ZM ZM ZM ZM ZM ZM (by simp[Ee]) cR)
   |7,j=>
    obtain rfl:=Q5 j;have h9:a.tmps.getD 9 undef= .string s:=J.at 9 Yb;go_simp
    exact q _ _ Zh (d.plain ZM ZM ZM ZM ZM ZM (by simp[Ee]) cR)
   |8,j=>
    obtain rfl:=Q5 j;have bV:a.tmps.getD 96 undef= .string s:=d.vals 7 (r ⟨7,.data⟩ Zh rfl);have cB:a.tmps[96]?.getD undef= .string s:=by rw[<-Qp];exact bV
    go_simp
    exact q _ _ Zh d.new8
   |9,j=>
    obtain rfl:=Q5 j;have d5:=r ⟨5,.data⟩ Zh rfl;have cz:a.tmps.getD 94 undef= .slice B aX C:=d.vals 5 d5;have cA:a.tmps.getD 95 undef= .int .i64 i:=d.vals 6 (r ⟨6,.data⟩ Zh rfl);obtain⟨B,aL,aM,b0⟩:=d.r8 (r ⟨8,.data⟩ Zh rfl) K;have cC:a.tmps.getD 97 undef= .slice (some ⟨B,0,none⟩) 1 1:=aL;have bX:=d.keys0 K;go_simp
    go_at_call 198;refine(QS _ (.string s) B i (Ad ks) wa bX aM (fun g N e=>by have:=(ad.lk g N).1;omega) rfl (Gu ks) (by rw[Ao];exact bc) (by rw[Ao];omega)).mono ?_;rintro e w1 ⟨g,ah,rfl,O,k2,k3⟩;rw[Ao]at O|-;rw[show(Ad ks).insertIdx i (.string s)=Ad (ks.insertIdx i s)from XS ks i s bc]at O;exact q _ _ Zh (d.call9 ad K d5 O k2 k3)
   |10,j=>
    obtain rfl:=Q5 j;have aH:a.tmps.getD 10 undef= .pointer (some ⟨k,0,none⟩):=J.at 10 Yb;go_simp
    exact q _ _ Zh (d.plain ZM ZM ZM ZM ZM ZM (by simp[Ee]) cR)
   |11,j=>
    obtain rfl:=Q5 j;have cE:a.tmps.getD 99 undef= .pointer (some ⟨k,0,none⟩):=d.vals 10 (r ⟨10,.data⟩ Zh rfl);go_simp
    exact q _ _ Zh (d.plain ZM ZM ZM ZM ZM ZM (by simp[Ee]) cR)
   |12,j=>
    obtain rfl:=Q5 j;have cd:a.tmps.getD 100 undef= .pointer (some ⟨k,0,none⟩):=d.vals 11 (r ⟨11,.data⟩ Zh rfl);go_simp
    exact q _ _ Zh (d.plain ZM ZM ZM ZM ZM ZM (by simp[Ee]) cR)
   |13,j=>
    obtain rfl:=Q5 j;have ce:a.tmps.getD 101 undef= .pointer (some ⟨k,0,none⟩):=d.vals 12 (r ⟨12,.data⟩ Zh rfl);go_simp
    exact q _ _ Zh (d.plain ZM ZM ZM ZM ZM ZM (by simp[Ee]) cR)
   |14,j=>
    obtain rfl:=Q5 j;have cf:a.tmps.getD 102 undef= .pointer (some ⟨k,0,none⟩):=d.vals 13 (r ⟨13,.data⟩ Zh rfl)
    have aG:dd 21=false:=by
     cases e:dd 21 with
     |false=>rfl
     |true=>have aI:=d.o21 e;have h:=(d.o18 aI).2;rw[K]at h;cases h
    have H:=d.blk0 aG;have aa:=H.cell 0;simp only[Qa,Qb]at aa;go_simp
    exact q _ _ Zh (d.plain ZM ZM ZM ZM ZM ZM (by simp[Ee]) cR)
   |15,j=>
    obtain rfl:=Q5 j;have bU:a.tmps.getD 11 undef= .int .i64 i:=J.at 11 Yb;go_simp
    exact q _ _ Zh (d.plain ZM ZM ZM ZM ZM ZM (by simp[Ee]) cR)
   |16,j=>
    obtain rfl:=Q5 j;have Q:a.tmps.getD 2 undef= .iface tx xx:=J.at 2 Yb;go_simp
    exact q _ _ Zh (d.plain ZM ZM ZM ZM ZM ZM (by simp[Ee]) cR)
   |17,j=>
    obtain rfl:=Q5 j;have bT:a.tmps.getD 105 undef= .iface tx xx:=d.vals 16 (r ⟨16,.data⟩ Zh rfl);have cj:a.tmps[105]?.getD undef= .iface tx xx:=by rw[<-Qp];exact bT
    go_simp
    exact q _ _ Zh d.new17
   |18,j=>
    obtain rfl:=Q5 j;have a3:=r ⟨14,.data⟩ Zh rfl;have d9:=r ⟨9,.chain⟩ Zh rfl;have ch:a.tmps.getD 103 undef= .slice D vs.length E:=d.vals 14 a3;have ci:a.tmps.getD 104 undef= .int .i64 i:=d.vals 15 (r ⟨15,.data⟩ Zh rfl);obtain⟨B,aL,aM,b0⟩:=d.r17 (r ⟨17,.data⟩ Zh rfl) K;have cl:a.tmps.getD 106 undef= .slice (some ⟨B,0,none⟩) 1 1:=aL;have bY:=d.items0 K;go_simp
    go_at_call 199;refine(N5 _ (.iface tx xx) B i vs wa bY aM (fun g N e=>by have:=(ad.lv g N).1;omega) rfl b6 Zj Zj).mono ?_;rintro e w1 ⟨g,ah,rfl,O,k2,k3⟩;exact q _ _ Zh (d.call18 ad K d9 a3 O k2 k3)
   |19,j=>
    obtain rfl:=Q5 j;have cs:a.tmps.getD 89 undef= .pointer (some ⟨k,0,none⟩):=d.vals 0 (r ⟨0,.data⟩ Zh rfl);go_simp
    exact q _ _ Zh (d.plain ZM ZM ZM ZM ZM ZM (by simp[Ee]) cR)
   |20,j=>
    obtain rfl:=Q5 j;have cn:a.tmps.getD 108 undef= .pointer (some ⟨k,0,none⟩):=d.vals 19 (r ⟨19,.data⟩ Zh rfl);go_simp
    exact q _ _ Zh (d.plain ZM ZM ZM ZM ZM ZM (by simp[Ee]) cR)
   |21,j=>
    obtain rfl:=Q5 j;have a4:=r ⟨18,.chain⟩ Zh rfl;have co:a.tmps.getD 109 undef= .pointer (some ⟨k,1,none⟩):=d.vals 20 (r ⟨20,.data⟩ Zh rfl);obtain⟨g,ah,q1,q2,q3⟩:=d.r9 (d.o18 a4).1;have cD:a.tmps.getD 98 undef= .slice (some ⟨g,0,none⟩) (ks.length+1) ah:=q1;have H:=d.blk0 K;have aa:=H.cell 1;have b2:=H.frozen 1;simp only[Qa,Qb]at aa;have am:=d.store21 ad K a4;rw[q1]at am;go_simp
    exact q _ _ Zh am
   |22,j=>
    obtain rfl:=Q5 j;have cu:a.tmps.getD 90 undef= .pointer (some ⟨k,0,none⟩):=d.vals 1 (r ⟨1,.data⟩ Zh rfl);go_simp
    exact q _ _ Zh (d.plain ZM ZM ZM ZM ZM ZM (by simp[Ee]) cR)
   |23,j=>
    obtain rfl:=Q5 j;have cp:a.tmps.getD 110 undef= .pointer (some ⟨k,0,none⟩):=d.vals 22 (r ⟨22,.data⟩ Zh rfl);go_simp
    exact q _ _ Zh (d.plain ZM ZM ZM ZM ZM ZM (by simp[Ee]) cR)
   |24,j=>
    obtain rfl:=Q5 j;have cq:a.tmps.getD 111 undef= .pointer (some ⟨k,0,none⟩):=d.vals 23 (r ⟨23,.data⟩ Zh rfl);go_simp
    exact q _ _ Zh (d.plain ZM ZM ZM ZM ZM ZM (by simp[Ee]) cR)
   |25,j=>
    obtain rfl:=Q5 j;have aF:=r ⟨21,.chain⟩ Zh rfl;have cr:a.tmps.getD 112 undef= .pointer (some ⟨k,0,none⟩):=d.vals 24 (r ⟨24,.data⟩ Zh rfl);obtain⟨g,ah,q1,q2,q3,q4⟩:=d.r18 (d.o21 aF);have cm:a.tmps.getD 107 undef= .slice (some ⟨g,0,none⟩) (vs.length+1) ah:=q1;have H:=d.blk1 aF K;have aa:=H.cell 0;have b2:=H.frozen 0;simp only[Qa,Qb]at aa;have am:=d.store25 ad K aF;rw[q1]at am;go_simp
    exact q _ _ Zh am
   |_+26,j=>exact absurd j Zh
  .intro a P dd J hd d
   obtain⟨gk,ck,f1,f2,f3⟩:=d.r9 (hd 9 ZM);obtain⟨R,cv,g1,g2,g3,g4⟩:=d.r18 (hd 18 ZM);have H:=d.blk2 (hd 25 ZM);rw[f1]at H g4;rw[g1]at H;have bb:gk≠R:=fun e=>g4 (by rw[e];rfl)
   have aq:=d.chg;obtain⟨a2,s1,s2,s3,s4,s5⟩:=aE.o i X P R gk cv ck (by have:=a1.o;omega) bO.o H4.o aq H g2 f2 g3 f3 bb
   have aT:∀y,y∈W::(Y++bs)->y<w.heap.size:=fun y L=>by
    rcases Qh.1 L with h|h
    .omega
    .rcases Qf.1 h with h|h
     .exact AP.lt _ _ _ HH.o.xat _ h
     .exact AP.lt _ _ _ HH.o.wat.at_ _ h
   have aY:=UD (Ac P w.heap.size Ef 42) ((B3.o.kept aB.o).kept aq (fun n=>by have:=aT _ (s4 _ (Qg _ n));omega));have bM:=UD (Ac P W [.iface tv xv,.int .i64 (Ag (At t (p++[s]) x)).nodes,.int .i64 (Ag (At t (p++[s]) x)).bytes,uv] 98) ((bL.o.kept aB.o).kept aq s5);have S1:=hZ s1;have S2:=hZ s2;have S3:=hZ s3;have S4:=hZ s4;have bQ:=hZ aT;clear d f1 f2 f3 g1 g2 g3 g4 H bb aq s1 s2 s3 s4 s5 hd aT a6 ad p1 p2 p3;have aj:=J.form' [89,90,91,92,93,94,95,96,97,98,99,100,101,102,103,104,105,106,107,108,109,110,111,112] Yb;have a9:=J.defers;obtain⟨z,df⟩:=a;clear J
   dsimp only at aj a9
   simp only[List.foldl_cons,List.foldl_nil]at aj;obtain⟨u89,bv⟩:=Ue (z.getD 89 undef)
   obtain⟨u90,bw⟩:=Ue (z.getD 90 undef)
   obtain⟨u91,bx⟩:=Ue (z.getD 91 undef)
   obtain⟨u92,bz⟩:=Ue (z.getD 92 undef)
   obtain⟨u93,bA⟩:=Ue (z.getD 93 undef)
   obtain⟨u94,bB⟩:=Ue (z.getD 94 undef)
   obtain⟨u95,bC⟩:=Ue (z.getD 95 undef)
   obtain⟨u96,bD⟩:=Ue (z.getD 96 undef)
   obtain⟨u97,bE⟩:=Ue (z.getD 97 undef)
   obtain⟨u98,bF⟩:=Ue (z.getD 98 undef)
   obtain⟨u99,bG⟩:=Ue (z.getD 99 undef)
   obtain⟨u100,bg⟩:=Ue (z.getD 100 undef)
   obtain⟨u101,bh⟩:=Ue (z.getD 101 undef)
   obtain⟨u102,bi⟩:=Ue (z.getD 102 undef)
   obtain⟨u103,bj⟩:=Ue (z.getD 103 undef)
   obtain⟨u104,bk⟩:=Ue (z.getD 104 undef)
   obtain⟨u105,bl⟩:=Ue (z.getD 105 undef)
   obtain⟨u106,bm⟩:=Ue (z.getD 106 undef)
   obtain⟨u107,bn⟩:=Ue (z.getD 107 undef)
   obtain⟨u108,bo⟩:=Ue (z.getD 108 undef)
   obtain⟨u109,bq⟩:=Ue (z.getD 109 undef)
   obtain⟨u110,br⟩:=Ue (z.getD 110 undef)
   obtain⟨u111,bt⟩:=Ue (z.getD 111 undef)
   obtain⟨u112,bu⟩:=Ue (z.getD 112 undef)
   rw[<-bv,<-bw,<-bx,<-bz,<-bA,<-bB,<-bC,<-bD,<-bE,<-bF,<-bG,<-bg,<-bh,<-bi,<-bj,<-bk,<-bl,<-bm,<-bn,<-bo,<-bq,<-br,<-bt,<-bu]at aj;clear bv bw bx bz bA bB bC bD bE bF bG bg bh bi bj bk bl bm bn bo bq br bt bu;simp only[List.setIfInBounds_toArray,List.set_cons_zero,List.set_cons_succ]at aj;subst aj;subst a9
   go_wp2_with(first
    |(go_at_call 196;refine(ap.o _ S3.o).mono ?_;rintro e ca h5;obtain⟨cM,ys,G,rfl,O,k2⟩:=h5.at;have K1:=hZ O;have K2:=hZ k2;obtain⟨sa,sc,rfl,_⟩:=O.row.form;clear h5 O k2)
    |(refine Ae rfl _ _ _ rfl w.heap.size (BJ (AC 2 (p++[s]) []) (.slice sa (AC 2 (p++[s]) []).steps.length sc)) ZN ZN 42 Ef (by exact aY.o.kept K2.o) A0 rfl (Dx _ _ _ _) ?_;intro cb b8 a5 ba;have bK:=hZ a5;have ao:=hZ ba;clear b8 a5 ba))
   have b9:w.heap.size<P.heap.size:=aY.o.lt;have b1:Chg w ca (W::(Y++bs)):=(S3.o.mono (fun y _ n=>S4.o y n)).trans (K2.o.none _);have bW:Chg w cb (W::(Y++bs)):=b1.step ao.o (fun i hi Z=>by simp at hi;omega);have U:=K1.o.kept (w0:=w) ao.o (fun b T=>by simp at T;subst T;exact b9) Zj;have b4:=AP.lt _ _ _ S1.o;refine bodyPost_ret (Bi rfl _ _ w.heap.size 42 (BJ (AC 2 (p++[s]) []) (.slice sa (AC 2 (p++[s]) []).steps.length sc)) _ rfl bK.o underlying42 rfl A0) rfl ?_;rw[bJ.o];have cJ:=B3.o.lt;have cK:=bS.o
   have b5:w.heap.size∉a2:=fun n=>by
    rcases S2.o.come _ (Qg _ n)with h|h
    .have:=bQ.o _ h;omega
    .omega
   refine⟨.iface tv xv,a2,_,ys,G,rfl,U,⟨?_, ?_,bN.o⟩,S2.o.back bI,bW,fun b T hG=> ?_⟩
   .exact(bM.o.kept K2.o).kept ao.o (by simp;omega)
   .rw[bP.o]
    exact(S1.o.chg K2.o Zh).chg ao.o (fun b T n=>by simp at T;subst T;exact b5 n)
   .have S:=(K1.o.new b hG).1
    rcases Qh.1 T with rfl|T
    .omega
    .have:=b4 b T;omega
  .exact a6 _
 .rw[Hv ak (by simpa using V)]
  rw[DO (by rw[an];simpa using V)]at ae;obtain⟨m,n⟩:=Ue p.length
  rw[<-n]at ag ae a8 aR a7|-;clear h ak ax ar hf I ai au ab bd aV bf az n Z aJ ay q1 q2 q3 an aQ aK af av al aS aP hH aw aO V U aE ap aC aD HH;go_enter func166,ntmps166
  go_wp2_with(first
   |(go_at_call 170;refine(ag.o _ (by exact cg cR)).mono ?_;rintro e w1 ⟨rfl,S⟩;have H1:=UD (Chg w w1 []) (ct cR S);clear S)
   |(go_at_call 197;refine(aZ.o _ (by exact cg H1.o)).mono ?_;rintro e w2 ⟨i,rfl,Q,h3,M⟩;have H2:=UD (Chg w w2 []) (ct H1.o Q);clear Q h3 M)
   |(go_at_call 195;refine(ae.o _ (by exact cg H2.o)).mono ?_;rintro e u ⟨he,M⟩;unfold By at he;subst he;have H3:=UD (Chg w u []) (ct H2.o M);clear M))
  exact⟨rfl,rfl,H3.o.none _⟩
theorem Vb{p:Tr}(h:AX p=true)(s:BY):Gg s p=5:=by
 cases p<;>first|rfl|simp[AX]at h
theorem Xo(W:Nat)(t x:Tr)(v e d:Vl)(bs g:List Nat)(F:Nat->Prop)(a:Option Addr)(c:Nat)(ts:List BY)(w:Wl)(h:Sx W t x v e d bs g F (.slice a ts.length c) ts w):
  Cl prog 166 #[.pointer (some ⟨W,0,none⟩),.slice a ts.length c,d] w (Cq W e (W::(g++bs)) t x ts w):=by
 by_cases j:ts=[]
 .subst j
  exact Tv W t x v e d bs g F a c w h
 .obtain⟨b,s,rfl⟩:∃b s,ts=b++[s]:=⟨ts.dropLast,ts.getLast j,(List.dropLast_concat_getLast j).symm⟩
  have o:(b++[s]).length=b.length+1:=Zh
  rw[o]at h|-;have n:∃q y,d= .iface q y:=h.xat.iface
  cases f:Ah t b with
  |none=>
   have i:EN t (b++[s])=4:=by rw[Iz,f]
   rw[LG i ZM];exact Tu W t v e d bs F a c b s w _ h.laid h.wat h.tat f n
  |some p=>
   by_cases k:AX p=true
   .have i:EN t (b++[s])=5:=by rw[Iz,f];exact Vb k s
    rw[LG i ZM];exact Ts W t p v e d bs F a c b s w _ h.laid h.wat h.tat f k n
   .cases p with
    |list l=>exact Tt W t x v e d bs g F a c b s w l h f
    |obj ks l=>
     cases m:C4 ks s with
     |true=>exact Vk W t x v e d bs g F a c b s w ks l h f m
     |false=>exact Vj W t x v e d bs g F a c b s w ks l h f m
    |_=>simp[AX]at k
def Uu(ts:List BY)(u:Tr):Bq:=AC 3 ts (Ai u)
def Du(W:Nat)(b:Vl)(a:List Nat)(t x:Tr)(ts:List BY)(w:Wl)(e:Ending)(w':Wl):Prop:=match Ah t ts with
 |none=>AZ 4 a w e w'
 |some u=>if(Ag (AE t ts x)).within=true then ET W b a (AE t ts x) (Uu ts u) w e w' else AZ 3 a w e w'
theorem RP{W:Nat}{b:Vl}{a:List Nat}{t x:Tr}{ts:List BY}{w:Wl}(h:Ah t ts=none):Du W b a t x ts w=AZ 4 a w:=by
 funext e w';unfold Du;rw[h]
theorem J0{W:Nat}{c:Vl}{a:List Nat}{t x u:Tr}{ts:List BY}{w:Wl}(h:Ah t ts=some u)(b:(Ag (AE t ts x)).within=false):Du W c a t x ts w=AZ 3 a w:=by
 funext e w';unfold Du;rw[h];simp only;rw[Qs (by simp[b])]
theorem Pr{W:Nat}{b:Vl}{a:List Nat}{t x u:Tr}{ts:List BY}{w:Wl}(h:Ah t ts=some u)(c:(Ag (AE t ts x)).within=true):Du W b a t x ts w=ET W b a (AE t ts x) (Uu ts u) w:=by
 funext e w';unfold Du;rw[h];simp only;rw[Qr c]
theorem Im{W:Nat}{t:Tr}{v d:Vl}{bs:List Nat}{F:Nat->Prop}{c:Vl}{ts:List BY}{w:Wl}(f:Br w)(i:Hu w W t v d bs)(g:JC w F c ts)(j:Ah t ts=none):
  ∀a,Chg w a []->Cl prog 170 #[.pointer (some ⟨W,0,none⟩),c] a (fun e w'=>e=By 4/\Chg a w' []):=fun a h=>by
 have hi:=g.kept h;have b:=i.kept h;have:=LI W t v _ _ d bs F _ ts a (f.kept h) b.blk b.at_ b.fine hi.row hi.ok hi.small;rw[Jw j]at this;exact this.mono fun e w' h=>⟨h.2,h.1⟩
theorem Tz(W:Nat)(t:Tr)(v r k:Vl)(bs:List Nat)(F:Nat->Prop)(a:Option Addr)(n c:Nat)(ts:List BY)(w:Wl)(p:List Nat)(f:Br w)(h:Hu w W t v r bs)(g:JC w F (.slice a n c) ts)(j:Ah t ts=none)(o:∃q x,k= .iface q x):
  Cl prog 168 #[.pointer (some ⟨W,0,none⟩),.slice a n c,k] w (AZ 4 p w):=by
 obtain⟨u,y,rfl⟩:=o;have m:=hZ (Im f h g j);clear f h g j;go_enter func168,ntmps168
 go_wp2_with(first
  |(go_at_call 170;refine(m.o _ (by(repeat(first|exact Chg.refl w []|with_reducible refine c1 ?_ _|with_reducible refine c2 ?_|with_reducible refine c3 ?_ _|with_reducible refine c4 ?_ _ _ Zh|with_reducible refine c4 ?_ _ _ (by simp;omega))))).mono ?_;rintro e s ⟨i,d⟩;unfold By at i;subst i;have l:=UD (Chg w s []) (Chg.trans (b:=_) (by(repeat(first|exact Chg.refl w []|with_reducible refine c1 ?_ _|with_reducible refine c2 ?_|with_reducible refine c3 ?_ _|with_reducible refine c4 ?_ _ _ Zh|with_reducible refine c4 ?_ _ _ (by simp;omega)))) d);clear d))
 exact⟨rfl,rfl,l.o.none _⟩
theorem TA(W:Nat)(t x:Tr)(v C vx:Vl)(bs u:List Nat)(F:Nat->Prop)(a:Option Addr)(c:Nat)(w:Wl)(h:Sx W t x v C vx bs u F (.slice a 0 c) [] w):
  Cl prog 168 #[.pointer (some ⟨W,0,none⟩),.slice a 0 c,vx] w (Du W C (W::(u++bs)) t x [] w):=by
 have z:Ah t []=some t:=rfl;have y:AE t [] x=x:=rfl;have aj:=h.wat.blk.lt;obtain⟨L,N,rfl⟩:=h.xat.iface;obtain⟨K,M,rfl⟩:=h.wat.at_.iface;have V:=Ar h.xfine.fits;have A:=Ar h.wat.fine.fits;have P:=hZ (Dl h.laid h.wat h.tat (Ir.here h.wat.at_))
 have s:=UD (∀g,Chg w g []->Cl prog 195 #[.pointer (some ⟨W,0,none⟩),.slice a 0 c,.iface L N,.iface K M,.int .i64 0] g (Dh W (.iface K M) C (Ag x).nodes (Ag x).bytes (0+(Ag x).depth) g)) fun g l=>
  Jl W _ C _ _ x _ _ u _ _ (Ag x).nodes (Ag x).bytes 0 a 0 c g (h.wat.blk.kept l) (h.xat.chg l Zh) h.xfine.good h.xfine.fits (h.wat.was.kept l) A.1 A.2.1 Zj Zj Zj Zj
 have I:W∉bs:=fun n=>by have:=h.nodup;simp[n]at this
 have ad:=UD (∀g,Chg w g [W]->Cl prog 196 #[.int .i64 3,.slice a 0 c,.iface K M] g (Et (AC 3 [] (Ai t)) g)) fun g l=>by
  have B:=h.tat.kept l (fun b d=>by simp at d;subst d;exact h.apart b Zh);exact DE 3 F _ [] t _ bs g (h.laid.kept l (fun b d=>by simp at d;subst d;exact h.big b Zh)) B.row B.lt B.ok B.small h.wat.fine (h.wat.at_.chg l (fun b d=>by simp at d;subst d;exact I))
 have m:=hZ h;rw[Nat.zero_add]at s;by_cases o:(Ag x).within=true
 .rw[Pr z (by rw[y];exact o)]
  rw[En (by rw[E6];exact o)]at s;have al:W≠w.heap.size:=Zj
  clear h z y V A o I;go_enter func168,ntmps168
  go_wp2_with(first
   |(go_at_call 170;refine(P.o _ (by(repeat(first|exact Chg.refl w []|with_reducible refine c1 ?_ _|with_reducible refine c2 ?_|with_reducible refine c3 ?_ _|with_reducible refine c4 ?_ _ _ Zh|with_reducible refine c4 ?_ _ _ (by simp;omega))))).mono ?_;rintro e D ⟨rfl,f⟩;have r:=UD (Chg w D []) (Chg.trans (b:=_) (by(repeat(first|exact Chg.refl w []|with_reducible refine c1 ?_ _|with_reducible refine c2 ?_|with_reducible refine c3 ?_ _|with_reducible refine c4 ?_ _ _ Zh|with_reducible refine c4 ?_ _ _ (by simp;omega)))) f);have B9:=UD (Ac D w.heap.size Ef 42) ((Ac.new w Ef 42).kept f);clear f)
   |(go_at_call 195;refine(s.o _ (by(repeat(first|exact r.o|with_reducible refine c1 ?_ _|with_reducible refine c2 ?_|with_reducible refine c3 ?_ _|with_reducible refine c4 ?_ _ _ Zh|with_reducible refine c4 ?_ _ _ (by simp;omega))))).mono ?_;rintro e p ⟨rfl,f,k⟩;have aa:=hZ f;have q:=UD (Chg w p [W]) (Chg.trans (b:=_) (by(repeat(first|exact(r.o.none [W])|with_reducible refine c1 ?_ _|with_reducible refine c2 ?_|with_reducible refine c3 ?_ _|with_reducible refine c4 ?_ _ _ Zh|with_reducible refine c4 ?_ _ _ (by simp;omega)))) k);have O:=UD (Ac p w.heap.size Ef 42) (B9.o.kept k (by simp;omega));have d0:=f.cell 0;have f0:∀j,p.frozen? ⟨W,j,none⟩=false:=fun j=>f.frozen j;have am:=f.lt;simp only[Qa]at d0;clear f k)
   |(go_at_call 196;refine(ad.o _ (by(repeat(first|exact q.o|with_reducible refine c1 ?_ _|with_reducible refine c2 ?_|with_reducible refine c3 ?_ _|with_reducible refine c4 ?_ _ _ Zh|with_reducible refine c4 ?_ _ _ (by simp;omega))))).mono ?_;rintro e w2 k;obtain⟨sv,ys,G,rfl,J,Y⟩:=k.at;have Q:=hZ J;have H:=hZ Y;obtain⟨Z,sc,rfl,_⟩:=J.row.form;clear k J Y)
   |(refine Ae rfl _ _ _ rfl w.heap.size (BJ (AC 3 [] (Ai t)) (.slice Z (AC 3 [] (Ai t)).steps.length sc)) ZN ZN 42 Ef (by exact(O.o.set_other _ _ (by simp only;omega)).kept H.o) A0 rfl (Dx _ _ _ _) ?_;intro w6 X S U;have ai:=hZ X;have ab:=hZ S;have E:=hZ U;clear X S U))
  have ah:=q.o.size;have af:Chg w w2 [W]:=Chg.trans (b:=_) (q.o.setCell _ _ Zh) (H.o.none _);have R:Chg w w6 [W]:=af.step E.o (fun i hi hl=>by simp at hi;omega);have ae:W∉u:=fun n=>by have:=m.o.nodup;simp[n]at this
  have ag:=AP.lt _ _ _ m.o.xat;have ak:=m.o.wat.blk.lt;have hk:=Q.o.kept (w0:=w) E.o (fun b d=>by simp at d;subst d;simpa using O.o.lt) (by simpa using ah)
  refine bodyPost_ret (Bi rfl _ _ w.heap.size 42 (BJ (AC 3 [] (Ai t)) (.slice Z (AC 3 [] (Ai t)).steps.length sc)) _ rfl ab.o underlying42 rfl A0) rfl
   ⟨.iface L N,u,_,ys,G,rfl,hk,⟨?_,m.o.xat.chg R (fun b d=>by simp at d;subst d;exact ae),m.o.xfine⟩, ?_,R.mono (fun _ _ n=>by simp at n;simp[n]),fun b d hG=> ?_⟩
  .exact(((aa.o.set 0 (.iface L N)).kept H.o).kept E.o (by simp;omega))
  .exact(DJ.refl m.o.nodup).sub (List.Sublist.cons_cons _ (List.sublist_append_left _ _))
  .have f:=(Q.o.new b hG).1
   have k:p.heap.size<=b:=by simpa using f
   rcases Qh.1 d with rfl|d
   .omega
   .have:=ag b d;omega
 .rw[J0 z (by rw[y];simpa using o)]
  rw[DO (by rw[E6];simpa using o)]at s;clear h z y V A o I;go_enter func168,ntmps168
  go_wp2_with(first
   |(go_at_call 170;refine(P.o _ (by(repeat(first|exact Chg.refl w []|with_reducible refine c1 ?_ _|with_reducible refine c2 ?_|with_reducible refine c3 ?_ _|with_reducible refine c4 ?_ _ _ Zh|with_reducible refine c4 ?_ _ _ (by simp;omega))))).mono ?_;rintro e D ⟨rfl,f⟩;have r:=UD (Chg w D []) (Chg.trans (b:=_) (by(repeat(first|exact Chg.refl w []|with_reducible refine c1 ?_ _|with_reducible refine c2 ?_|with_reducible refine c3 ?_ _|with_reducible refine c4 ?_ _ _ Zh|with_reducible refine c4 ?_ _ _ (by simp;omega)))) f);clear f)
   |(go_at_call 195;refine(s.o _ (by(repeat(first|exact r.o|with_reducible refine c1 ?_ _|with_reducible refine c2 ?_|with_reducible refine c3 ?_ _|with_reducible refine c4 ?_ _ _ Zh|with_reducible refine c4 ?_ _ _ (by simp;omega))))).mono ?_;rintro e p ⟨T,k⟩;unfold By at T;subst T;have q:=UD (Chg w p []) (Chg.trans (b:=_) (by(repeat(first|exact r.o|with_reducible refine c1 ?_ _|with_reducible refine c2 ?_|with_reducible refine c3 ?_ _|with_reducible refine c4 ?_ _ _ Zh|with_reducible refine c4 ?_ _ _ (by simp;omega)))) k);clear k))
  exact⟨rfl,rfl,q.o.none _⟩
end
end Go.Proofs.YtkfnkppdhcaeoaaGreatDoor

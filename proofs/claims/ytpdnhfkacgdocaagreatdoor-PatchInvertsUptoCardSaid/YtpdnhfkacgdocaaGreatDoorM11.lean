/- Part 11 of the proof of both cards. -/
import Derived.Test.YtpdnhfkacgdocaaGreatDoorM10
set_option maxRecDepth 100000
set_option maxHeartbeats 32000000
set_option linter.all false
namespace Go.Proofs.YtpdnhfkacgdocaaGreatDoor
open Go renaming Calls->Cl,TypeId->Ti,Value->Vl,World->Wl
open Go.Value renaming agg->nA,iface->nF,int->nI,pointer->nP,slice->nS,string->nG,tuple->nT
open Go.IntKind renaming i64->nX
open Go.Ending renaming returned->nR
open Go.Obj renaming cells->nC
open Option renaming none->nN,some->nM
section
open _root_.Go.Proofs.Tryz
open Go Go.RowKit Tree Ptr
def MF:List Char:=[Char.ofNat 97,Char.ofNat 102,Char.ofNat 102,Char.ofNat 105,Char.ofNat 100,Char.ofNat 97,Char.ofNat 118,Char.ofNat 105,Char.ofNat 116,Char.ofNat 47,Char.ofNat 112,Char.ofNat 97,Char.ofNat 116,Char.ofNat 99,Char.ofNat 104,Char.ofNat 46]
def J8:String:=String.ofList (MF++[Char.ofNat 115,Char.ofNat 105,Char.ofNat 122,Char.ofNat 101])
def EB:String:=String.ofList (MF++[Char.ofNat 115,Char.ofNat 116,Char.ofNat 101,Char.ofNat 112,Char.ofNat 115])
def GK:String:=String.ofList (MF++[Char.ofNat 99,Char.ofNat 111,Char.ofNat 112,Char.ofNat 105,Char.ofNat 101,Char.ofNat 100])
theorem results_tmp3{b:Func}{t u v:Tmp}(h:b.results=#[.tmp t,.tmp u,.tmp v])(a:Array Vl)(P:Program)(w:Wl):
  (results b a).run P w= .ok (nT #[a.getD t undef,a.getD u undef,a.getD v undef]) w:=by
 simp[results,h]
def Jv(s:Sz):Vl:= nT #[nI nX s.nodes,nI nX s.bytes,nI nX s.depth]
theorem RD(sv:Vl)(s:BY)(b:Bool)(c:∃a x,sv= nF a x)(d:∀w,(Instr.typeAssert sv 167 204 true).run prog w= .ok (nT #[nG s,.bool b]) w)(w:Wl):
  Cl prog 286 #[nA #[sv]] w fun e w'=>e= nR (Jv ⟨1,s.size,1⟩)/\Chg w w' []:=by
 obtain⟨a,x,rfl⟩:=c;go_enter func286,ntmps286;go_wp2;refine bodyPost_ret (results_tmp3 rfl _ _ _) rfl ⟨rfl,by exact cg cR⟩
theorem VB(v:Vl)(w:Wl):(callMethod (nF 169 (nA #[v])) J8 #[]).run prog w= .ok (.enter 286 #[nA #[v]]) w:=Yb
theorem VC(b:Nat)(w:Wl):(callMethod (nF 155 (nP (nM ⟨b,0,nN⟩))) J8 #[]).run prog w= .ok (.enter 276 #[nP (nM ⟨b,0,nN⟩)]) w:=Yb
theorem Se(b:Nat)(w:Wl):(callMethod (nF 161 (nP (nM ⟨b,0,nN⟩))) J8 #[]).run prog w= .ok (.enter 283 #[nP (nM ⟨b,0,nN⟩)]) w:=Yb
def JB(v:Vl)(s:Sz)(w:Wl):Prop:=∃f args,(callMethod v J8 #[]).run prog w= .ok (.enter f args) w/\Cl prog f args w fun e w'=>e= nR (Jv s)/\Chg w w' []
theorem KW{l:List Tr}(h:∀u∈l,(Ag u).within=true)(k:Nat):(Bk (l.take k)).nodes<=65536*l.length/\(Bk (l.take k)).bytes<=2097152*l.length/\(Bk (l.take k)).depth<=512:=by
 have b:=(EJ.take (l:=l) h k).sum;have a:(l.take k).length<=l.length:=by rw[Ql];omega
 have:=Nat.mul_le_mul_left 65536 a;have:=Nat.mul_le_mul_left 2097152 a;omega
theorem Ld(l:List Tr)(vs:List Vl)(fs:List Nat)(b:Nat)(a:Option Addr)(c:Nat)(w:Wl)(hb:w.cell? ⟨b,0,nN⟩=nM (nS a vs.length c))(L:AK w (nS a vs.length c) 67 vs)(s:PsAt w l vs fs)(P:∀u∈l,(Ag u).within=true)(hl:l.length<=65536)(I:∀u v o w',u∈l->AP w' u v o->JB v (Ag u) w'):
  Cl prog 276 #[nP (nM ⟨b,0,nN⟩)] w fun e w'=>e= nR (Jv ((Bk l).over 0))/\Chg w w' []:=by
 have ad:=s.length;have F:=hZ L;have Z:=hZ s;have X:=hZ I;have E:=hZ P;have lb:=World.block_lt_of_cell? w _ hb;clear L s I P;go_enter func276,ntmps276;go_wp2
 go_loopw [2,3,4,15] (fun v2 v3 v4 B wr=>∃k:Nat,k<=vs.length/\v2= nI nX (Bk (l.take k)).nodes/\v3= nI nX (Bk (l.take k)).bytes/\v4= nI nX (Bk (l.take k)).depth/\B= nI nX k/\Chg w wr [])
  (fun _ _ _ B _=>vs.length-(intOf B).toNat)
 case atStart=>exact⟨0,Zj,by simp[Bk],by simp[Bk],by simp[Bk],rfl,Chg.refl _ _⟩
 case round=>
  obtain⟨k,hk,rfl,rfl,rfl,rfl,Q⟩:=hrel;have n:=KW E.o k;obtain⟨N,r⟩:=Ue ((Bk (l.take k)).nodes);obtain⟨M,q⟩:=Ue ((Bk (l.take k)).bytes);obtain⟨D,p⟩:=Ue ((Bk (l.take k)).depth);rw[<-r,<-q,<-p]at n|-;have H:=hZ r;have G:=hZ q;have C:=hZ p;clear r q p;have n1:N<=4294967296:=Zj;have n2:M<=137438953472:=Zj;have n3:D<=512:=n.2.2;clear n;have h:=hZ Q;clear Q;by_cases aa:k<vs.length
  .have y:k<l.length:=by omega
   obtain⟨u,j⟩:∃u,l[k]? =nM u:=⟨_,Q9 y⟩;obtain⟨v,o,V,U,_⟩:=Z.o.get j
   obtain⟨g,rfl⟩:∃g,a=nM ⟨g,0,nN⟩:=by
    obtain⟨a',c',e,h⟩:=F.o.form;injection e with i
    subst i;exact h (by intro e;subst e;simp at aa)
   have ab:wr.cell? ⟨g,k,nN⟩=nM v:=h.o.keeps (F.o.cell rfl k v V);have z:=U.chg h.o Zh;have A:=Qi j;obtain⟨ti,x,rfl⟩:=z.iface;obtain⟨f,args,S,O⟩:=X.o u _ o wr A z;have Y:=hZ S;have d:=Ar (E.o u A);obtain⟨S,t⟩:=Ue (Ag u);rw[<-t]at d O;obtain⟨s1,s2,s3⟩:=S;simp only at d;obtain⟨d,ae,w3⟩:=d
   have T:Bk (l.take (k+1))=⟨N+s1,M+s2,max D s3⟩:=by
    rw[BM j,<-t];unfold Sz.add;rw[<-H.o,<-G.o,<-C.o]
   have m:=hZ T;clear T S V U z t j A
   go_wp2_with(first
    |(refine Am rfl _ _ _ rfl _ rfl f args Y.o _ O ?_;rintro e d ⟨rfl,R⟩;refine⟨_,rfl, ?_⟩;unfold Jv;have W:=hZ R;clear R))
   go_roundw
   case rel=>
    refine⟨k+1,Zj, ?_, ?_, ?_,by go_num,h.o.trans W.o⟩
    .rw[m.o];simp
    .rw[m.o];simp
    .rw[m.o];simp;omega
   case measure=>simp[intOf];omega
  .go_wp2;refine bodyPost_ret (results_tmp3 rfl _ _ _) rfl ?_;have y:l.take k=l:=Qn Zj;have i:=H.o;have J:=G.o;have K:=C.o;rw[y]at i J K;subst i;subst J;subst K;refine⟨?_,h.o⟩;unfold Jv Sz.over;simp;omega
end
section
open Go Go.RowKit Tree Ptr
variable{e:Ending}{l:List Ap}{bs:List Nat}{xs:List Vl}{m n:Nat}{G:Nat->Prop}{sv:Vl}{w w':Wl}
structure Nj(bs:List Nat)(G:Nat->Prop)(sv:Vl)(n:Nat)(l:List Ap)(xs:List Vl)(w:Wl):Prop where
 lst:Ba w sv 55 6 n xs
 at_:Cr w G l xs
 own:∀g,sv.ownBlock=nM g->g∉bs/\¬G g
 ltG:∀b,G b->b<w.heap.size
def MW(t:Tr):List Ap:=(Ai t).map Aw.toI
def KH(l:List Tr):List Ap:=(BI l).map Aw.toI
def CJ(G:Nat->Prop)(sv:Vl)(n m:Nat)(l:List Ap)(w:Wl)(e:Ending)(w':Wl):Prop:=
 ∃c a d,e= nR c/\Ba w' c 55 6 (n+m) d/\Cr w' a l d/\Chg w w' sv.ownBlock.toList/\
  (∀g,c.ownBlock=nM g->sv.ownBlock=nM g\/w.heap.size<=g)/\(∀b,G b->a b)/\(∀b,a b->b<w.heap.size->G b)/\(∀b,a b->b<w'.heap.size)/\(∀g,c.ownBlock=nM g->¬a g)
theorem Nj.kept(h:Nj bs G sv n l xs w)(a:Chg w w' []):Nj bs G sv n l xs w':=
 ⟨h.lst.kept a,h.at_.kept (a.keepsF h.ltG) (fun _ h=>h),h.own,fun b c=>Q6 (h.ltG b c) a.size⟩
theorem Nj.sub{cs:List Nat}(h:Nj bs G sv n l xs w)(d:∀b,b∈cs->b∈bs):Nj cs G sv n l xs w:=
 ⟨h.lst,h.at_,fun g a=>⟨fun c=>(h.own g a).1 (d g c),(h.own g a).2⟩,h.ltG⟩
theorem CJ.inn{k:List Ap}(p:Nj bs G sv n l xs w)(o:∀b,b∈bs->b<w.heap.size)(h:CJ G sv n m k w e w'):
  ∃c a d,e= nR c/\Nj bs a c (n+m) k d w'/\Chg w w' sv.ownBlock.toList/\(∀g,c.ownBlock=nM g->sv.ownBlock=nM g\/w.heap.size<=g)/\(∀b,G b->a b)/\(∀b,a b->b<w.heap.size->G b):=by
 obtain⟨c,a,d,rfl,q,r,s,j,t,u,v,x⟩:=h;refine⟨c,a,d,rfl,⟨q,r,fun g f=>⟨fun i=> ?_,x g f⟩,v⟩,s,j,t,u⟩;rcases j g f with h|h
 .exact(p.own g h).1 i
 .have:=o g i;omega
theorem CJ.step{a:Nat->Prop}{o:Vl}{k:Nat}{wr:Wl}(p:∀b,G b->a b)(q:∀b,a b->b<w.heap.size->G b)(d:Chg w wr sv.ownBlock.toList)(i:∀g,o.ownBlock=nM g->sv.ownBlock=nM g\/w.heap.size<=g)(h:CJ a o (n+m) k l wr e w'):CJ G sv n (m+k) l w e w':=by
 obtain⟨C,G2,D,rfl,t,u,v,x,y,z,A,B⟩:=h;refine⟨C,G2,D,rfl,by rw[<-Nat.add_assoc];exact t,u, ?_, ?_,fun b c=>y b (p b c),fun b c f=>q b (z b c (Q6 f d.size)) f,A,B⟩
 .refine d.step v fun j s f=> ?_;rcases i j (by simpa using s)with h|h
  .simpa using h
  .omega
 .intro g r;rcases x g r with h|h
  .exact i g h
  .exact .inr (Q7 d.size h)
theorem CJ.same(h:Nj bs G sv n l xs w)(c:Chg w w' []):CJ G sv n 0 l w (nR sv) w':=by
 have a:=h.kept c;exact⟨sv,G,xs,rfl,a.lst,a.at_,c.none _,fun g b=> .inl b,fun _ h=>h,fun _ h _=>h,a.ltG,fun g b=>(h.own g b).2⟩
theorem KS{F:Nat->Prop}(s:Ap)(sk:Vl)(b:As w sk 1 s.keys.length (Ad s.keys))(a:SE F sk):Cr w F [s] (AI s sk):=
 ⟨sk,[],Zh,b,a,rfl⟩
theorem CJ.put{G2:Nat->Prop}{a w2:Wl}{s:Ap}{sk:Vl}{g cap:Nat}(m:Nj bs G sv n l xs w)(f:Chg w a [])(t:Ba w2 (nS (nM ⟨g,0,nN⟩) (n+1) cap) 55 6 (n+1) (xs++AI s sk))(d:Chg a w2 sv.ownBlock.toList)(u:sv.ownBlock=nM g\/w.heap.size<=g)(x:As a sk 1 s.keys.length (Ad s.keys))(k:SE G2 sk)(i:∀b,G b->G2 b)(q:∀b,G2 b->b<w.heap.size->G b)(o:∀b,G2 b->b<a.heap.size)(y:¬G2 g)(z:∀g,sv.ownBlock=nM g->¬G2 g):
  CJ G sv n 1 (l++[s]) w (nR (nS (nM ⟨g,0,nN⟩) (n+1) cap)) w2:=by
 have r:BZ G w a:=f.keepsF m.ltG;have j:BZ G2 a w2:=d.keepsF o (fun b e v=>z b (by simpa using e) v);refine⟨_,G2,_,rfl,t, ?_,(f.none _).trans d, ?_,i,q,fun b e=>Q6 (o b e) d.size, ?_⟩
 .exact((m.at_.kept r i).kept j (fun _ h=>h)).append (KS s sk (x.keptF k j) k)
 .intro p c;simp[Vl.ownBlock]at c;subst c;exact u
 .intro p c;simp[Vl.ownBlock]at c;subst c;exact y
end
section
open _root_.Go.Proofs.Tryz
open Go Go.RowKit Tree Ptr
variable{p:Prop}{w:Wl}
structure Hr(ks:List BY)(s:BY)(i:Nat):Prop where
 yes:C4 ks s=true->i=A5 ks s/\i<ks.length/\ks[i]? =nM s
 no:C4 ks s=false->s∉ks/\i<=ks.length/\(∀t k,t<i->ks[t]? =nM k->Utf.BK k s<0)/\(∀t k,i<=t->ks[t]? =nM k->0<=Utf.BK k s)
theorem Hr.of{ks:List BY}{s:BY}{w':Wl}{e:Ending}(h:KQ ks s w e w')(m:Cy ks):∃i:Nat,e= nR (nT #[nI nX i,.bool (C4 ks s)])/\Chg w w' []/\Hr ks s i/\i<=ks.length:=by
 obtain⟨i,ok,j,k,a,b,c,f,g⟩:=h
 have o:ok=C4 ks s:=by
  cases ok with
  |true=>
   have:=Cp.2 (Qi (a rfl));exact this.symm
  |false=>
   have:=b rfl;cases l:C4 ks s with
   |true=>exact absurd (Cp.1 l) this
   |false=>rfl
 subst o;refine⟨i,j,k,⟨fun p=> ?_,fun n=>⟨b n,c,f,g⟩⟩,c⟩;have hi:=a p;obtain⟨d,e⟩:=Qc.1 hi;have:=GU m.nodup i d;rw[e]at this;exact⟨this.symm,d,hi⟩
theorem yZ(h:p:=by exact cg cR):p:=h
theorem Pl(ks:List BY)(s:BY)(b:Nat)(sv sk:Vl)(w:Wl)(d:Ac w b [sv,sk] 163)(a:AK w sk 9 (Ad ks))(n:Cy ks)(v:Utf.Al s=true)(x:s.size<=2147483648):
  Cl prog 129 #[nP (nM ⟨b,0,nN⟩),nG s] w fun e w'=>∃i:Nat,e= nR (nT #[nI nX i,.bool (C4 ks s)])/\Chg w w' []/\Hr ks s i/\i<=ks.length:=by
 obtain⟨f,j,rfl,_⟩:=a.form;rw[Ao]at d a;have y:w.cell? ⟨b,1,nN⟩=nM (nS f ks.length j):=d.cell 1
 have t:=UD (∀c,Chg w c []->Cl prog 164 #[nS f ks.length j,nG s,.func (.func 103) #[] #[]] c fun e w'=>∃i:Nat,e= nR (nT #[nI nX i,.bool (C4 ks s)])/\Chg c w' []/\Hr ks s i/\i<=ks.length) fun c o=>
  (J7 (fun g=>(Vl.slice f ks.length j).ownBlock=nM g) _ ks s c (a.kept o).toRow (fun g u=>(a.kept o).lt u) n v x).mono fun e w' h=>Hr.of h n
 clear d a;go_enter func129,ntmps129
 go_wp2_with(first
  |(go_at_call 164;refine(t.o _ yZ).mono ?_;rintro e z ⟨i,rfl,k,l,m⟩;have p:=hZ k;have q:=hZ l;have r:=hZ m;clear k l m))
 refine bodyPost_ret (results_tmp2 rfl _ _ _) rfl ⟨i,Zh,by exact cg p.o,q.o,r.o⟩
theorem MU(w:Wl):(callMethod (nF 201 (nA #[])) "Sort" #[]).run prog w= .ok (.enter 291 #[nA #[]]) w:=Yb
theorem MT(b:Bool)(w:Wl):(callMethod (nF 202 (.bool b)) "Sort" #[]).run prog w= .ok (.enter 293 #[.bool b]) w:=Yb
theorem NM(b:Nat)(w:Wl):(callMethod (nF 203 (.float .f64 b)) "Sort" #[]).run prog w= .ok (.enter 295 #[.float .f64 b]) w:=Yb
theorem MV(b:BY)(w:Wl):(callMethod (nF 204 (nG b)) "Sort" #[]).run prog w= .ok (.enter 297 #[nG b]) w:=Yb
theorem yX(h:p:=by go_wp2;go_ret;exact⟨rfl,by exact cg cR⟩):p:=h
theorem Nl(w:Wl):Cl prog 291 #[nA #[]] w fun e w'=>e= nR (nI nX 1)/\Chg w w' []:=by
 go_enter func291,ntmps291;exact yX
theorem Nk(b:Bool)(w:Wl):Cl prog 293 #[.bool b] w fun e w'=>e= nR (nI nX 2)/\Chg w w' []:=by
 go_enter func293,ntmps293;exact yX
theorem OT(b:Nat)(w:Wl):Cl prog 295 #[.float .f64 b] w fun e w'=>e= nR (nI nX 3)/\Chg w w' []:=by
 go_enter func295,ntmps295;exact yX
theorem Nm(b:BY)(w:Wl):Cl prog 297 #[nG b] w fun e w'=>e= nR (nI nX 4)/\Chg w w' []:=by
 go_enter func297,ntmps297;exact yX
theorem Ba.slots{sv:Vl}{e:Ti}{sz n:Nat}{xs:List Vl}(h:Ba w sv e sz n xs):∃a c,sv= nS a n c:=by
 obtain⟨a,c,h,_⟩:=h.form;exact⟨a,c,h⟩
theorem yU(h:p:=by
 refine CJ.put (sk:= nS nN 0 0) (G2:=G) a.o (p.o.alloc _) C.o B.o ?_ ⟨nN,0,rfl,Q8 _,rfl,fun i v s=>by simp[Ad,Aa,Aw.toI]at s⟩ (fun b o n c e=>by cases e) (fun _ h=>h) (fun _ h _=>h) (fun b F=> ?_) ?_ (fun g H=>(a.o.own g H).2)
 .rcases u.o with h|h
  .exact .inl h
  .right;rw[World.size_alloc]at h;omega
 .have:=a.o.ltG b F;simp;omega
 .intro y;rcases u.o with h|h
  .exact(a.o.own _ h).2 y
  .have:=a.o.ltG _ y;rw[World.size_alloc]at h;omega):p:=h
theorem yV(h:p:=by rw[k];exact hZ (((Chg.refl w []).alloc _).trans f|>.alloc _)):p:=h
theorem yW(h:p:=by exact a.o.lst.kept (bs:=[]) (by exact cg p.o) Zh):p:=h
theorem yY(h:p:=by rw[k,q];exact hZ (Ac.new _ _ _)):p:=h
theorem JW(G:Nat->Prop)(sv:Vl)(n:Nat)(l:List Ap)(xs:List Vl)(w:Wl)(r:Nj [] G sv n l xs w)(I:n+1<=4294967296):
  Cl prog 287 #[nA #[AG .null],sv] w (CJ G sv n 1 (l++MW .null) w):=by
 obtain⟨K,L,rfl⟩:=r.lst.slots;have M:∀(w:Wl),(Instr.typeAssert (nF 201 (nA #[])) 167 202 true).run prog w= .ok (nT #[.bool false,.bool false]) w:=fun _=>Yb;have N:∀(w:Wl),(Instr.typeAssert (nF 201 (nA #[])) 167 203 true).run prog w= .ok (nT #[.float .f64 0,.bool false]) w:=fun _=>Yb;have O:∀(w:Wl),(Instr.typeAssert (nF 201 (nA #[])) 167 204 true).run prog w= .ok (nT #[nG ⟨#[]⟩,.bool false]) w:=fun _=>Yb;have a:=hZ r;have t:=UD ((n+1)*72<=140737488355328/\n<=140737488355328) ⟨Zj,Zj⟩;clear r I;unfold AG;go_enter func287,ntmps287
 go_upto_region 12 with(first
  |(refine Am rfl _ _ _ rfl _ rfl 291 #[nA #[]] (MU _) _ (Nl _) ?_;rintro e d ⟨rfl,f⟩;refine⟨_,rfl, ?_⟩;have E:d.cell? ⟨w.heap.size,0,nN⟩=nM (nF 201 (nA #[])):=f.keeps (Bx rfl _ _);have J:w.heap.size<d.heap.size:=by have:=f.size;simp at this;omega)
  |(go_at_call 288;refine(Pj _ _).mono ?_;rintro e R ⟨rfl,rfl⟩))
 obtain⟨X,q⟩:=Ue d.heap.size;obtain⟨m,k⟩:=Ue (d.alloc (nC (AI (Aa .null).toI (nS nN 0 0)).toArray 55));have D:Hid (Ac m X (AI (Aa .null).toI (nS nN 0 0)) 55):=yY
 have p:Hid (Chg w m []):=yV
 change Code.wp _ _ _ _ (d.alloc (nC (AI (Aa .null).toI (nS nN 0 0)).toArray 55));rw[<-k,<-q];obtain⟨xl,Z,S,T,U,V,W,Y⟩:=D.o.cells6;clear k q f E J
 go_wp2_with(first
  |(at_builtin;go_loud(refine Bg rfl _ _ _ rfl 55 Iq 6 72 ZM underlying22 DM rfl (nS K n L) n xs ZN yW m.heap.size (AI (Aa .null).toI (nS nN 0 0)) ZN rfl (by intro j v s;exact((Ac.new m (AI (Aa .null).toI (nS nN 0 0)) 55).cell j).trans s) (C0 _ _ _ _) t.o.1 t.o.2 ?_);intro g cap Q z x A;have C:=hZ z;have B:=hZ x;have u:=hZ A;clear z x A))
 go_ret;have P:=p.o.size;exact yU
theorem JV(b:Bool)(G:Nat->Prop)(sv:Vl)(n:Nat)(l:List Ap)(xs:List Vl)(w:Wl)(r:Nj [] G sv n l xs w)(I:n+1<=4294967296):
  Cl prog 287 #[nA #[AG (.flag b)],sv] w (CJ G sv n 1 (l++MW (.flag b)) w):=by
 obtain⟨K,L,rfl⟩:=r.lst.slots;have M:∀(w:Wl),(Instr.typeAssert (nF 202 (.bool b)) 167 202 true).run prog w= .ok (nT #[.bool b,.bool true]) w:=fun _=>Yb;have a:=hZ r;have t:=UD ((n+1)*72<=140737488355328/\n<=140737488355328) ⟨Zj,Zj⟩;clear r I;unfold AG;go_enter func287,ntmps287
 go_upto_region 12 with(first
  |(refine Am rfl _ _ _ rfl _ rfl 293 #[.bool b] (MT b _) _ (Nk b _) ?_;rintro e d ⟨rfl,f⟩;refine⟨_,rfl, ?_⟩;have E:d.cell? ⟨w.heap.size,0,nN⟩=nM (nF 202 (.bool b)):=f.keeps (Bx rfl _ _);have J:w.heap.size<d.heap.size:=by have:=f.size;simp at this;omega)
  |(go_at_call 288;refine(Pj _ _).mono ?_;rintro e P ⟨rfl,rfl⟩))
 obtain⟨X,q⟩:=Ue d.heap.size;obtain⟨m,k⟩:=Ue (d.alloc (nC (AI (Aa (.flag b)).toI (nS nN 0 0)).toArray 55));have D:Hid (Ac m X (AI (Aa (.flag b)).toI (nS nN 0 0)) 55):=yY
 have p:Hid (Chg w m []):=yV
 change Code.wp _ _ _ _ (d.alloc (nC (AI (Aa (.flag b)).toI (nS nN 0 0)).toArray 55));rw[<-k,<-q];obtain⟨Y,W,Q,R,S,T,U,V⟩:=D.o.cells6;clear k q f E J
 go_wp2_with(first
  |(at_builtin;go_loud(refine Bg rfl _ _ _ rfl 55 Iq 6 72 ZM underlying22 DM rfl (nS K n L) n xs ZN yW m.heap.size (AI (Aa (.flag b)).toI (nS nN 0 0)) ZN rfl (by intro j v s;exact((Ac.new m (AI (Aa (.flag b)).toI (nS nN 0 0)) 55).cell j).trans s) (C0 _ _ _ _) t.o.1 t.o.2 ?_);intro g cap O z x A;have C:=hZ z;have B:=hZ x;have u:=hZ A;clear z x A))
 go_ret;have N:=p.o.size;exact yU
theorem Ky(b:Nat)(G:Nat->Prop)(sv:Vl)(n:Nat)(l:List Ap)(xs:List Vl)(w:Wl)(r:Nj [] G sv n l xs w)(I:n+1<=4294967296):
  Cl prog 287 #[nA #[AG (.num b)],sv] w (CJ G sv n 1 (l++MW (.num b)) w):=by
 obtain⟨K,L,rfl⟩:=r.lst.slots;have M:∀(w:Wl),(Instr.typeAssert (nF 203 (.float .f64 b)) 167 202 true).run prog w= .ok (nT #[.bool false,.bool false]) w:=fun _=>Yb;have N:∀(w:Wl),(Instr.typeAssert (nF 203 (.float .f64 b)) 167 203 true).run prog w= .ok (nT #[.float .f64 b,.bool true]) w:=fun _=>Yb;have a:=hZ r;have t:=UD ((n+1)*72<=140737488355328/\n<=140737488355328) ⟨Zj,Zj⟩;clear r I;unfold AG;go_enter func287,ntmps287
 go_upto_region 12 with(first
  |(refine Am rfl _ _ _ rfl _ rfl 295 #[.float .f64 b] (NM b _) _ (OT b _) ?_;rintro e d ⟨rfl,f⟩;refine⟨_,rfl, ?_⟩;have E:d.cell? ⟨w.heap.size,0,nN⟩=nM (nF 203 (.float .f64 b)):=f.keeps (Bx rfl _ _);have J:w.heap.size<d.heap.size:=by have:=f.size;simp at this;omega)
  |(go_at_call 288;refine(Pj _ _).mono ?_;rintro e Q ⟨rfl,rfl⟩))
 obtain⟨X,q⟩:=Ue d.heap.size;obtain⟨m,k⟩:=Ue (d.alloc (nC (AI (Aa (.num b)).toI (nS nN 0 0)).toArray 55));have D:Hid (Ac m X (AI (Aa (.num b)).toI (nS nN 0 0)) 55):=yY
 have p:Hid (Chg w m []):=yV
 change Code.wp _ _ _ _ (d.alloc (nC (AI (Aa (.num b)).toI (nS nN 0 0)).toArray 55));rw[<-k,<-q];obtain⟨Z,Y,R,S,T,U,V,W⟩:=D.o.cells6;clear k q f E J
 go_wp2_with(first
  |(at_builtin;go_loud(refine Bg rfl _ _ _ rfl 55 Iq 6 72 ZM underlying22 DM rfl (nS K n L) n xs ZN yW m.heap.size (AI (Aa (.num b)).toI (nS nN 0 0)) ZN rfl (by intro j v s;exact((Ac.new m (AI (Aa (.num b)).toI (nS nN 0 0)) 55).cell j).trans s) (C0 _ _ _ _) t.o.1 t.o.2 ?_);intro g cap P z x A;have C:=hZ z;have B:=hZ x;have u:=hZ A;clear z x A))
 go_ret;have O:=p.o.size;exact yU
theorem JX(b:BY)(G:Nat->Prop)(sv:Vl)(n:Nat)(l:List Ap)(xs:List Vl)(w:Wl)(r:Nj [] G sv n l xs w)(I:n+1<=4294967296):
  Cl prog 287 #[nA #[AG (.text b)],sv] w (CJ G sv n 1 (l++MW (.text b)) w):=by
 obtain⟨K,L,rfl⟩:=r.lst.slots;have M:∀(w:Wl),(Instr.typeAssert (nF 204 (nG b)) 167 202 true).run prog w= .ok (nT #[.bool false,.bool false]) w:=fun _=>Yb;have N:∀(w:Wl),(Instr.typeAssert (nF 204 (nG b)) 167 203 true).run prog w= .ok (nT #[.float .f64 0,.bool false]) w:=fun _=>Yb;have O:∀(w:Wl),(Instr.typeAssert (nF 204 (nG b)) 167 204 true).run prog w= .ok (nT #[nG b,.bool true]) w:=fun _=>Yb;have a:=hZ r;have t:=UD ((n+1)*72<=140737488355328/\n<=140737488355328) ⟨Zj,Zj⟩;clear r I;unfold AG;go_enter func287,ntmps287
 go_upto_region 12 with(first
  |(refine Am rfl _ _ _ rfl _ rfl 297 #[nG b] (MV b _) _ (Nm b _) ?_;rintro e d ⟨rfl,f⟩;refine⟨_,rfl, ?_⟩;have E:d.cell? ⟨w.heap.size,0,nN⟩=nM (nF 204 (nG b)):=f.keeps (Bx rfl _ _);have J:w.heap.size<d.heap.size:=by have:=f.size;simp at this;omega)
  |(go_at_call 288;refine(Pj _ _).mono ?_;rintro e R ⟨rfl,rfl⟩))
 obtain⟨X,q⟩:=Ue d.heap.size;obtain⟨m,k⟩:=Ue (d.alloc (nC (AI (Aa (.text b)).toI (nS nN 0 0)).toArray 55));have D:Hid (Ac m X (AI (Aa (.text b)).toI (nS nN 0 0)) 55):=yY
 have p:Hid (Chg w m []):=yV
 change Code.wp _ _ _ _ (d.alloc (nC (AI (Aa (.text b)).toI (nS nN 0 0)).toArray 55));rw[<-k,<-q];obtain⟨xl,Z,S,T,U,V,W,Y⟩:=D.o.cells6;clear k q f E J
 go_wp2_with(first
  |(at_builtin;go_loud(refine Bg rfl _ _ _ rfl 55 Iq 6 72 ZM underlying22 DM rfl (nS K n L) n xs ZN yW m.heap.size (AI (Aa (.text b)).toI (nS nN 0 0)) ZN rfl (by intro j v s;exact((Ac.new m (AI (Aa (.text b)).toI (nS nN 0 0)) 55).cell j).trans s) (C0 _ _ _ _) t.o.1 t.o.2 ?_);intro g cap Q z x A;have C:=hZ z;have B:=hZ x;have u:=hZ A;clear z x A))
 go_ret;have P:=p.o.size;exact yU
theorem Rn{a b:Nat}(c:Hs a)(d:Hs b):(FloatKind.f64.format.order a b==nM .eq)=decide (a=b):=by
 have f:∀{n:Nat},Hs n->Fl.A7 n=0->n=0:=fun{n} h g=>by
  have:=h.2.2;unfold Cg at this;rw[Qr g]at this;exact this.symm
 have e:∀{n:Nat},Hs n->Fl.A7 n<9218868437227405312:=fun{n} h=>by have:=h.2.1;unfold Fl.Fh at this;simpa using this
 exact Fl.Tq c.1 d.1 (e c) (e d) (f c) (f d)
def AX:Tr->Bool
 | .list _=>false
 | .obj _ _=>false
 |_=>true
theorem Nv(w:Wl):(binOp .eql 167 (AG .null) (AG .null)).run prog w= .ok (.bool true) w:=Yb
theorem Nu(b:Bool)(w:Wl):(binOp .eql 167 (AG .null) (AG (.flag b))).run prog w= .ok (.bool false) w:=Yb
theorem O5(b:Nat)(w:Wl):(binOp .eql 167 (AG .null) (AG (.num b))).run prog w= .ok (.bool false) w:=Yb
theorem Nw(b:BY)(w:Wl):(binOp .eql 167 (AG .null) (AG (.text b))).run prog w= .ok (.bool false) w:=Yb
theorem Nr(a:Bool)(w:Wl):(binOp .eql 167 (AG (.flag a)) (AG .null)).run prog w= .ok (.bool false) w:=Yb
theorem Nq(a:Bool)(b:Bool)(w:Wl):(binOp .eql 167 (AG (.flag a)) (AG (.flag b))).run prog w= .ok (.bool (a==b)) w:=Yb
theorem O3(a:Bool)(b:Nat)(w:Wl):(binOp .eql 167 (AG (.flag a)) (AG (.num b))).run prog w= .ok (.bool false) w:=Yb
theorem Ns(a:Bool)(b:BY)(w:Wl):(binOp .eql 167 (AG (.flag a)) (AG (.text b))).run prog w= .ok (.bool false) w:=Yb
theorem O7(a:Nat)(w:Wl):(binOp .eql 167 (AG (.num a)) (AG .null)).run prog w= .ok (.bool false) w:=Yb
theorem O6(a:Nat)(b:Bool)(w:Wl):(binOp .eql 167 (AG (.num a)) (AG (.flag b))).run prog w= .ok (.bool false) w:=Yb
theorem QI(a:Nat)(b:Nat)(w:Wl):(binOp .eql 167 (AG (.num a)) (AG (.num b))).run prog w= .ok (.bool (FloatKind.f64.format.order a b==nM .eq)) w:=Yb
theorem O8(a:Nat)(b:BY)(w:Wl):(binOp .eql 167 (AG (.num a)) (AG (.text b))).run prog w= .ok (.bool false) w:=Yb
theorem Ny(a:BY)(w:Wl):(binOp .eql 167 (AG (.text a)) (AG .null)).run prog w= .ok (.bool false) w:=Yb
theorem Nx(a:BY)(b:Bool)(w:Wl):(binOp .eql 167 (AG (.text a)) (AG (.flag b))).run prog w= .ok (.bool false) w:=Yb
theorem O9(a:BY)(b:Nat)(w:Wl):(binOp .eql 167 (AG (.text a)) (AG (.num b))).run prog w= .ok (.bool false) w:=Yb
theorem Nz(a:BY)(b:BY)(w:Wl):(binOp .eql 167 (AG (.text a)) (AG (.text b))).run prog w= .ok (.bool (a==b)) w:=Yb
theorem P0(a b:BY):(a==b)=decide (a=b):=by
 have e:(a==b)=(a.data==b.data):=by cases a;cases b;rfl
 rw[e,Bool.eq_iff_iff,beq_iff_eq,decide_eq_true_eq];exact⟨fun h=>ByteArray.ext h,fun h=>by rw[h]⟩
theorem XJ(a b:Tr)(d:AX a=true)(c:AX b=true)(e:Av a)(f:Av b)(w:Wl):(binOp .eql 167 (AG a) (AG b)).run prog w= .ok (.bool (BQ a b)) w:=by
 cases a with
 |list _=>simp[AX]at d
 |obj _ _=>simp[AX]at d
 |null=>cases b with
  |list _=>simp[AX]at c
  |obj _ _=>simp[AX]at c
  |null=>exact Nv w
  |flag b=>exact Nu b w
  |num b=>exact O5 b w
  |text b=>exact Nw b w
 |flag a=>cases b with
  |list _=>simp[AX]at c
  |obj _ _=>simp[AX]at c
  |null=>exact Nr a w
  |flag b=>exact Nq a b w
  |num b=>exact O3 a b w
  |text b=>exact Ns a b w
 |num a=>cases b with
  |list _=>simp[AX]at c
  |obj _ _=>simp[AX]at c
  |null=>exact O7 a w
  |flag b=>exact O6 a b w
  |num b=>rw[QI a b w,Rn (by simpa only[Av]using e) (by simpa only[Av]using f)];simp only[BQ]
  |text b=>exact O8 a b w
 |text a=>cases b with
  |list _=>simp[AX]at c
  |obj _ _=>simp[AX]at c
  |null=>exact Ny a w
  |flag b=>exact Nx a b w
  |num b=>exact O9 a b w
  |text b=>rw[Nz a b w,P0];simp only[BQ]
theorem Hc(ks:List BY)(k:Nat):Ay (ks.take k)<=Ay ks:=by
 have:=congrArg Ay (List.take_append_drop k ks);rw[Hx]at this;omega
theorem NJ(ks:List BY)(l:List Tr)(vs:List Vl)(z:List Nat)(b:Nat)(a:Option Addr)(c:Nat)(sk:Vl)(w:Wl)(d:Ac w b [nS a vs.length c,sk] 163)(A:AK w (nS a vs.length c) 67 vs)(h:AK w sk 9 (Ad ks))(C:PsAt w l vs z)(p:∀u∈l,(Ag u).within=true)(T:l.length<=65536)(hk:ks.length=l.length)(E:Ay ks<=2097152)(y:∀u v P w',u∈l->AP w' u v P->JB v (Ag u) w'):
  Cl prog 283 #[nP (nM ⟨b,0,nN⟩)] w fun e w'=>e= nR (Jv ((Bk l).over (Ay ks)))/\Chg w w' []:=by
 have f:=KW p l.length;rw[Qn (Q8 _)]at f;have R:w.cell? ⟨b,0,nN⟩=nM (nS a vs.length c):=d.cell 0;have F:w.cell? ⟨b,1,nN⟩=nM sk:=d.cell 1;have W:=d.lt;have x:=hZ (Ld l vs z b a c w R A C p T y);obtain⟨V,kc,rfl,I⟩:=h.form;rw[Ao]at F h;have N:=hZ h;obtain⟨S,D⟩:=Ue (Bk l);rw[<-D]at f x|-;obtain⟨X,K,Y⟩:=S;simp only at f;have n1:X<=4294967296:=Zj;have n2:K<=137438953472:=Zj;have n3:Y<=512:=f.2.2;have J:Ad ks≠[]->∃g,V=nM ⟨g,0,nN⟩:=I;have O:=hZ J;have t:=hZ E;clear f D A C h p y I J E d;go_enter func283,ntmps283;go_wp2_with(first|(go_at_call 276;refine x.o.mono ?_;rintro e w1 ⟨rfl,i⟩;unfold Jv Sz.over;have aa:=i.keeps F;have ae:=Q6 W i.size;have M:=hZ i;clear i))
 go_loopw [3,20] (fun Z r wr=>∃k:Nat,k<=ks.length/\Z= nI nX (K+Ay (ks.take k))/\r= nI nX k/\Chg w wr [])
  (fun _ r _=>ks.length-(intOf r).toNat)
 case atStart=>exact⟨0,Zj,by simp[Ay],rfl,M.o⟩
 case round=>
  obtain⟨k,ad,rfl,rfl,H⟩:=hrel;have o:=Hc ks k;obtain⟨B,d⟩:=Ue (Ay (ks.take k));rw[<-d]at o|-;have n4:B<=2097152:=Q7 o t.o;have j:=hZ d;have m:=hZ H;clear o d H;by_cases U:k<ks.length
  .obtain⟨s,q⟩:∃s,ks[k]? =nM s:=⟨_,Q9 U⟩;obtain⟨g,rfl⟩:=O.o (by intro e;have Q:(Ad ks).length=0:=(by rw[e];rfl);rw[Ao]at Q;omega);have ab:wr.cell? ⟨g,k,nN⟩=nM (nG s):=m.o.keeps (N.o.cell rfl k _ (by simp[Ad,q]));have n:=FH q;have G:=Hc ks (k+1);have n5:B+s.size<=2097152:=by rw[j.o,<-n];exact Q7 G t.o
   have L:=hZ n;clear q n G;go_wp2;go_roundw
   case rel=>exact⟨k+1,Zj,by rw[L.o,<-j.o];simp;omega,by go_num,m.o⟩
   case measure=>simp[intOf];omega
  .obtain rfl:k=ks.length:=by omega
   go_wp2;refine bodyPost_ret (results_tmp3 rfl _ _ _) rfl ?_;have e:=j.o;rw[Qn (Q8 _)]at e;subst e;refine⟨?_,m.o⟩;unfold Jv Sz.over;simp;omega
theorem MD:∀(k:Nat) (t:Tr) (v:Vl) (bs:List Nat) (w:Wl),(Ag t).nodes<=k->Av t->(Ag t).within=true->AP w t v bs->JB v (Ag t) w:=by
 intro k;induction k with
 |zero=>intro t _ _ _ h;have:=Cv t;omega
 |succ k L=>
  intro t v bs w N E z d
  have j:∀u v p w',u∈Ab t->AP w' u v p->JB v (Ag u) w':=by
   intro u v p w' g F;obtain⟨i,hi⟩:=List.mem_iff_getElem?.1 g;have:=CO hi;exact L u v p w' Zj (E.items u g) (C8 z g) F
  have m:∀u∈Ab t,(Ag u).within=true:=fun u g=>C8 z g;have K:=Ar z;have A:=Bj t
  have o:∀(e:Vl) (s:BY) (b:Bool),v= nF 169 (nA #[e])->(∃M x,e= nF M x)->Ag t=⟨1,s.size,1⟩->
    (∀w,(Instr.typeAssert e 167 204 true).run prog w= .ok (nT #[nG s,.bool b]) w)->JB v (Ag t) w:=by
   intro e s b J G H I;subst J;rw[H];exact⟨_,_,VB e w,RD e s b G I w⟩
  cases t with
  |null=>
   simp only[AP]at d;exact o (AG .null) ⟨#[]⟩ false d.1 ⟨_,_,rfl⟩ rfl (fun _=>by unfold AG;kernel_rfl)
  |flag x=>
   simp only[AP]at d;exact o (AG (.flag x)) ⟨#[]⟩ false d.1 ⟨_,_,rfl⟩ rfl (fun _=>by unfold AG;kernel_rfl)
  |num n=>
   simp only[AP]at d;exact o (AG (.num n)) ⟨#[]⟩ false d.1 ⟨_,_,rfl⟩ rfl (fun _=>by unfold AG;kernel_rfl)
  |text s=>
   simp only[AP]at d;exact o (AG (.text s)) s true d.1 ⟨_,_,rfl⟩ rfl (fun _=>by unfold AG;kernel_rfl)
  |list l=>
   simp only[AP]at d;obtain⟨b,sv,vs,q,rfl,r,f,y,_⟩:=d;obtain⟨a,c,rfl,_⟩:=f.form;simp only[Ab]at A j m;exact⟨_,_,VC b w,Ld l vs q b a c w (r.cell 0) f y m Zj j⟩
  |obj ks l=>
   simp only[AP]at d;obtain⟨b,sv,sk,vs,q,rfl,r,f,B,C,y,_⟩:=d;obtain⟨a,c,rfl,_⟩:=f.form;simp only[Ab]at A j m;have D:Ay ks<=2097152:=by have:=K.2.1;simp only[Ag,Sz.over]at this;omega
   exact⟨_,_,Se b w,NJ ks l vs q b a c sk w r f B y m Zj C D j⟩
end
section
open Go Go.RowKit Tree Ptr

end
section
open _root_.Go.Proofs.Tryz
open Go Go.RowKit Tree Ptr
variable{L:List Ap}{bs:List Nat}{l:List Tr}{k m n:Nat}{G:Nat->Prop}{u:Tr}{b sv:Vl}{c w:Wl}
theorem Ft{P:Program}{c:Array Oper}{rest:List Oper}{o:Oper}{a:Act}{Q:Exit->Act->Wl->Prop}(k:o.guard=nN)(r x:Operand)(b:String)(s:Array Ti)(m:o.op= .call {callee:= .invoke r b,args:=#[x],argTypes:=s})(v u:Vl)(p:a.eval r=v)(q:a.eval x=u)(f:FuncId)(args:Array Vl)(l:(callMethod v b #[u]).run P w= .ok (.enter f args) w)(R:Ending->Wl->Prop)(i:Cl P f args w R)(g:∀e w2,R e w2->∃u,e= nR u/\wpList P c Q rest (a.put o.dst u) w2):wpList P c Q (o::rest) a w:=by
 refine wpList_plain k fun K d=> ?_;unfold Oper.wp
 have j:(execOp a.eval o).run P w= .ok (.enter f args) w:=by
  simp[execOp,m,resolve,invoke,p,q,l]
 rw[j];refine i.mono fun e w2 h=> ?_;obtain⟨u,rfl,n⟩:=g e w2 h;exact d _ _ n
theorem GZ(v sv:Vl)(w:Wl):(callMethod (nF 169 (nA #[v])) EB #[sv]).run prog w= .ok (.enter 287 #[nA #[v],sv]) w:=Yb
theorem TW(b:Nat)(sv:Vl)(w:Wl):(callMethod (nF 155 (nP (nM ⟨b,0,nN⟩))) EB #[sv]).run prog w= .ok (.enter 277 #[nP (nM ⟨b,0,nN⟩),sv]) w:=Yb
theorem PH(b:Nat)(sv:Vl)(w:Wl):(callMethod (nF 161 (nP (nM ⟨b,0,nN⟩))) EB #[sv]).run prog w= .ok (.enter 284 #[nP (nM ⟨b,0,nN⟩),sv]) w:=Yb
def LQ(v:Vl)(t:Tr)(bs:List Nat)(w:Wl):Prop:=∀(G:Nat->Prop) (sv:Vl) (n:Nat) (l:List Ap) (xs:List Vl),Nj bs G sv n l xs w->n+(Ag t).nodes<=4294967296->
 ∃f args,(callMethod v EB #[sv]).run prog w= .ok (.enter f args) w/\Cl prog f args w (CJ G sv n (Ag t).nodes (l++MW t) w)
theorem VK(h:l[k]? =nM u):KH (l.take (k+1))=KH (l.take k)++MW u:=by
 unfold KH MW;rw[EA h,List.map_append]
theorem NO(h:l[k]? =nM u):(Bk (l.take k)).nodes+(Ag u).nodes<=(Bk l).nodes:=by
 have a:=M4 l (k+1);rw[BM h]at a;exact a
theorem I4(l:List Tr)(vs:List Vl)(M bs:List Nat)(b:Nat)(a:Option Addr)(c:Nat)(w:Wl)(hb:w.cell? ⟨b,0,nN⟩=nM (nS a vs.length c))(R:AK w (nS a vs.length c) 67 vs)(A:PsAt w l vs M)(S:∀x,x∈b::((Vl.slice a vs.length c).ownBlock.toList++M)->x∈bs)(s:∀x,x∈bs->x<w.heap.size)(hl:l.length<=65536)(G:Nat->Prop)(sv:Vl)(n:Nat)(L:List Ap)(xs:List Vl)(V:Nj bs G sv n L xs w)(hn:n+(Bk l).nodes<=4294967296)(K:∀u v h w',u∈l->AP w' u v h->(∀x,x∈h->x<w'.heap.size)->LQ v u h w'):
  Cl prog 279 #[nP (nM ⟨b,0,nN⟩),sv] w (CJ G sv n (Bk l).nodes (L++KH l) w):=by
 have ak:=A.length;have lb:=World.block_lt_of_cell? w _ hb;have J:=hZ R;have HP:=hZ A;have HI:=hZ K;have q:=hZ V;have I:=hZ S;have y:=hZ s;clear R A K V S s;go_enter func279,ntmps279;go_wp2
 go_loopw [1,12] (fun d F wr=>∃(k:Nat) (o:Vl),k<=vs.length/\o=d/\F= nI nX k/\CJ G sv n (Bk (l.take k)).nodes (L++KH (l.take k)) w (nR o) wr)
  (fun _ F _=>vs.length-(intOf F).toNat)
 case atStart=>exact⟨0,sv,Zj,rfl,rfl,by have:=CJ.same q.o cR;simpa[Bk,KH,BI]using this⟩
 case round=>
  obtain⟨k,o,hk,rfl,rfl,B⟩:=hrel;obtain⟨v0,G',al,z,W,N,O,P,Q⟩:=CJ.inn q.o y.o B;injection z with z
  subst z;have HS:=hZ B;have aa:=hZ W;have p:=hZ N;have H4:=hZ O;have H5:=hZ P;have H6:=hZ Q;clear B W N O P Q;by_cases s:k<vs.length
  .have D:k<l.length:=by omega
   obtain⟨u,i⟩:∃u,l[k]? =nM u:=⟨_,Q9 D⟩;obtain⟨v,h,Z,X,T⟩:=HP.o.get i
   obtain⟨g,rfl⟩:∃g,a=nM ⟨g,0,nN⟩:=by
    obtain⟨a',c',e,h⟩:=J.o.form;injection e with e1
    subst e1;exact h (by intro e;subst e;simp at s)
   have C:g∈bs:=I.o g (by simp[Vl.ownBlock]);have ai:wr.cell? ⟨g,k,nN⟩=nM v:=(p.o.cell (y.o g C) (fun t=>(q.o.own g (by simpa using t)).1 C)).trans (J.o.cell rfl k v Z);have r:∀x,x∈h->x∈bs:=fun x m=>I.o x (by simp[T x m]);have E:=X.chg p.o (fun x m ah=>(q.o.own x (by simpa using m)).1 (r x ah));have Y:=Qi i;obtain⟨ti,x,rfl⟩:=E.iface;have ag:=NO i;obtain⟨f,args,t,U⟩:=HI.o u _ h wr Y E (fun x m=>Q6 (y.o x (r x m)) p.o.size) G' o _ _ _ (aa.o.sub r) Zj
   have af:Cl prog f args wr fun e H=>∃d,e= nR d/\CJ G sv n (Bk (l.take (k+1))).nodes (L++KH (l.take (k+1))) w (nR d) H:=by
    refine U.mono fun e H j=> ?_;have ae:=CJ.step H5.o H6.o p.o H4.o j;rw[BM i,VK i,<-List.append_assoc];obtain⟨d,G1,am,he,aj⟩:=j;subst he;exact⟨d,rfl,ae⟩
   have ab:=hZ t;clear t Z X E i Y ag r T C U
   go_wp2_with(first
    |(refine Ft rfl _ _ _ _ rfl (nF ti x) o ZN ZN f args ab.o _ af ?_;rintro e H ⟨d,rfl,j⟩;refine⟨_,rfl, ?_⟩;have ad:=hZ j;clear j))
   go_roundw
   case rel=>exact⟨k+1,_,Zj,rfl,by go_num,ad.o⟩
   case measure=>simp[intOf];omega
  .go_wp2;go_ret;have D:l.take k=l:=Qn Zj;have:=HS.o;rwa[D]at this
structure I9(bs:List Nat)(G:Nat->Prop)(sv:Vl)(n:Nat)(L:List Ap)(w:Wl)(v1:Vl)(w1:Wl):Prop where
 ex:∃G1 xs1,Nj bs G1 v1 n L xs1 w1/\(∀b,G b->G1 b)/\(∀b,G1 b->b<w.heap.size->G b)
 chg:Chg w w1 sv.ownBlock.toList
 own:∀g,v1.ownBlock=nM g->sv.ownBlock=nM g\/w.heap.size<=g
theorem I9.of{l f:List Ap}{xs:List Vl}{i w':Wl}{e:Ending}(t:Nj bs G sv n l xs w)(s:∀b,b∈bs->b<w.heap.size)(a:Chg w i [])(h:CJ G sv n m f i e w'):
  ∃c,e= nR c/\I9 bs G sv (n+m) f w c w':=by
 obtain⟨c,j,x,rfl,k,o,p,q,r⟩:=CJ.inn (t.kept a) (fun b v=>Q6 (s b v) a.size) h;refine⟨c,rfl,⟨⟨j,x,k,q,fun b d u=>r b d (Q6 u a.size)⟩,(a.none _).trans o,fun g d=> ?_⟩⟩;rcases p g d with h|h
 .exact .inl h
 .exact .inr (Q7 a.size h)
theorem I9.kept{w2:Wl}(h:I9 bs G sv n L w b c)(a:Chg c w2 []):I9 bs G sv n L w b w2:=by
 obtain⟨⟨d,k,e,f,g⟩,i,j⟩:=h;exact⟨⟨d,k,e.kept a,f,g⟩,i.trans (a.none _),j⟩
theorem I9.slots{e:Wl}(h:I9 bs G sv n L w b e):∃a c,b= nS a n c:=by
 obtain⟨⟨f,g,d,_⟩,_⟩:=h;exact d.lst.slots
theorem XQ(l:List Tr):MW (.list l)=KH l++[(Aa (.list l)).toI]:=by unfold MW KH;simp[Ai]
theorem YT(ks:List BY)(l:List Tr):MW (.obj ks l)=KH l++[(Aa (.obj ks l)).toI]:=by unfold MW KH;simp[Ai]
theorem Ff(w:Wl)(cs:List Vl)(T:Ti):∀j v,cs[j]? =nM v->(w.alloc (nC cs.toArray T)).cell? ⟨w.heap.size,j,nN⟩=nM v:=fun j v a=>((Ac.new w cs T).cell j).trans a
theorem I9.put{k:Wl}{e:Option Addr}{c1:Nat}{s:Ap}{sk:Vl}{g cap:Nat}(h:I9 bs G sv (n+m) L w (nS e (n+m) c1) c)(a:∀b,b∈bs->b<w.heap.size){x:List Vl}{d G2:Nat->Prop}(z:Nj bs d (nS e (n+m) c1) (n+m) L x c)(A:∀b,G b->d b)(B:∀b,d b->b<w.heap.size->G b)(E:Ba k (nS (nM ⟨g,0,nN⟩) (n+m+1) cap) 55 6 (n+m+1) (x++AI s sk))(l:Chg c k (Vl.slice e (n+m) c1).ownBlock.toList)(t:(Vl.slice e (n+m) c1).ownBlock=nM g\/c.heap.size<=g)(I:As c sk 1 s.keys.length (Ad s.keys))(u:SE G2 sk)(q:∀b,d b->G2 b)(D:∀b,G2 b->b<w.heap.size->d b)(p:∀b,G2 b->b<c.heap.size)(v:∀g,(Vl.slice e (n+m) c1).ownBlock=nM g->¬G2 g):
  CJ G sv n (m+1) (L++[s]) w (nR (nS (nM ⟨g,0,nN⟩) (n+m+1) cap)) k:=by
 have J:=h.chg.size;have r:BZ G2 c k:=l.keepsF p (fun b a F=>v b (by simpa using a) F);refine⟨_,G2,_,rfl,by rw[<-Nat.add_assoc];exact E,((z.at_.kept (fun _ _ _=>rfl) q).kept r (fun _ h=>h)).append (KS s sk (I.keptF u r) u),h.chg.step l fun j H o=> ?_, ?_,fun b a=>q b (A b a),fun b a o=>B b (D b a o) o,fun b a=>Q6 (p b a) l.size, ?_⟩
 .rcases h.own j (by simpa using H)with h|h
  .simpa using h
  .omega
 .intro y i;simp[Vl.ownBlock]at i;subst i;rcases t with f|f
  .exact h.own _ f
  .exact .inr Zj
 .intro y i;simp[Vl.ownBlock]at i;subst i;rcases t with f|f
  .exact v _ f
  .intro C;have:=p _ C;omega
theorem y7{p:Prop}(h:p:=by simpa using d):p:=h
theorem Pm(l:List Tr)(vs:List Vl)(y:List Nat)(b:Nat)(a:Option Addr)(c:Nat)(w:Wl)(T:Ac w b [nS a vs.length c] 158)(hL:AK w (nS a vs.length c) 67 vs)(V:PsAt w l vs y)(hl:l.length<=65536)(G:Nat->Prop)(sv:Vl)(n:Nat)(L:List Ap)(xs:List Vl)(s:Nj (b::((Vl.slice a vs.length c).ownBlock.toList++y)) G sv n L xs w)(hn:n+(Ag (.list l)).nodes<=4294967296)(C:∀x,x∈b::((Vl.slice a vs.length c).ownBlock.toList++y)->x<w.heap.size)(IH:∀u v S w',u∈l->AP w' u v S->(∀x,x∈S->x<w'.heap.size)->LQ v u S w'):
  Cl prog 277 #[nP (nM ⟨b,0,nN⟩),sv] w (CJ G sv n (Ag (.list l)).nodes (L++MW (.list l)) w):=by
 have ak:=V.length;have aj:(Ag (.list l)).nodes=(Bk l).nodes+1:=by simp only[Ag,Sz.over];omega
 rw[aj]at hn|-;obtain⟨P,M⟩:=Ue (b::((Vl.slice a vs.length c).ownBlock.toList++y));rw[<-M]at s C;have O:w.cell? ⟨b,0,nN⟩=nM (nS a vs.length c):=T.cell 0;have lb:=T.lt;have W:b∈P:=by rw[M];simp
 have ah:b∉sv.ownBlock.toList:=fun d=>(s.own b y7).1 W;have al:w.heap.size∉sv.ownBlock.toList:=fun d=>by have:=s.lst.lt y7;omega
 have R:=UD (∀I,Chg w I []->Cl prog 279 #[nP (nM ⟨b,0,nN⟩),sv] I fun e f=>∃F,e= nR F/\I9 P G sv (n+(Bk l).nodes) (L++KH l) w F f/\Chg I f sv.ownBlock.toList) fun I t=>
  (I4 l vs y P b a c I (t.keeps O) (hL.kept t) (V.chg t Zh) (fun x Y=>by rw[M];exact Y) (fun x Y=>Q6 (C x Y) t.size) hl G sv n L xs (s.kept t) Zj IH).mono fun e f h=>by
   obtain⟨F,he,d⟩:=I9.of s C t h;obtain⟨_,_,_,_,_,_,hc,_⟩:=h;exact⟨F,he,d,hc⟩
 have am:=hZ ah;have ar:=hZ al;have aa:=hZ W;have ao:=hZ C;have m:=UD ((n+(Bk l).nodes+1)*72<=140737488355328/\n+(Bk l).nodes<=140737488355328) ⟨Zj,Zj⟩;have aq:=hZ ak;clear T hL V s C IH aj W ah al M hn ak;obtain⟨M,hM⟩:=Ue ((Bk l).nodes);rw[<-hM]at R m|-;obtain⟨N,U⟩:=Ue (n+M);rw[<-U]at R m;have ap:=hZ U;clear U hM;go_enter func277,ntmps277;go_wp2_with fail
 go_region_held3(fun w'=>w'.cell? ⟨b,0,nN⟩=nM (nS a vs.length c)) (first|exact O|exact r|exact ag|exact(fun h:Chg f _ []=>h.keeps r) yZ|exact(fun h:Chg w _ []=>h.keeps O) yZ)
  (first
   |(go_at_call 279;refine(R.o _ yZ).mono ?_;rintro e f ⟨F,rfl,d,ai⟩;obtain⟨q,c1,rfl⟩:=d.slots;have r:=(d.chg.cell lb am.o).trans O;have Q:=hZ d;have an:=hZ ai;clear d ai)
   |(obtain⟨G1,Z,k,D,E⟩:=Q.o.ex;(refine Bw rfl _ _ _ rfl 55 Iq 6 72 ZM underlying22 DM rfl (nS q N c1) N Z ZN (by exact k.lst.kept (bs:=[]) yZ Zh) f.heap.size (AI ⟨5,false,0,Dz,vs.length,[]⟩ (nS nN 0 0)) ZN ZN (by exact Ff _ _ _) (C0 _ _ _ _) m.o.1 m.o.2 ?_);intro g cap H B z A;have ad:=hZ B;have J:=UD (Chg f H (Vl.slice q N c1).ownBlock.toList) ((((Chg.refl f []).alloc _).none _).trans z);have ab:=UD ((Vl.slice q N c1).ownBlock=nM g\/f.heap.size<=g) (A.imp id (fun h=>by rw[World.size_alloc]at h;omega));have K:=hZ k;have ae:=hZ D;have af:=hZ E;have ag:H.cell? ⟨b,0,nN⟩=nM (nS a vs.length c):=(J.o.cell (World.block_lt_of_cell? f _ r) (fun d=>(k.own b y7).1 aa.o)).trans r;clear B z A k D E)
   |(obtain⟨G1,Z,k,D,E⟩:=Q.o.ex;(refine Bw rfl _ _ _ rfl 55 Iq 6 72 ZM underlying22 DM rfl (nS q N c1) N Z ZN (by exact k.lst.kept (bs:=[]) yZ Zh) w.heap.size (AI ⟨5,false,0,Dz,vs.length,[]⟩ (nS nN 0 0)) ZN ZN (by intro j v X;exact(an.o.cell (p:=⟨w.heap.size,j,nN⟩) Zh ar.o).trans (Ff _ _ _ j v X)) (C0 _ _ _ _) m.o.1 m.o.2 ?_);intro g cap H B z A;have ad:=hZ B;have J:=UD (Chg f H (Vl.slice q N c1).ownBlock.toList) z;have ab:=UD ((Vl.slice q N c1).ownBlock=nM g\/f.heap.size<=g) (A.imp id (fun h=>Nat.le_of_eq h.symm));have K:=hZ k;have ae:=hZ D;have af:=hZ E;have ag:H.cell? ⟨b,0,nN⟩=nM (nS a vs.length c):=(J.o.cell (World.block_lt_of_cell? f _ r) (fun d=>(k.own b y7).1 aa.o)).trans r;clear B z A k D E))
 all_goals
  go_wp2_with fail;go_ret;have e:=ap.o;subst e;rw[XQ,<-List.append_assoc];have hs:(Aa (.list l)).toI=⟨5,false,0,Dz,vs.length,[]⟩:=by rw[aq.o];rfl
  rw[hs];exact I9.put Q.o ao.o K.o ae.o af.o ad.o J.o ab.o ⟨nN,0,rfl,Q8 _,rfl,fun i v X=>by simp[Ad]at X⟩ (fun b o n c e=>by cases e) (fun _ h=>h) (fun _ h _=>h) K.o.ltG (fun g hg=>(K.o.own g hg).2)
end
end Go.Proofs.YtpdnhfkacgdocaaGreatDoor

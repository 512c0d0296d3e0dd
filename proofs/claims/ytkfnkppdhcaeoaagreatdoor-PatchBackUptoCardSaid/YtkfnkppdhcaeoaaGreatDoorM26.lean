/- Part 26 of the proof of backBase. -/
import Derived.Test.YtkfnkppdhcaeoaaGreatDoorM25
set_option maxRecDepth 100000
set_option maxHeartbeats 32000000
set_option linter.all false
namespace Go.Proofs.YtkfnkppdhcaeoaaGreatDoor
open Go renaming Calls->Cl,Value->Vl,World->Wl
section
open _root_.Go.Proofs.Tryz
open Go Go.Shelf Go.RowKit Go.Lib Tree Ptr
theorem eB(o:Bq)(sv:Vl)(ys:List Vl)(X N B a c:Nat)(d:Vl)(l:List Tr)(vs:List Vl)(b:List Nat)(w:Wl)(f:Br w)(m:dM w)(g:T7 o)(q:o.path.size<=2097152)(n:o.frm.size<=2097152)(i:As w sv 6 o.steps.length ys)(j:Az w o.steps ys)(k:Ac w X (BJ o sv) 42)(h:ei N B a c d l vs b w)(r:(Ag (.list l)).within=true)(p:l.length<=65536):
  Cl prog 50 #[.pointer (some ⟨X,0,none⟩),.pointer (some ⟨N,0,none⟩),.pointer (some ⟨B,0,none⟩),.pointer (some ⟨a,0,none⟩)] w (eb o N B a c d l b w):=by
 by_cases e:Bn o=0
 .exact ey o sv ys X N B a c d l vs b w f m g q n i j k e h r p
 .exact ev o sv ys X N B a c d l b w f g i j k e
theorem ei.kept{N B e i:Nat}{j:Vl}{l:List Tr}{vs:List Vl}{f cs:List Nat}{w w':Wl}(h:ei N B e i j l vs f w)(b:Chg w w' cs)(c:∀y,y∈cs->y∉[N,B,e,i]/\j.ownBlock≠some y/\y∉f):ei N B e i j l vs f w':=
 ⟨h.cn.kept b (fun a=>(c _ a).1 (by simp)),h.cb.kept b (fun a=>(c _ a).1 (by simp)),h.cl.kept b (fun a=>(c _ a).1 (by simp)),h.bl.kept b (fun a=>(c _ a).1 (by simp)),h.row.kept b (fun g k a=>(c g a).2.1 k),
  h.at_.chg b (fun y d a=>(c y d).2.2 a),h.nd,h.own,fun y d=>⟨Q6 (h.sep y d).1 b.size,(h.sep y d).2⟩⟩
def ez(r:ZW)(w:Wl)(e:Ending)(w':Wl):Prop:=match r with
 | .yes t=>F9 t w e w'
 | .no k i=>e= .returned (.tuple #[.pointer none,Hk k i])/\Chg w w' []
structure eC(w0:Wl)(N B L9 lb:Nat)(ops:List Bq)(i:Nat)(w:Wl):Prop where
 ex:∃sl vs fs,ei N B L9 lb sl ((ops.take i).map OK) vs fs w/\(∀g,sl.ownBlock=some g->w0.heap.size<=g)/\(∀y,y∈fs->w0.heap.size<=y)
 right:∀o∈ops.take i,Bn o=0
 fits:(Ag (.list ((ops.take i).map OK))).within=true
 chg:Chg w0 w []
 run:∀r,Sp [] 0 ops=r->Sp ((ops.take i).map OK) i (ops.drop i)=r
theorem eC.kept2{w0 w w':Wl}{N B a c:Nat}{d:List Bq}{i:Nat}(h:eC w0 N B a c d i w)(b:Chg w w' []):eC w0 N B a c d i w':=by
 obtain⟨l,vs,e,f,g,j⟩:=h.ex;exact⟨⟨l,vs,e,f.kept b (fun y k=>(by cases k)),g,j⟩,h.right,h.fits,h.chg.trans b,h.run⟩
theorem eA{a:List Bq}{i:Nat}{o:Bq}(b:a[i]? =some o):a.drop i=o::a.drop (i+1):=by
 obtain⟨h,e⟩:=Qc.1 b;rw[<-e];exact List.drop_eq_getElem_cons h
theorem eG{a b:Int}(h:By a=By b):a=b:=by unfold By KN at h;simpa using h
def eE(w0:Wl)(N B b c:Nat)(a:List Bq)(i:Nat)(e:Ending)(w':Wl):Prop:=
 (e= .returned (.int .i64 0)/\eC w0 N B b c a (i+1) w')\/(∃k:Nat,k≠0/\e= .returned (.int .i64 k)/\Sp [] 0 a= .no k i/\Chg w0 w' [])
theorem eF(w0:Wl)(N B s n:Nat)(q:List Bq)(i:Nat)(o:Bq)(sv:Vl)(ys:List Vl)(X:Nat)(w:Wl)(l:eC w0 N B s n q i w)(E:∀y,y∈[N,B,s,n]->w0.heap.size<=y)(M:q[i]? =some o)(T:Br w)(Y:dM w)(U:T7 o)(A:o.path.size<=2097152)(hf:o.frm.size<=2097152)(V:As w sv 6 o.steps.length ys)(W:Az w o.steps ys)(Z:Ac w X (BJ o sv) 42)(hn:q.length<=65536):
  Cl prog 49 #[.func (.func 50) #[] #[.pointer (some ⟨X,0,none⟩),.pointer (some ⟨N,0,none⟩),.pointer (some ⟨B,0,none⟩),.pointer (some ⟨s,0,none⟩)]] w (eE w0 N B s n q i):=by
 obtain⟨u,vs,L,f,O,aa⟩:=l.ex
 have ae:∀y,y∈N::B::n::u.ownBlock.toList->y<w.heap.size:=fun y b=>by
  simp only[Qh,Option.mem_toList]at b
  rcases b with rfl|rfl|rfl|b
  .exact f.cn.lt
  .exact f.cb.lt
  .exact f.bl.lt
  .exact f.row.lt b
 have ab:∀y,y∈N::B::n::u.ownBlock.toList->w0.heap.size<=y:=fun y b=>by
  simp only[Qh,Option.mem_toList]at b
  rcases b with rfl|rfl|rfl|b
  .exact E _ (by simp)
  .exact E _ (by simp)
  .exact E _ (by simp)
  .exact O _ b
 have ad:((q.take i).map OK).length<=65536:=by rw[List.length_map,Ql];omega
 refine(Xp 50 _ (N::B::n::u.ownBlock.toList) w (fun v e H=>eb o N B s n u ((q.take i).map OK) L v e H) ae (fun _=>by kernel_rfl) (fun v t=>eB o sv ys X N B s n u _ vs L v (T.kept t (by simp)) (Y.kept t) U A hf (V.kept t) (Az.kept t W) (Z.kept t (by simp)) (f.kept t (by simp)) l.fits ad) (fun v e H h=> ?_)).mono fun e w' ⟨v,H,aj,I,R,ak,J,K,af⟩=> ?_
 .refine⟨h.2, ?_⟩
  have a:=h.1;split at a
  .exact .inr ⟨_,a⟩
  .split at a
   .exact .inl a.1
   .exact .inr ⟨3,a⟩
 .have F:Chg w0 w' []:=((l.chg.trans I).fresh K ab).fresh J (fun y b=>by simp at b;subst b;exact Q7 l.chg.size R)
  have m:=l.run _ rfl;rw[eA M]at m;simp only[Sp]at m
  rcases af with⟨G,x⟩|⟨k,G,x⟩
  .have a:=G.1
   split at a
   .rename_i j;unfold By at a;cases a
   .rename_i j
    split at a
    .rename_i D
     obtain⟨_,ah,ai,S,t1,P,Q⟩:=a;rw[Qs j,Qr D]at m;have C:q.take (i+1)=q.take i++[o]:=Cb M;have al:=I.size;have am:=K.size;refine .inl ⟨x,⟨ah,ai,S, ?_,fun g hg=> ?_,fun y b=> ?_⟩,fun p A=> ?_, ?_,F,fun r ag=> ?_⟩
     .rw[C,List.map_append]
      refine t1.kept J (fun y b=> ?_);simp at b;subst b;refine⟨fun z=> ?_,fun d=> ?_,fun z=> ?_⟩
      .have:y<w.heap.size:=by
        simp only[Qh,List.not_mem_nil,or_false]at z
        rcases z with d|d|d|d
        .rw[d];exact f.cn.lt
        .rw[d];exact f.cb.lt
        .rw[d];exact f.cl.lt
        .rw[d];exact f.bl.lt
       omega
      .rcases P _ d with c|c
       .have:=f.row.lt c;omega
       .omega
      .rcases Q _ z with c|c
       .have:=(f.sep _ c).1;omega
       .omega
     .rcases P g hg with c|c
      .exact O g c
      .have:=l.chg.size;omega
     .rcases Q y b with c|c
      .exact aa y c
      .have:=l.chg.size;omega
     .rw[C]at A
      rcases Qf.1 A with c|c
      .exact l.right p c
      .simp at c;subst c;simpa using j
     .rw[C,List.map_append];exact D
     .rw[C,List.map_append]
      rw[<-ag,<-m];rfl
    .unfold By at a;cases a
  .have a:=G.1
   split at a
   .rename_i j
    rw[Qr j]at m;exact .inr ⟨_,j,by rw[x,eG a],m.symm,F⟩
   .rename_i j
    split at a
    .obtain⟨d,_⟩:=a;unfold By at d;cases d
    .rename_i D
     rw[Qs j,Qs D]at m;exact .inr ⟨3,by decide,by rw[x,eG a];rfl,m.symm,F⟩
theorem ei.start(w:Wl):ei (w.heap.size+1+1) (w.heap.size+1+1+1) (w.heap.size+1) w.heap.size (.slice none 0 0) [] [] [] ((((w.alloc (.cells #[.slice none 0 0] 107)).alloc (.cells #[.pointer (some ⟨w.heap.size,0,none⟩)] 104)).alloc (.cells #[.int .i64 1] 3)).alloc (.cells #[.int .i64 0] 3)):=by
 refine⟨(BD _ _ [.int .i64 1] _ _ rfl (by simp)).alloc _,BD _ _ [.int .i64 0] _ _ rfl (by simp),((BD _ _ _ _ _ rfl (by simp)).alloc _).alloc _,(((BD _ _ _ _ _ rfl rfl).alloc _).alloc _).alloc _,AK.nil _ _,⟨rfl,rfl⟩, ?_,fun g a=>(by cases a),fun y b=>(by cases b)⟩;simp;omega
theorem eK{w0 w:Wl}{N B f d:Nat}{a:List Bq}(h:eC w0 N B f d a a.length w)(j:∀o∈a,T7 o/\o.path.size<=2097152/\o.frm.size<=2097152):
  Bt (.list (a.map OK))/\(∃bs,AP w (.list (a.map OK)) (Jn d) bs)/\Sp [] 0 a= .yes (.list (a.map OK))/\w.cell? ⟨f,0,none⟩=some (.pointer (some ⟨d,0,none⟩)):=by
 obtain⟨n,vs,k,b,l,m⟩:=h.ex;have e:a.take a.length=a:=Qn (Q8 _);have c:=h.run _ rfl;have i:=h.fits;have g:=h.right;rw[e]at i g c b;rw[List.drop_length]at c;exact⟨eJ g j i,⟨_,Sy.pat ⟨b.bl,b.row,b.at_⟩⟩,c.symm,b.cl.cell 0⟩
theorem gy(a:List Bq)(so:Vl)(xs:List Vl)(w:Wl)(hL:Br w)(aa:10<=w.heap.size)(ab:dM w)(H:As w so 4 a.length xs)(hI:Cc w a xs)(hs:∀o∈a,T7 o/\o.path.size<=2097152/\o.frm.size<=2097152)(hn:a.length<=65536):
  Cl prog 24 #[so] w (ez (Sp [] 0 a) w):=by
 obtain⟨sa,sc,rfl,_⟩:=H.form;have ax:∀(Z:Fn) (first Y:Array Vl) (w:Wl),(Instr.makeFunc Z first Y).run prog w= .ok (.func Z first Y) w:=fun _ _ _ _=>rfl
 have HL:=hZ hL;have au:=hZ aa;have ar:=hZ ab;have T:=hZ H;have HI:=hZ hI;have U:=hZ hs;obtain⟨n,K⟩:∃n,n=a.length:=⟨_,rfl⟩
 have f:=hZ K;rw[<-K]at hn|-;have av:¬((65536:Int)<(n:Int)):=by omega
 clear hL aa ab H hI hs K;go_enter func24,ntmps24
 go_wp2_with fail
 obtain⟨R,t⟩:∃y,y=(((w.alloc (.cells #[.slice none 0 0] 107)).alloc (.cells #[.pointer (some ⟨w.heap.size,0,none⟩)] 104)).alloc (.cells #[.int .i64 1] 3)).alloc (.cells #[.int .i64 0] 3):=⟨_,rfl⟩
 have s:ei (w.heap.size+1+1) (w.heap.size+1+1+1) (w.heap.size+1) w.heap.size (.slice none 0 0) [] [] [] R:=by rw[t];exact ei.start w
 have h4:Chg w R []:=by rw[t];exact(((((Chg.refl w []).alloc _).alloc _).alloc _).alloc _)
 rw[<-t];obtain⟨N,G⟩:∃x,x=w.heap.size+1+1:=⟨_,rfl⟩
 obtain⟨B,D⟩:∃x,x=w.heap.size+1+1+1:=⟨_,rfl⟩
 obtain⟨p,E⟩:∃x,x=w.heap.size+1:=⟨_,rfl⟩
 obtain⟨v,ah⟩:∃x,x=w.heap.size:=⟨_,rfl⟩
 have ae:∀y,y∈[N,B,p,v]->w.heap.size<=y:=fun y M=>by
  simp only[Qh,List.not_mem_nil,or_false]at M;omega
 have aq:=hZ ae;rw[<-D,<-G,<-E]at s;rw[<-D,<-G,<-E];rw[<-ah]at s|-;have V:Hid (eC w N B p v a 0 R):=hZ ⟨⟨_,_,_,s,fun g hg=>(by cases hg),fun y M=>(by cases M)⟩,fun o d=>(by cases d),(by rfl),h4,fun r hr=>hr⟩;clear s h4 t ae G D E ah;go_loopw [18] (fun Q wr=>∃k:Nat,k<=n/\Q= .int .i64 k/\eC w N B p v a k wr) (fun Q _=>n-(intOf Q).toNat)
 case atStart=>exact⟨0,by omega,rfl,V.o⟩
 case round=>
  obtain⟨k,hk,rfl,af⟩:=hrel;have c:=hZ af;clear af V;by_cases aw:k<n
  .obtain⟨o,d⟩:∃o,a[k]? =some o:=⟨_,Q9 (by have:=f.o;omega)⟩
   obtain⟨b,ob,rfl,_⟩:=T.o.base (by have:=f.o;omega) (by decide);obtain⟨sv,ys,L,ap,ao⟩:=Cc.item T.o (by have:=f.o;omega) HI.o d;obtain⟨O,P,rfl,_⟩:=L.form;have h:∀j x,(BJ o (.slice O o.steps.length P))[j]? =some x->wr.cell? ⟨b,ob+k*4+j,none⟩=some x:=fun j x hx=>c.o.chg.keeps (ao j x hx)
   have X:=h 0 _ rfl;have c1:=h 1 _ rfl;have c2:=h 2 _ rfl;have c3:=h 3 _ rfl;rw[Nat.add_zero]at X;obtain⟨S,u⟩:∃y,y=wr.alloc (.cells #[.int .i64 o.kind,.string o.path,.string o.frm,.slice O o.steps.length P] 42):=⟨_,rfl⟩
   have I:Chg wr S []:=by rw[u];exact(Chg.refl wr []).alloc _
   have ad:Ac S wr.heap.size (BJ o (.slice O o.steps.length P)) 42:=by rw[u];exact BD _ _ _ _ _ rfl rfl
   have i:=c.o.chg.trans I;obtain⟨ai,aj,ak⟩:=U.o o (Qi d);have z:=hZ (eF w N B p v a k o _ ys wr.heap.size S (c.o.kept2 I) aq.o d (HL.o.kept i (by simp)) (ar.o.kept i) ai aj ak (L.kept i) (Az.kept i ap) ad (by have:=f.o;omega));rw[u]at z;clear u I ad i ai aj ak h ao L ap d;obtain⟨m,hm⟩:∃q,q=o.steps.length:=⟨_,rfl⟩
   rw[<-hm]at z c3;clear hm;go_wp2_with((go_at_call 49;refine z.o.mono ?_;rintro e w3 (⟨rfl,C⟩|⟨q,hq,rfl,an,C⟩);all_goals(have l:=hZ C;clear C);all_goals(try (have A:=hZ an;clear an;have ay:((q:Int) !=0)=true:=(by rw[bne_iff_ne];omega)))))
   .go_roundw
    case rel=>exact⟨k+1,by omega,by go_num,l.o⟩
    case measure=>simp[intOf];omega
   .go_ret2
    rw[A.o];exact⟨rfl,l.o⟩
  .obtain rfl:k=n:=by omega
   have J:=c.o;rw[f.o]at J;obtain⟨ag,⟨bs,al⟩,am,X⟩:=eK J U.o;have W:=hZ (ZC ag al);have A:=hZ am;clear J ag al am;unfold Jn at W;go_wp2_with((go_at_call 44;refine W.o.mono ?_;rintro e w3 ⟨F,tb,rfl,t1,t2,t3,t4,t5⟩;have H1:=hZ t1;have H2:=hZ t2;have l:=hZ t3;have H4:=hZ t4;have H5:=hZ t5;clear t1 t2 t3 t4 t5))
   go_ret2
   rw[A.o];have hz:=c.o.chg.size;exact⟨F,tb,rfl,H1.o,H2.o,c.o.chg.trans l.o,fun b hb=>Q7 hz (H4.o b hb),Q7 hz H5.o⟩
theorem Cw{e:Array Oper}{o:Oper}{a:Act}{i:Nat}{b:Bool}{s:Tmp}(g:o.guard=some (i,b))(d:Es e i=some s)(c:a.tmps.getD s undef= .bool b):Region.wanted o (yielded e a.tmps)=true:=by
 unfold Region.wanted;rw[g]
 have f:a.tmps[s]? =some (.bool b):=by
  rw[Qp]at c
  cases h:a.tmps[s]? with
  |none=>rw[h]at c;cases c
  |some x=>rw[h]at c;exact congrArg _ c
 unfold Es at d;simp only[yielded,d,Option.bind_some,f,beq_self_eq_true]
theorem Af.backW{w w':Wl}{F:Nat->Prop}{t:Tr}{v:Vl}(h:Af w' F t v)(d:Chg w w' [])(a:∀k,F k->k<w.heap.size):Af w F t v:=
 h.kept (F:=F) (fun b o c=>((d.cell (p:=⟨b,o,none⟩) (a b c) Zh)).symm) (fun _ h=>h) _ _
theorem Ax.backW{w w':Wl}{F:Nat->Prop}{a:Vl}{vs:List Vl}(h:Ax w' F a vs)(e:Chg w w' [])(c:∀k,F k->k<w.heap.size):Ax w F a vs:=
 h.kept (F:=F) (fun b o d=>((e.cell (p:=⟨b,o,none⟩) (c b d) Zh)).symm) (fun _ h=>h)
theorem Ak.backW{w w':Wl}{F:Nat->Prop}{l:List Tr}{vs:List Vl}(h:Ak w' F l vs)(d:Chg w w' [])(a:∀k,F k->k<w.heap.size):Ak w F l vs:=
 Ak.kept (F:=F) (fun b o c=>((d.cell (p:=⟨b,o,none⟩) (a b c) Zh)).symm) (fun _ h=>h) _ _ h
theorem RX(F:Nat->Prop)(t:Tr)(v:Vl)(w:Wl)(b:Af w F t v)(c:∀k,F k->k<w.heap.size):
  Cl prog 62 #[.agg #[v]] w fun e w'=>e= .returned (.int .i64 (Hj t))/\Chg w w' []:=by
 obtain⟨m,x,rfl⟩:=b.iface;have a:Chg w (w.alloc (.cells #[.iface m x] 64)) []:=(Chg.refl w []).alloc _;obtain⟨f,args,g,d⟩:=Sg t _ (Af.kept (a.keepsF c) (fun _ h=>h) _ _ b);have l:=hZ g;have j:=hZ d;clear b c a g d;go_enter func62,ntmps62
 go_wp2_with(refine Am rfl _ _ _ rfl _ rfl f args l.o _ j.o ?_;rintro e n ⟨rfl,a⟩;refine⟨_,rfl, ?_⟩;have i:=hZ a;clear a)
 go_ret
 exact⟨rfl,((Chg.refl w []).alloc _).trans i.o⟩
theorem D3:(prog.info? 64).map (·.size)=some 1:=Yb
def J3(t:Tr)(v u:Vl)(F G:Nat->Prop)(w:Wl)(j:Nat)(y:Vl):Prop:=match j with
 |0=>y= .agg #[v]
 |1=>y= .int .i64 (Hj t)
 |2=>y= .agg #[u]
 |3=>y= .int .i64 (Hj t)
 |4=>y= .bool false
 |5=>y= .bool false
 |6=>y= .agg #[v]
 |7=>y= .int .i64 (Ab t).length
 |8=>y= .agg #[u]
 |9=>y= .int .i64 (Ab t).length
 |10=>y= .bool false
 |11=>y= .bool false
 |12=>y= .bool false
 |13=>y= .agg #[v]
 |14=>Ax w F y (Ad (JN t))
 |15=>y= .agg #[u]
 |16=>Ax w G y (Ad (JN t))
 |17=>y= .bool true
 |18=>y= .bool false
 |_=>y= .bool false
def Zw(t:Tr)(v u:Vl)(F G:Nat->Prop)(w:Wl)(j:Nat)(y:Vl):Prop:=match j with
 |0=>y= .agg #[v]
 |1=>∃vs,Ax w F y vs/\Ak w F (Ab t) vs
 |2=>y= .agg #[u]
 |3=>∃vs,Ax w G y vs/\Ak w G (Ab t) vs
 |4=>∃vs,Ax w F y vs/\Ak w F (Ab t) vs
 |_=>∃vs,Ax w G y vs/\Ak w G (Ab t) vs
def Np(v u:Vl)(c d:Vl)(k:Nat)(a b:Addr)(j:Nat)(y:Vl):Prop:=match j with
 |0=>y=c
 |1=>y= .int .i64 k
 |2=>y= .pointer (some a)
 |3=>y=v
 |4=>y= .agg #[v]
 |5=>y=d
 |6=>y= .int .i64 k
 |7=>y= .pointer (some b)
 |8=>y=u
 |9=>y= .agg #[u]
 |10=>y= .bool true
 |_=>y= .bool false
theorem O4(a b:Nat)(w:Wl):(binOp .eql 62 (.iface 219 (.float .f64 a)) (.iface 219 (.float .f64 b))).run prog w= .ok (.bool (FloatKind.f64.format.order a b==some .eq)) w:=Yb
theorem Nt(a b:BY)(w:Wl):(binOp .eql 62 (.iface 220 (.string a)) (.iface 220 (.string b))).run prog w= .ok (.bool (a==b)) w:=Yb
theorem XF:∀(k:Nat) (t:Tr) (F G:Nat->Prop) (v u:Vl) (w:Wl),(Ag t).nodes<=k->(Ag t).nodes<=65536->Av t->Af w F t v->Af w G t u->(∀b,F b->b<w.heap.size)->(∀b,G b->b<w.heap.size)->
  Cl prog 29 #[.agg #[v],.agg #[u]] w (BU true w):=by
 intro k
 induction k with
 |zero=>intro t _ _ _ _ _ h;have:=Cv t;omega
 |succ k0 ih=>
 intro t F G v u w z hn N y O o hG
 have aH:∀x vx vy w',x∈Ab t->Af w' F x vx->Af w' G x vy->(∀b,F b->b<w'.heap.size)->(∀b,G b->b<w'.heap.size)->Cl prog 29 #[.agg #[vx],.agg #[vy]] w' (BU true w'):=fun x vx vy w' hx p h2 h3 h4=>by
  obtain⟨i,hi⟩:=List.mem_iff_getElem?.1 hx;have:=CO hi;exact ih x F G vx vy w' Zj Zj (N.items x hx) p h2 h3 h4
 have IH:=hZ aH;have Y:=hZ y;have Z:=hZ O;have L:=hZ o;have M:=hZ hG;have bt:=hZ hn
 have aI:(JN t).length<=4294967296:=by
  cases t with
  |obj ks l=>simp only[Av]at N;exact Q7 N.1.many Zj
  |_=>simp[JN]
 have ad:=hZ aI;obtain⟨Q,R,rfl⟩:=y.iface;obtain⟨t2,x2,rfl⟩:=O.iface;have bs:=hZ N;clear aH ih z hn N y O o hG aI;go_enter func29,ntmps29
 go_wp2_with fail
 obtain⟨X,af⟩:=Ue (World.drew ((w.alloc (.cells #[.iface Q R] 64)).alloc (.cells #[.iface t2 x2] 64)))
 have az:=hZ af;have C:Hid (Chg w X []):=by rw[af];exact hZ ((((Chg.refl w []).alloc _).alloc _).drew)
 have D:Hid (Ac X w.heap.size [.iface Q R] 64):=by rw[af];exact hZ (((Ac.new w [.iface Q R] _).alloc _).drew)
 have E:Hid (Ac X (w.heap.size+1) [.iface t2 x2] 64):=by rw[af];exact hZ ((BD _ _ _ _ _ rfl Zh).drew)
 have am:=UD (∀b,F b->b<X.heap.size) fun b T=>Q6 (L.o b T) C.o.size
 have an:=UD (∀b,G b->b<X.heap.size) fun b T=>Q6 (M.o b T) C.o.size
 clear af;refine wp_region_any Yb ?_;change wpAny _ _ _ _ _ _ _ (World.drew _);rw[<-az.o];refine Dg _ (PX (J3 t (.iface Q R) (.iface t2 x2) F G X) X) Yb ?_ ?_ _ ?_
 .intro ii op a P dd d o bk f aD c K j
  match ii,d with
  |0,d=>
   obtain rfl:=Q5 d;have I:a.tmps.getD 2 undef= .pointer (some ⟨w.heap.size,0,none⟩):=o.at 2 Yb;rw[Qr (by simp[Region.wanted])];refine Bd _ _ rfl _ I 64 _ (D.o.kept c.1) _ underlying64 rfl D3 ?_;exact j _ _ Zh (c.put (by simp[J3]) cR)
  |1,d=>
   obtain rfl:=Q5 d;have U:a.tmps.getD 10 undef= .agg #[.iface Q R]:=c.2 0 (f ⟨0,.data⟩ Zh rfl);rw[Qr (by simp[Region.wanted])];go_simp
   go_at_call 62;refine(RX F t _ P (Af.kept ((C.o.trans c.1).keepsF L.o) (fun _ h=>h) _ _ Y.o) (fun k z=>Q6 (L.o k z) (C.o.trans c.1).size)).mono ?_;rintro e w1 ⟨rfl,p⟩;exact j _ _ Zh (c.put rfl p)
  |2,d=>
   obtain rfl:=Q5 d;have I:a.tmps.getD 3 undef= .pointer (some ⟨w.heap.size+1,0,none⟩):=o.at 3 Yb;rw[Qr (by simp[Region.wanted])];refine Bd _ _ rfl _ I 64 _ (E.o.kept c.1) _ underlying64 rfl D3 ?_;exact j _ _ Zh (c.put (by simp[J3]) cR)
  |3,d=>
   obtain rfl:=Q5 d;have U:a.tmps.getD 12 undef= .agg #[.iface t2 x2]:=c.2 2 (f ⟨2,.data⟩ Zh rfl);rw[Qr (by simp[Region.wanted])];go_simp
   go_at_call 62;refine(RX G t _ P (Af.kept ((C.o.trans c.1).keepsF M.o) (fun _ h=>h) _ _ Z.o) (fun k z=>Q6 (M.o k z) (C.o.trans c.1).size)).mono ?_;rintro e w1 ⟨rfl,p⟩;exact j _ _ Zh (c.put rfl p)
  |4,d=>
   obtain rfl:=Q5 d;have bO:a.tmps.getD 11 undef= .int .i64 (Hj t):=c.2 1 (f ⟨1,.data⟩ Zh rfl);have bP:a.tmps.getD 13 undef= .int .i64 (Hj t):=c.2 3 (f ⟨3,.data⟩ Zh rfl);rw[Qr (by simp[Region.wanted])];go_simp
   exact j _ _ Zh (c.put (by simp[J3]) cR)
  |5,d=>
   obtain rfl:=Q5 d;have bQ:a.tmps.getD 14 undef= .bool false:=c.2 4 (f ⟨4,.data⟩ Zh rfl);rw[Qr (by simp[Region.wanted])];go_simp
   exact j _ _ Zh (c.put (by simp[J3]) cR)
  |6,d=>
   obtain rfl:=Q5 d;have I:a.tmps.getD 2 undef= .pointer (some ⟨w.heap.size,0,none⟩):=o.at 2 Yb;rw[Qr (Cw rfl ZN (c.2 5 (f ⟨5,.guard⟩ Zh rfl)))];refine Bd _ _ rfl _ I 64 _ (D.o.kept c.1) _ underlying64 rfl D3 ?_;exact j _ _ Zh (c.put (by simp[J3]) cR)
  |7,d=>
   obtain rfl:=Q5 d;have U:a.tmps.getD 16 undef= .agg #[.iface Q R]:=c.2 6 (f ⟨6,.data⟩ Zh rfl);rw[Qr (Cw rfl ZN (c.2 5 (f ⟨5,.guard⟩ Zh rfl)))];go_simp
   go_at_call 63;refine(Up F t _ P (Af.kept ((C.o.trans c.1).keepsF L.o) (fun _ h=>h) _ _ Y.o) (fun k z=>Q6 (L.o k z) (C.o.trans c.1).size)).mono ?_;rintro e w1 ⟨rfl,p⟩;exact j _ _ Zh (c.put rfl p)
  |8,d=>
   obtain rfl:=Q5 d;have I:a.tmps.getD 3 undef= .pointer (some ⟨w.heap.size+1,0,none⟩):=o.at 3 Yb;rw[Qr (Cw rfl ZN (c.2 5 (f ⟨5,.guard⟩ Zh rfl)))];refine Bd _ _ rfl _ I 64 _ (E.o.kept c.1) _ underlying64 rfl D3 ?_;exact j _ _ Zh (c.put (by simp[J3]) cR)
  |9,d=>
   obtain rfl:=Q5 d;have U:a.tmps.getD 18 undef= .agg #[.iface t2 x2]:=c.2 8 (f ⟨8,.data⟩ Zh rfl);rw[Qr (Cw rfl ZN (c.2 5 (f ⟨5,.guard⟩ Zh rfl)))];go_simp
   go_at_call 63;refine(Up G t _ P (Af.kept ((C.o.trans c.1).keepsF M.o) (fun _ h=>h) _ _ Z.o) (fun k z=>Q6 (M.o k z) (C.o.trans c.1).size)).mono ?_;rintro e w1 ⟨rfl,p⟩;exact j _ _ Zh (c.put rfl p)
  |10,d=>
   obtain rfl:=Q5 d;have bS:a.tmps.getD 17 undef= .int .i64 (Ab t).length:=c.2 7 (f ⟨7,.data⟩ Zh rfl);have bT:a.tmps.getD 19 undef= .int .i64 (Ab t).length:=c.2 9 (f ⟨9,.data⟩ Zh rfl);rw[Qr (Cw rfl ZN (c.2 5 (f ⟨5,.guard⟩ Zh rfl)))];go_simp
   exact j _ _ Zh (c.put (by simp[J3]) cR)
  |11,d=>
   obtain rfl:=Q5 d;have bR:a.tmps.getD 15 undef= .bool false:=c.2 5 (f ⟨5,.data⟩ Zh rfl);have bU:a.tmps.getD 20 undef= .bool false:=c.2 10 (f ⟨10,.data⟩ Zh rfl);rw[Qr (by simp[Region.wanted])];go_simp
   exact j _ _ Zh (c.put (by simp[J3]) cR)
  |12,d=>
   obtain rfl:=Q5 d;have bV:a.tmps.getD 21 undef= .bool false:=c.2 11 (f ⟨11,.data⟩ Zh rfl);rw[Qr (by simp[Region.wanted])];go_simp
   exact j _ _ Zh (c.put (by simp[J3]) cR)
  |13,d=>
   obtain rfl:=Q5 d;have I:a.tmps.getD 2 undef= .pointer (some ⟨w.heap.size,0,none⟩):=o.at 2 Yb;rw[Qr (Cw rfl ZN (c.2 12 (f ⟨12,.guard⟩ Zh rfl)))];refine Bd _ _ rfl _ I 64 _ (D.o.kept c.1) _ underlying64 rfl D3 ?_;exact j _ _ Zh (c.put (by simp[J3]) cR)
  |14,d=>
   obtain rfl:=Q5 d;have U:a.tmps.getD 23 undef= .agg #[.iface Q R]:=c.2 13 (f ⟨13,.data⟩ Zh rfl);rw[Qr (Cw rfl ZN (c.2 12 (f ⟨12,.guard⟩ Zh rfl)))];go_simp
   go_at_call 65;refine(RY F t _ P (Af.kept ((C.o.trans c.1).keepsF L.o) (fun _ h=>h) _ _ Y.o) (fun k z=>Q6 (L.o k z) (C.o.trans c.1).size)).mono ?_;rintro e w1 ⟨sk,rfl,h0,p⟩;exact j _ _ Zh (c.put (h0.backW (c.1.trans p) am.o) p)
  |15,d=>
   obtain rfl:=Q5 d;have I:a.tmps.getD 3 undef= .pointer (some ⟨w.heap.size+1,0,none⟩):=o.at 3 Yb;rw[Qr (Cw rfl ZN (c.2 12 (f ⟨12,.guard⟩ Zh rfl)))];refine Bd _ _ rfl _ I 64 _ (E.o.kept c.1) _ underlying64 rfl D3 ?_;exact j _ _ Zh (c.put (by simp[J3]) cR)
  |16,d=>
   obtain rfl:=Q5 d;have U:a.tmps.getD 25 undef= .agg #[.iface t2 x2]:=c.2 15 (f ⟨15,.data⟩ Zh rfl);rw[Qr (Cw rfl ZN (c.2 12 (f ⟨12,.guard⟩ Zh rfl)))];go_simp
   go_at_call 65;refine(RY G t _ P (Af.kept ((C.o.trans c.1).keepsF M.o) (fun _ h=>h) _ _ Z.o) (fun k z=>Q6 (M.o k z) (C.o.trans c.1).size)).mono ?_;rintro e w1 ⟨sk,rfl,h0,p⟩;exact j _ _ Zh (c.put (h0.backW (c.1.trans p) an.o) p)
  |17,d=>
   obtain rfl:=Q5 d;have bA:=f ⟨14,.data⟩ Zh rfl;have bB:=f ⟨16,.data⟩ Zh rfl;have aA:Ax X F (a.tmps.getD 24 undef) (Ad (JN t)):=c.2 14 bA;have aB:Ax X G (a.tmps.getD 26 undef) (Ad (JN t)):=c.2 16 bB;obtain⟨s1,bC⟩:∃s,a.tmps.getD 24 undef=s:=⟨_,rfl⟩
   obtain⟨s2,bD⟩:∃s,a.tmps.getD 26 undef=s:=⟨_,rfl⟩
   rw[bC]at aA;rw[bD]at aB;have HQ:=Ix (JN t) (JN t) s1 s2 P (aA.kept (c.1.keepsF am.o) (fun _ h=>h)) (aB.kept (c.1.keepsF an.o) (fun _ h=>h)) ad.o ad.o;rw[decide_eq_true rfl]at HQ;rw[Qr (Cw rfl ZN (c.2 12 (f ⟨12,.guard⟩ Zh rfl)))];go_simp
   go_at_call 64;refine HQ.mono ?_;rintro e w1 ⟨rfl,q,rfl⟩;exact j _ _ Zh (c.put rfl ((Chg.refl P []).drewN q))
  |18,d=>
   obtain rfl:=Q5 d;have bX:a.tmps.getD 27 undef= .bool true:=c.2 17 (f ⟨17,.data⟩ Zh rfl);rw[Qr (Cw rfl ZN (c.2 12 (f ⟨12,.guard⟩ Zh rfl)))];go_simp
   exact j _ _ Zh (c.put (by simp[J3]) cR)
  |19,d=>
   obtain rfl:=Q5 d;have bW:a.tmps.getD 22 undef= .bool false:=c.2 12 (f ⟨12,.data⟩ Zh rfl);have bY:a.tmps.getD 28 undef= .bool false:=c.2 18 (f ⟨18,.data⟩ Zh rfl);rw[Qr (by simp[Region.wanted])];go_simp
   exact j _ _ Zh (c.put (by simp[J3]) cR)
  |_+20,d=>exact absurd d Zh
 .intro a wR dd o hd c
  have ao:a.tmps.getD 29 undef= .bool false:=c.2 19 (hd 19 ZM);have V:=UD (Chg X wR []) c.1;have ae:=UD (Chg w wR []) (C.o.trans c.1);clear c hd az;have y:=Y.o;have O:=Z.o;have N:=bs.o;have r:=o.form' [10,11,12,13,14,15,16,17,18,19,20,21,22,23,24,25,26,27,28,29] Yb;have aa:=o.defers;obtain⟨m,df⟩:=a;clear o
  dsimp only at r aa ao
  simp only[List.foldl_cons,List.foldl_nil]at r;rw[ao]at r;obtain⟨u10,aJ⟩:=Ue (m.getD 10 undef)
  obtain⟨u11,aK⟩:=Ue (m.getD 11 undef)
  obtain⟨u12,aL⟩:=Ue (m.getD 12 undef)
  obtain⟨u13,aM⟩:=Ue (m.getD 13 undef)
  obtain⟨u14,aN⟩:=Ue (m.getD 14 undef)
  obtain⟨u15,aO⟩:=Ue (m.getD 15 undef)
  obtain⟨u16,aP⟩:=Ue (m.getD 16 undef)
  obtain⟨u17,aQ⟩:=Ue (m.getD 17 undef)
  obtain⟨u18,aR⟩:=Ue (m.getD 18 undef)
  obtain⟨u19,aS⟩:=Ue (m.getD 19 undef)
  obtain⟨u20,aT⟩:=Ue (m.getD 20 undef)
  obtain⟨u21,aU⟩:=Ue (m.getD 21 undef)
  obtain⟨u22,aV⟩:=Ue (m.getD 22 undef)
  obtain⟨u23,aW⟩:=Ue (m.getD 23 undef)
  obtain⟨u24,aX⟩:=Ue (m.getD 24 undef)
  obtain⟨u25,aY⟩:=Ue (m.getD 25 undef)
  obtain⟨u26,aZ⟩:=Ue (m.getD 26 undef)
  obtain⟨u27,a2⟩:=Ue (m.getD 27 undef)
  obtain⟨u28,a3⟩:=Ue (m.getD 28 undef)
  rw[<-aJ,<-aK,<-aL,<-aM,<-aN,<-aO,<-aP,<-aQ,<-aR,<-aS,<-aT,<-aU,<-aV,<-aW,<-aX,<-aY,<-aZ,<-a2,<-a3]at r;clear aJ aK aL aM aN aO aP aQ aR aS aT aU aV aW aX aY aZ a2 a3 ao;simp only[List.setIfInBounds_toArray,List.set_cons_zero,List.set_cons_succ]at r;subst r;subst aa;by_cases al:AX t=true
  .cases t with
   |null=>
     clear IH ad L M Y Z;simp only[Af]at y O
     injection y with H S
     injection O with e3 e4
     subst H;subst S;subst e3;subst e4
     skip
     have a0:OS prog (.iface 214 (.agg #[])) 62 136 #[.pointer none,.bool false]:=fun _=>Yb
     have a1:OS prog (.iface 214 (.agg #[])) 62 137 #[.pointer none,.bool false]:=fun _=>Yb
     have q:∀(w:Wl),(binOp .eql 62 (.iface 214 (.agg #[])) (.iface 214 (.agg #[]))).run prog w= .ok (.bool true) w:=fun w=>Yb
     have A:=D.o.kept V.o;have B:=E.o.kept V.o;have c1:=A.cell 0;have W:=B.cell 0;simp only[Qa]at c1 W;clear D E N A B;go_wp2_with fail
     go_ret
     exact⟨rfl,by exact cg ae.o⟩
   |flag b=>
     clear IH ad L M Y Z;simp only[Af]at y O
     injection y with H S
     injection O with e3 e4
     subst H;subst S;subst e3;subst e4
     skip
     have a0:OS prog (.iface 215 (.bool b)) 62 136 #[.pointer none,.bool false]:=fun _=>Yb
     have a1:OS prog (.iface 215 (.bool b)) 62 137 #[.pointer none,.bool false]:=fun _=>Yb
     have q:∀(w:Wl),(binOp .eql 62 (.iface 215 (.bool b)) (.iface 215 (.bool b))).run prog w= .ok (.bool true) w:=fun w=>by cases b<;>kernel_rfl
     have A:=D.o.kept V.o;have B:=E.o.kept V.o;have c1:=A.cell 0;have W:=B.cell 0;simp only[Qa]at c1 W;clear D E N A B;go_wp2_with fail
     go_ret
     exact⟨rfl,by exact cg ae.o⟩
   |num n=>
     clear IH ad L M Y Z;simp only[Af]at y O
     injection y with H S
     injection O with e3 e4
     subst H;subst S;subst e3;subst e4;have bK:=Rn (by simpa only[Av]using N) (by simpa only[Av]using N:Hs n);have a0:OS prog (.iface 219 (.float .f64 n)) 62 136 #[.pointer none,.bool false]:=fun _=>Yb
     have a1:OS prog (.iface 219 (.float .f64 n)) 62 137 #[.pointer none,.bool false]:=fun _=>Yb
     have q:∀(w:Wl),(binOp .eql 62 (.iface 219 (.float .f64 n)) (.iface 219 (.float .f64 n))).run prog w= .ok (.bool true) w:=fun w=>by rw[O4,bK,decide_eq_true rfl]
     have A:=D.o.kept V.o;have B:=E.o.kept V.o;have c1:=A.cell 0;have W:=B.cell 0;simp only[Qa]at c1 W;clear D E N A B;go_wp2_with fail
     go_ret
     exact⟨rfl,by exact cg ae.o⟩
   |text s=>
     clear IH ad L M Y Z;simp only[Af]at y O
     injection y with H S
     injection O with e3 e4
     subst H;subst S;subst e3;subst e4
     skip
     have a0:OS prog (.iface 220 (.string s)) 62 136 #[.pointer none,.bool false]:=fun _=>Yb
     have a1:OS prog (.iface 220 (.string s)) 62 137 #[.pointer none,.bool false]:=fun _=>Yb
     have q:∀(w:Wl),(binOp .eql 62 (.iface 220 (.string s)) (.iface 220 (.string s))).run prog w= .ok (.bool true) w:=fun w=>by rw[Nt,P0,decide_eq_true rfl]
     have A:=D.o.kept V.o;have B:=E.o.kept V.o;have c1:=A.cell 0;have W:=B.cell 0;simp only[Qa]at c1 W;clear D E N A B;go_wp2_with fail
     go_ret
     exact⟨rfl,by exact cg ae.o⟩
   |list l=>simp[AX]at al
   |obj ks l=>simp[AX]at al
  .obtain⟨p0,o0,p1,a0,a1⟩:∃p0 o0 p1,(∀w,(Instr.typeAssert (.iface Q R) 62 136 true).run prog w= .ok (.tuple #[p0,.bool o0]) w)/\(∀w,(Instr.typeAssert (.iface Q R) 62 137 true).run prog w= .ok (.tuple #[p1,.bool (!o0)]) w):=by
    cases t with
    |list l=>
     simp only[Af]at y;obtain⟨b,sl,vs,H,_⟩:=y
     injection H with H S
     subst H;subst S;exact⟨.pointer (some ⟨b,0,none⟩),true,.pointer none,fun _=>Yb,fun _=>Yb⟩
    |obj ks l=>
     simp only[Af]at y;obtain⟨b,sk,sl,vs,H,_⟩:=y
     injection H with H S
     subst H;subst S;exact⟨.pointer none,false,.pointer (some ⟨b,0,none⟩),fun _=>Yb,fun _=>Yb⟩
    |_=>simp[AX]at al
   have A:=D.o.kept V.o;have B:=E.o.kept V.o;have c1:=A.cell 0;have W:=B.cell 0;simp only[Qa]at c1 W;have bp:=hZ A;have bq:=hZ B;clear D E N A B y O al ad am an;obtain⟨J,ag⟩:=Ue (World.drew wR)
   have bx:=hZ ag;have ab:Hid (Chg w J []):=by rw[ag];exact hZ ae.o.drew
   have D:Hid (Ac J w.heap.size [.iface Q R] 64):=by rw[ag];exact hZ bp.o.drew
   have E:Hid (Ac J (w.heap.size+1) [.iface t2 x2] 64):=by rw[ag];exact hZ bq.o.drew
   have ai:=UD (∀b,F b->b<J.heap.size) fun b T=>Q6 (L.o b T) ab.o.size
   have aj:=UD (∀b,G b->b<J.heap.size) fun b T=>Q6 (M.o b T) ab.o.size
   clear ag;cases o0
   all_goals
    simp only[Bool.not_true,Bool.not_false]at a1;go_wp2_with fail
    refine wp_region_any Yb ?_;change wpAny _ _ _ _ _ _ _ (World.drew _);rw[<-bx.o];refine Dg _ (PX (Zw t (.iface Q R) (.iface t2 x2) F G J) J) Yb ?_ ?_ _ ?_
    .intro ii op a P dd d o bk f aD c K j
     match ii,d with
     |0,d=>
      obtain rfl:=Q5 d;have I:a.tmps.getD 2 undef= .pointer (some ⟨w.heap.size,0,none⟩):=o.at 2 Yb;rw[Qr (by simp[Region.wanted])];refine Bd _ _ rfl _ I 64 _ (D.o.kept c.1) _ underlying64 rfl D3 ?_;exact j _ _ Zh (c.put (by simp[Zw]) cR)
     |1,d=>
      obtain rfl:=Q5 d;have U:a.tmps.getD 43 undef= .agg #[.iface Q R]:=c.2 0 (f ⟨0,.data⟩ Zh rfl);rw[Qr (by simp[Region.wanted])];go_simp
      go_at_call 66;refine(ID F t _ P (Af.kept ((ab.o.trans c.1).keepsF L.o) (fun _ h=>h) _ _ Y.o) (fun k z=>Q6 (L.o k z) (ab.o.trans c.1).size)).mono ?_;rintro e w1 ⟨sl,vs,rfl,h0,h2,p⟩;exact j _ _ Zh (c.put ⟨vs,h0.backW (c.1.trans p) ai.o,h2.backW (c.1.trans p) ai.o⟩ p)
     |2,d=>
      obtain rfl:=Q5 d;have I:a.tmps.getD 3 undef= .pointer (some ⟨w.heap.size+1,0,none⟩):=o.at 3 Yb;rw[Qr (by simp[Region.wanted])];refine Bd _ _ rfl _ I 64 _ (E.o.kept c.1) _ underlying64 rfl D3 ?_;exact j _ _ Zh (c.put (by simp[Zw]) cR)
     |3,d=>
      obtain rfl:=Q5 d;have U:a.tmps.getD 45 undef= .agg #[.iface t2 x2]:=c.2 2 (f ⟨2,.data⟩ Zh rfl);rw[Qr (by simp[Region.wanted])];go_simp
      go_at_call 66;refine(ID G t _ P (Af.kept ((ab.o.trans c.1).keepsF M.o) (fun _ h=>h) _ _ Z.o) (fun k z=>Q6 (M.o k z) (ab.o.trans c.1).size)).mono ?_;rintro e w1 ⟨sl,vs,rfl,h0,h2,p⟩;exact j _ _ Zh (c.put ⟨vs,h0.backW (c.1.trans p) aj.o,h2.backW (c.1.trans p) aj.o⟩ p)
     |4,d=>
      obtain rfl:=Q5 d;have g:=c.2 1 (f ⟨1,.data⟩ Zh rfl);obtain⟨s1,U⟩:∃s,a.tmps.getD 44 undef=s:=⟨_,rfl⟩
      change∃vs,Ax _ _ (a.tmps.getD 44 undef) vs/\_ at g;rw[U]at g;go_simp
      exact j _ _ Zh (c.put g cR)
     |5,d=>
      obtain rfl:=Q5 d;have g:=c.2 3 (f ⟨3,.data⟩ Zh rfl);obtain⟨s1,U⟩:∃s,a.tmps.getD 46 undef=s:=⟨_,rfl⟩
      change∃vs,Ax _ _ (a.tmps.getD 46 undef) vs/\_ at g;rw[U]at g;go_simp
      exact j _ _ Zh (c.put g cR)
     |_+6,d=>exact absurd d Zh
    .intro a wS dd o hd c
     have g7:∃vs,Ax J F (a.tmps.getD 7 undef) vs/\Ak J F (Ab t) vs:=c.2 4 (hd 4 ZM)
     have g8:∃vs,Ax J G (a.tmps.getD 8 undef) vs/\Ak J G (Ab t) vs:=c.2 5 (hd 5 ZM)
     have bu:=UD (Chg J wS []) c.1;clear c hd;have r:=o.form' [43,44,45,46,7,8] Yb;have aa:=o.defers;obtain⟨m,df⟩:=a;clear o
     dsimp only at r aa g7 g8
     simp only[List.foldl_cons,List.foldl_nil]at r;obtain⟨u43,a4⟩:=Ue (m.getD 43 undef)
     obtain⟨u44,a5⟩:=Ue (m.getD 44 undef)
     obtain⟨u45,a6⟩:=Ue (m.getD 45 undef)
     obtain⟨u46,a7⟩:=Ue (m.getD 46 undef)
     obtain⟨u7,au⟩:=Ue (m.getD 7 undef)
     obtain⟨u8,av⟩:=Ue (m.getD 8 undef)
     rw[<-a4,<-a5,<-a6,<-a7,<-au,<-av]at r;rw[<-au]at g7;rw[<-av]at g8;clear a4 a5 a6 a7 au av;simp only[List.setIfInBounds_toArray,List.set_cons_zero,List.set_cons_succ]at r;subst r;subst aa;obtain⟨vs,g7,k7⟩:=g7;obtain⟨us,g8,k8⟩:=g8;obtain⟨ca,cc,rfl,aC⟩:=g7.cell;obtain⟨da,dc,rfl,aG⟩:=g8.cell;have bn:=k7.length;have bj:=k8.length;have K7:=hZ k7;have K8:=hZ k8;have bo:=hZ aC;have br:=hZ aG;have bN:=hZ bj;have bw:=hZ bn;have bJ:vs.length<=65536:=by have:=Bj t;have:=bt.o;omega
     rw[show us.length=vs.length from by omega];obtain⟨n,hn⟩:=Ue vs.length
     have HN:=hZ hn;rw[<-hn]at bJ|-;clear g7 g8 k7 k8 aC aG bn bj hn a0 a1 c1 W;go_wp2_with fail
     go_loopw [49] (fun ax wr=>∃i:Nat,i<=n/\ax= .int .i64 i/\Chg J wr []) (fun ax _=>n-(intOf ax).toNat)
     case atStart=>exact⟨0,Zj,rfl,bu.o⟩
     case round=>
      obtain⟨i,hi,rfl,hg⟩:=hrel;have ay:=hZ hg;clear hg;by_cases ce:i<n
      .obtain⟨x,hx⟩:∃x,(Ab t)[i]? =some x:=⟨_,Q9 (by have:=bw.o;have:=HN.o;omega)⟩
       obtain⟨va,bl,aq⟩:=K7.o.get i x hx;obtain⟨vb,bm,ar⟩:=K8.o.get i x hx;obtain⟨b1,o1,rfl,bG,aE⟩:=bo.o i va bl;obtain⟨b2,o2,rfl,bH,aF⟩:=br.o i vb bm;obtain⟨ta,xa,rfl⟩:=aq.iface;obtain⟨tb,xb,rfl⟩:=ar.iface;obtain⟨w6,aw⟩:=Ue (World.drew wr)
       have bz:=hZ aw;have ah:Hid (Chg J w6 []):=by rw[aw];exact hZ ay.o.drew
       have C1:=UD (w6.cell? ⟨b1,o1+i,none⟩=some (.iface ta xa)) (ah.o.keeps aE);have C2:=UD (w6.cell? ⟨b2,o2+i,none⟩=some (.iface tb xb)) (ah.o.keeps aF)
       have HC:=UD (∀wx,Chg w6 wx []->Cl prog 29 #[.agg #[.iface ta xa],.agg #[.iface tb xb]] wx (BU true wx)) fun wx bL=>by
        have ak:=ah.o.trans bL;exact IH.o x _ _ wx (Qi hx) (Af.kept (ak.keepsF ai.o) (fun _ h=>h) _ _ aq) (Af.kept (ak.keepsF aj.o) (fun _ h=>h) _ _ ar) (fun b T=>Q6 (ai.o b T) ak.size) (fun b T=>Q6 (aj.o b T) ak.size)
       clear aw hx bl bm aq ar bG bH aE aF;go_wp2_with fail
       refine wp_region_any Yb ?_;change wpAny _ _ _ _ _ _ _ (World.drew _);rw[<-bz.o];refine Dg _ (PX (Np (.iface ta xa) (.iface tb xb) (.slice (some ⟨b1,o1,none⟩) n cc) (.slice (some ⟨b2,o2,none⟩) n dc) i ⟨b1,o1+i,none⟩ ⟨b2,o2+i,none⟩) w6) Yb ?_ ?_ _ ?_
       .intro ii op a P dd d o bk f aD c K j
        match ii,d with
        |0,d=>
         obtain rfl:=Q5 d;have h7:a.tmps.getD 7 undef= .slice (some ⟨b1,o1,none⟩) n cc:=o.at 7 Yb;go_simp
         exact j _ _ Zh (c.put (by simp[Np]) cR)
        |1,d=>
         obtain rfl:=Q5 d;have h9:a.tmps.getD 9 undef= .int .i64 i:=o.at 9 Yb;go_simp
         exact j _ _ Zh (c.put (by simp[Np]) cR)
        |2,d=>
         obtain rfl:=Q5 d;have bZ:a.tmps.getD 52 undef= .slice (some ⟨b1,o1,none⟩) n cc:=c.2 0 (f ⟨0,.data⟩ Zh rfl);have b0:a.tmps.getD 53 undef= .int .i64 i:=c.2 1 (f ⟨1,.data⟩ Zh rfl);go_simp
         exact j _ _ Zh (c.put (by simp[Np]) cR)
        |3,d=>
         obtain rfl:=Q5 d;have b3:a.tmps.getD 54 undef= .pointer (some ⟨b1,o1+i,none⟩):=c.2 2 (f ⟨2,.data⟩ Zh rfl);have bI:=c.1.keeps C1.o;go_simp
         exact j _ _ Zh (c.put (by simp[Np]) cR)
        |4,d=>
         obtain rfl:=Q5 d;have bE:a.tmps.getD 55 undef= .iface ta xa:=c.2 3 (f ⟨3,.data⟩ Zh rfl);have b4:a.tmps[55]?.getD undef= .iface ta xa:=by rw[<-Qp];exact bE
         go_simp
         exact j (.agg #[.iface ta xa]) _ Zh (c.put rfl cR)
        |5,d=>
         obtain rfl:=Q5 d;have h8:a.tmps.getD 8 undef= .slice (some ⟨b2,o2,none⟩) n dc:=o.at 8 Yb;go_simp
         exact j _ _ Zh (c.put (by simp[Np]) cR)
        |6,d=>
         obtain rfl:=Q5 d;have h9:a.tmps.getD 9 undef= .int .i64 i:=o.at 9 Yb;go_simp
         exact j _ _ Zh (c.put (by simp[Np]) cR)
        |7,d=>
         obtain rfl:=Q5 d;have b6:a.tmps.getD 57 undef= .slice (some ⟨b2,o2,none⟩) n dc:=c.2 5 (f ⟨5,.data⟩ Zh rfl);have b7:a.tmps.getD 58 undef= .int .i64 i:=c.2 6 (f ⟨6,.data⟩ Zh rfl);go_simp
         exact j _ _ Zh (c.put (by simp[Np]) cR)
        |8,d=>
         obtain rfl:=Q5 d;have b8:a.tmps.getD 59 undef= .pointer (some ⟨b2,o2+i,none⟩):=c.2 7 (f ⟨7,.data⟩ Zh rfl);have bI:=c.1.keeps C2.o;go_simp
         exact j _ _ Zh (c.put (by simp[Np]) cR)
        |9,d=>
         obtain rfl:=Q5 d;have bF:a.tmps.getD 60 undef= .iface tb xb:=c.2 8 (f ⟨8,.data⟩ Zh rfl);have b9:a.tmps[60]?.getD undef= .iface tb xb:=by rw[<-Qp];exact bF
         go_simp
         exact j (.agg #[.iface tb xb]) _ Zh (c.put rfl cR)
        |10,d=>
         obtain rfl:=Q5 d;have b5:a.tmps.getD 56 undef= .agg #[.iface ta xa]:=c.2 4 (f ⟨4,.data⟩ Zh rfl);have cb:a.tmps.getD 61 undef= .agg #[.iface tb xb]:=c.2 9 (f ⟨9,.data⟩ Zh rfl);go_simp
         go_at_call 29;refine(HC.o P c.1).mono ?_;rintro e w1 ⟨rfl,p⟩;exact j _ _ Zh (c.put rfl p)
        |11,d=>
         obtain rfl:=Q5 d;have cd:a.tmps.getD 62 undef= .bool true:=c.2 10 (f ⟨10,.data⟩ Zh rfl);go_simp
         exact j _ _ Zh (c.put (by simp[Np]) cR)
        |_+12,d=>exact absurd d Zh
       .intro a bM dd o hd c
        have ap:a.tmps.getD 63 undef= .bool false:=c.2 11 (hd 11 ZM);have bv:=UD (Chg J bM []) (ah.o.trans c.1);clear c hd;have r:=o.form' [52,53,54,55,56,57,58,59,60,61,62,63] Yb;have aa:=o.defers;obtain⟨m,df⟩:=a;clear o
        dsimp only at r aa ap
        simp only[List.foldl_cons,List.foldl_nil]at r;rw[ap]at r;clear ap;obtain⟨u52,a8⟩:=Ue (m.getD 52 undef)
        obtain⟨u53,a9⟩:=Ue (m.getD 53 undef)
        obtain⟨u54,ba⟩:=Ue (m.getD 54 undef)
        obtain⟨u55,bb⟩:=Ue (m.getD 55 undef)
        obtain⟨u56,bc⟩:=Ue (m.getD 56 undef)
        obtain⟨u57,bd⟩:=Ue (m.getD 57 undef)
        obtain⟨u58,be⟩:=Ue (m.getD 58 undef)
        obtain⟨u59,bf⟩:=Ue (m.getD 59 undef)
        obtain⟨u60,bg⟩:=Ue (m.getD 60 undef)
        obtain⟨u61,bh⟩:=Ue (m.getD 61 undef)
        obtain⟨u62,bi⟩:=Ue (m.getD 62 undef)
        rw[<-a8,<-a9,<-ba,<-bb,<-bc,<-bd,<-be,<-bf,<-bg,<-bh,<-bi]at r;clear a8 a9 ba bb bc bd be bf bg bh bi;simp only[List.setIfInBounds_toArray,List.set_cons_zero,List.set_cons_succ]at r;subst r;subst aa;go_wp2_with fail
        go_roundw
        case rel=>exact⟨i+1,Zj,by go_num,bv.o⟩
        case measure=>simp[intOf];omega
       .exact⟨Chg.refl _ _,fun _ e=>by cases e⟩
      .go_wp2_with fail
       go_ret
       exact⟨rfl,ab.o.trans ay.o⟩
    .exact⟨Chg.refl _ _,fun _ e=>by cases e⟩
 .exact⟨Chg.refl _ _,fun _ e=>by cases e⟩
theorem OL(F G:Nat->Prop)(l f:Nat)(t:Tr)(w:Wl)(C:CG w F l t)(D:CG w G f t)(g:∀b,F b->b<w.heap.size)(i:∀b,G b->b<w.heap.size)(j:Bt t):
  Cl prog 23 #[.pointer (some ⟨l,0,none⟩),.pointer (some ⟨f,0,none⟩)] w (BU true w):=by
 obtain⟨v,x,hi,d⟩:=C;obtain⟨u,s,k,r⟩:=D;have y:=hZ (IG F l v w x hi.iface d);have z:=UD (∀a,Chg w a []->Cl prog 30 #[.pointer (some ⟨f,0,none⟩)] a fun e w'=>e= .returned (.agg #[u])/\Chg a w' []) fun a c=>IG G f u a (c.keeps s) k.iface (Q6 r c.size)
 have A:=UD (∀a,Chg w a []->Cl prog 29 #[.agg #[v],.agg #[u]] a (BU true a)) fun a c=>
  XF _ t F G v u a (Q8 _) (Ar j.fits).1 j.good (Af.kept (c.keepsF g) (fun _ h=>h) _ _ hi) (Af.kept (c.keepsF i) (fun _ h=>h) _ _ k) (fun b d=>Q6 (g b d) c.size) (fun b d=>Q6 (i b d) c.size)
 clear x s hi k d r g i j;go_enter func23,ntmps23
 go_wp2_with fail
 refine y.o.mono ?_;rintro e E ⟨rfl,o⟩;have m:=hZ o;clear o;go_wp2_with fail
 refine(z.o E m.o).mono ?_;rintro e w2 ⟨rfl,p⟩;have n:=hZ (m.o.trans p);clear p;go_wp2_with fail
 refine(A.o w2 n.o).mono ?_;rintro e H ⟨rfl,q⟩;have B:=hZ (n.o.trans q);clear q;go_wp2_with fail
 go_ret
 exact⟨rfl,B.o⟩
end
end Go.Proofs.YtkfnkppdhcaeoaaGreatDoor

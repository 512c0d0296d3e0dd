/- Part 19 of the proof of both cards. -/
import Derived.Test.YtpdnhfkacgdocaaGreatDoorM18
set_option maxRecDepth 100000
set_option maxHeartbeats 32000000
set_option linter.all false
namespace Go.Proofs.YtpdnhfkacgdocaaGreatDoor
open Go renaming Calls->Cl,TypeId->Ti,Value->Vl,World->Wl
open Go.Value renaming agg->nA,iface->nF,int->nI,pointer->nP,slice->nS,string->nG,tuple->nT
open Go.IntKind renaming i64->nX
open Go.Ending renaming returned->nR
open Go.Obj renaming cells->nC
open Option renaming none->nN,some->nM
section
open _root_.Go.Proofs.Tryz
open Go Go.Shelf Go.RowKit Go.Lib Tree Ptr
variable{a:Act}{K:Act->Wl->Prop}{o:Bq}{Q:Exit->Act->Wl->Prop}{b:Int}{frm path:List BY}{l:List Bq}{u:List CW}{bs:List Nat}{vs xs:List Vl}{D W e i j k m n:Nat}{d:Nat->Bool}{F G:Nat->Prop}{f:Nat->Vl}{V:Nat->Vl->Prop}{P:Program}{p:Prop}{t x:Tr}{c slp sv v:Vl}{g w w' w0 wr:Wl}
theorem Ru{o:Oper}(r x:Operand)(q:Array Ti)(i:o.op= .call {callee:= .value r,args:=#[x],argTypes:=q})(n:Nat)(p u:Vl)(l:a.eval r= .func (.func n) #[p] #[])(m:a.eval x=u)(f:(callFunc n #[p,u]).run P w= .ok (.enter n #[p,u]) w)(R:Ending->Wl->Prop)(d:Cl P n #[p,u] w R)(c:∀e w2,R e w2->(∃v,e= nR v/\K (a.put o.dst v) w2)\/(∃b,e= .panicked b/\Q (.panic b) a w2)):Oper.wp P o a w K Q:=by
 unfold Oper.wp
 have g:(execOp a.eval o).run P w= .ok (.enter n #[p,u]) w:=by
  simp[execOp,i,resolve,invoke,l,m,Deferred.ofValue,f]
 rw[g];refine d.mono fun e w2 h=> ?_;rcases c e w2 h with⟨u,rfl,k⟩|⟨b,rfl,j⟩
 .exact k
 .exact j
theorem UR{p:Vl}(h:(HJ W)[m]? =nM (.func (.func n) #[p] #[])):∀(args:Array Vl) (w:Wl),(callFunc n args).run prog w= .ok (.enter n args) w:=by
 have a:m<6:=(Qc.1 h).1;unfold HJ at h;match m,a with
 |0,_=>simp at h;obtain⟨rfl,_⟩:=h;exact fun _ _=>Yb
 |1,_=>simp at h;obtain⟨rfl,_⟩:=h;exact fun _ _=>Yb
 |2,_=>simp at h;obtain⟨rfl,_⟩:=h;exact fun _ _=>Yb
 |3,_=>simp at h;obtain⟨rfl,_⟩:=h;exact fun _ _=>Yb
 |4,_=>simp at h;obtain⟨rfl,_⟩:=h;exact fun _ _=>Yb
 |5,_=>simp at h;obtain⟨rfl,_⟩:=h;exact fun _ _=>Yb
def Y6(w0:Wl)(W:Nat)(g:List (List Bq))(a:Vl)(bs:List Nat)(G:Nat->Prop)(r:PV)(w:Wl)(e:Ending)(w':Wl):Prop:=match r with
 | .no k=>e=By k/\Chg w w' (Dj W a bs)
 | .yes h i=>e= nR (nT #[])/\Chg w w' (Dj W a bs)/\∃v' f d j c,PO w0 w' W h (g++[i.reverse.map CW.toI]) v' f d j c/\(∀b,b∈Dj W f d->b∈Dj W a bs\/w.heap.size<=b)/\∀b,c b->G b\/w.heap.size<=b
def CK(w0:Wl)(W:Nat)(t:Tr)(a:List (List Bq))(b:Vl)(bs:List Nat)(G:Nat->Prop)(o:Bq)(w:Wl)(e:Ending)(w':Wl):Prop:=Y6 w0 W a b bs G (Gz t o) w e w'
theorem UH.kept{e f:Vl}{d:List Nat}{c:Nat->Prop}(h:UH w o path frm x slp e f d F c)(b:Chg w w' []):UH w' o path frm x slp e f d F c:=
 ⟨h.tpath.kept b,fun a=>(h.tfrm a).kept b,fun a=>⟨(h.val a).1.chg b Zh,(h.val a).2⟩,h.pathP,h.frmP,h.small⟩
theorem I8.below{e:Ending}(h:I8 o path frm x sv w e w'):
  ∃slp f g d F c,e= nR (nA #[nI nX o.kind,nG o.path,nG o.frm,sv,slp,f,g])/\UH w' o path frm x slp f g d F c/\BP w d/\(∀b,F b->w.heap.size<=b)/\(∀b,c b->w.heap.size<=b)/\(∀b,b∈d->¬F b/\¬c b)/\(∀b,b∈d->b<w'.heap.size)/\Chg w w' []/\f.oneCell'=true/\g.oneCell'=true:=by
 obtain⟨slp,f,g,d,F,c,i,a,q,j,k,r,l,m,n⟩:=h;by_cases p:AN o.kind=true
 .exact⟨slp,f,g,d,F,c,i,a,q,j,k,r,fun b s=>AP.lt _ _ _ (a.val p).1 b s,l,m,n⟩
 .exact⟨slp,f,g,[],F,c,i,⟨a.tpath,a.tfrm,fun h=>absurd h p,a.pathP,a.frmP,a.small⟩,BP.nil w,j,k,Zh,Zh,l,m,n⟩
theorem aB{k:Int}{p f:BY}{b:Vl}(d:sv.oneCell'=true)(e:slp.oneCell'=true)(g:b.oneCell'=true)(h:c.oneCell'=true):∀u∈[Vl.int nX k,nG p,nG f,sv,slp,b,c],u.oneCell'=true:=by
 intro u a;simp only[Qh,List.not_mem_nil,or_false]at a;rcases a with rfl|rfl|rfl|rfl|rfl|rfl|rfl
 .rfl
 .rfl
 .rfl
 .exact d
 .exact e
 .exact g
 .exact h
theorem Bd{o:Oper}(b:Ti)(x:Operand)(f:o.op= .load b x)(g:Nat)(j:a.eval x= nP (nM ⟨g,0,nN⟩))(T:Ti)(cs:List Vl)(c:Ac w g cs T)(d:TypeDesc)(i:P.underlying b=nM d)(e:(match d with| .struct _| .array _ _=>true|_=>false)=true)(hi:(P.info? b).map (·.size)=nM cs.length)(h:K (a.put o.dst (.agg cs.toArray)) w):Oper.wp P o a w K Q:=
 wp_load_row b x f g j T cs.toArray (0,0) d c i e (by simpa using hi) h
def PD(w0 a:Wl)(W:Nat)(i:Vl)(h:List Nat)(o:List (List Bq))(vs:List Vl)(G:Nat->Prop)(k:PV)(n:Nat)(v:Vl)(w:Wl):Prop:=match n with
 |0=>Chg a w []
 |1=>∃d e xs G2 v' f,k= .yes d e/\Y3 a w W i h d (e.reverse.map CW.toI) v xs G2 v' f/\Chg a w h
 |2=>∃d e xs G2 v' f j g,k= .yes d e/\Y3 a w W i h d (e.reverse.map CW.toI) j xs G2 v' f/\Chg a w h/\v= nS (nM ⟨g,0,nN⟩) 1 1/\Ac w g [j] 23/\a.heap.size<=g/\g∉W::f
 |3=>∃d e xs G2 v' f j g n c,k= .yes d e/\Y3 a w W i h d (e.reverse.map CW.toI) j xs G2 v' f/\Chg a w (i.ownBlock.toList++h)/\v= nS (nM ⟨g,0,nN⟩) n c/\AK w v 23 (vs++[j])/\(i.ownBlock=nM g\/a.heap.size<=g)/\g∉W::f/\¬G2 g
 |_=>∃d e v' m f p l,k= .yes d e/\PO w0 w W d (o++[e.reverse.map CW.toI]) v' m f p l/\Chg a w (i.ownBlock.toList++h)/\(∀b,b∈Dj W m f->b∈i.ownBlock.toList++h\/a.heap.size<=b)/\∀b,l b->G b\/a.heap.size<=b
theorem PD.chg{d:Wl}{b:List Nat}{e:List (List Bq)}{f:PV}(h:PD w0 d W c b e vs G f n v w):Chg d w (c.ownBlock.toList++b):=by
 match n,h with
 |0,h=>exact Chg.none h _
 |1,⟨_,_,_,_,_,_,_,_,h⟩=>exact h.mono fun k _ a=>Qd _ a
 |2,⟨_,_,_,_,_,_,_,_,_,_,h,_⟩=>exact h.mono fun k _ a=>Qd _ a
 |3,⟨_,_,_,_,_,_,_,_,_,_,_,_,h,_⟩=>exact h
 |_+4,⟨_,_,_,_,_,_,_,_,_,h,_⟩=>exact h
theorem PD.undo{b:Wl}{a g:Vl}{e:List Nat}{c:List (List Bq)}{f:PV}(h:PD w0 b W a e c vs G f n v w)(i:n<=2)(d:Hu b W t g a bs):w.cell? ⟨W,3,nN⟩=nM a:=by
 match n,h with
 |0,h=>exact(d.blk.kept h).cell 3
 |1,⟨_,_,_,_,_,_,_,h,_⟩=>exact h.wat.blk.cell 3
 |2,⟨_,_,_,_,_,_,_,_,_,h,_⟩=>exact h.wat.blk.cell 3
 |_+3,_=>omega
theorem U0:(prog.info? 23).map (fun i=>(i.zero,i.size,i.bytes))=nM (nM (nS nN 0 0),1,24):=Yb
def Tp(W a D m:Nat)(d:Vl)(c:Nat)(b:Vl)(j:Nat)(v:Vl):Prop:=match j with
 |0=>v= nP (nM ⟨W,0,nN⟩)
 |1=>v= nP (nM ⟨W,0,nN⟩)
 |2=>v= nP (nM ⟨W,0,nN⟩)
 |3=>v= nP (nM ⟨W,3,nN⟩)
 |4=>v=d
 |5=>v= nS (nM ⟨D,0,nN⟩) 6 6
 |6=>v= nP (nM ⟨a,0,nN⟩)
 |7=>v= nI nX ((m:Int)+1)
 |8=>v= nI nX m
 |9=>v= nP (nM ⟨D,m,nN⟩)
 |10=>v= .func (.func c) #[nP (nM ⟨W,0,nN⟩)] #[]
 |11=>v=b
 |15=>v= nP (nM ⟨W,0,nN⟩)
 |16=>v= nP (nM ⟨W,3,nN⟩)
 |_=>True
theorem Tx(w0:Wl)(W:Nat)(t:Tr)(g:List (List Bq))(v a:Vl)(bs:List Nat)(vs:List Vl)(G:Nat->Prop)(o:Bq)(sv:Vl)(ys:List Vl)(d f b D:Nat)(w:Wl)(l:Br w)(z:10<=w0.heap.size)(K:w0.heap.size<=w.heap.size)(h:PO w0 w W t g v a bs vs G)(m:T7 o)(p:As w sv 6 o.steps.length ys)(q:Az w o.steps ys)(r:Ac w d (BJ o sv) 42)(A:Ac w f [nP (nM ⟨W,0,nN⟩)] 62)(B:Ac w b [nS (nM ⟨D,0,nN⟩) 6 6] 104)(C:Ac w D (HJ W) 110)(E:d∉Dj W a bs)(F:f∉Dj W a bs)(H:b∉Dj W a bs)(I:D∉Dj W a bs)(J:vs.length<=65536)(i:Bn o≠0):
  Cl prog 40 #[nP (nM ⟨d,0,nN⟩),nP (nM ⟨f,0,nN⟩),nP (nM ⟨b,0,nN⟩)] w (CK w0 W t g a bs G o w):=by
 have c:=hZ (Xu o sv ys w l m p q);rw[Co.no rfl i]at c
 have j:=UD (CK w0 W t g a bs G o w=fun e w'=>e=By (Bn o)/\Chg w w' (Dj W a bs)) (by
  funext e w';unfold CK Gz;rw[Qr i];rfl)
 have y:=hZ r;rw[j.o];obtain⟨n,u⟩:=Ue (Bn o);rw[<-u]at c|-;clear l z K h m p q r A B C E F H I J i u j;go_enter func40,ntmps40
 go_wp2_with(first
  |(refine uN y.o ?_)
  |(go_at_call 41;refine c.o.mono ?_;rintro e L ⟨s,k⟩;unfold By at s;subst s;have x:=hZ k;clear k))
 exact⟨rfl,rfl,x.o.none _⟩
theorem z0d(h:p:=by go_simp;exact u _ _ Zh (l.read Zh ZM (by simp[Tp]))):p:=h
theorem z0f(h:p:=by simp[Region.wanted]):p:=h
theorem z0m(h:p:=by have s:rS a 1= nP (nM ⟨WB,0,nN⟩):=E.at 1 Yb;have M:=B2.o.kept ai aJ.o;have I:=M.cell 0;simp only[Qa,Qb]at I;exact z0d):p:=h
theorem z0p(h:p:=by
 rcases Qh.1 j with j|j
 .omega
 .have:=aG _ j;omega):p:=h
theorem Rz(w0:Wl)(W:Nat)(t:Tr)(gs:List (List Bq))(v q:Vl)(bs:List Nat)(vs:List Vl)(G:Nat->Prop)(o:Bq)(sv:Vl)(ys:List Vl)(OB WB DB D:Nat)(w:Wl)(hL:Br w)(av:10<=w0.heap.size)(hz:w0.heap.size<=w.heap.size)(h:PO w0 w W t gs v q bs vs G)(hO:T7 o)(hR:As w sv 6 o.steps.length ys)(hS:Az w o.steps ys)(aZ:Ac w OB (BJ o sv) 42)(a0:Ac w WB [nP (nM ⟨W,0,nN⟩)] 62)(a1:Ac w DB [nS (nM ⟨D,0,nN⟩) 6 6] 104)(a2:Ac w D (HJ W) 110)(a7:OB∉Dj W q bs)(a8:WB∉Dj W q bs)(a9:DB∉Dj W q bs)(ba:D∉Dj W q bs)(bf:vs.length<=65536)(am:Bn o=0):
  Cl prog 40 #[nP (nM ⟨OB,0,nN⟩),nP (nM ⟨WB,0,nN⟩),nP (nM ⟨DB,0,nN⟩)] w (CK w0 W t gs q bs G o w):=by
 have aS:=hZ (Xu o sv ys w hL hO hR hS);have N:CP o.kind=true:=Iu.2 (by have:=(EK am).1;omega);obtain⟨m,j⟩:∃m:Nat,o.kind=(m:Int)+1:=⟨(o.kind-1).toNat,by have:=(EK am).1;omega⟩;have ca:m<6:=by have:=(EK am).1;omega
 have a6:(o.kind-1).toNat=m:=Zj;have ay:=hZ am;have HL:=hZ hL;have ar:=hZ aZ;have R:=hZ h;have bt:=hZ j;obtain⟨ag,ah,rfl,_⟩:=hR.form;have aO:=hZ N;have aP:=hZ a6;have aU:=hZ bf;have aL:=hZ av;have HZ:=hZ hz;have aa:=hZ (And.intro a0 (And.intro a1 a2));have al:=hZ (And.intro a7 (And.intro a8 (And.intro a9 ba)));clear hL av hz h hO hR hS aZ a0 a1 a2 a7 a8 a9 ba bf am j N a6;go_enter func40,ntmps40
 go_wp2_with(first
  |(refine uN ar.o ?_)
  |(go_at_call 41;refine aS.o.mono ?_;intro e O aH;unfold Co at aH;rw[ay.o,Qs Zh]at aH;obtain⟨path,frm,x,bc,r7⟩:=aH;obtain⟨slp,af,vx,B,F,F2,rfl,r1,r2,r3,r4,r5,bj,r6⟩:=bc.below;clear bc;obtain⟨pa,pc,bd,_⟩:=r1.tpath.row.cell;have R1:=hZ r1;have V:=hZ r2;have R3:=hZ r3;have R4:=hZ r4;have R5:=hZ r5;have R6:=hZ bj;have H1:=hZ r6.1;have bw:=hZ (aB (k:=o.kind) (p:=o.path) (f:=o.frm) (sv:= nS ag o.steps.length ah) (slp:=slp) rfl (by rw[bd];rfl) r6.2.1 r6.2.2);have R7:=hZ r7;have aQ:=hZ (Ac.new O [nI nX 0,nG ⟨#[]⟩,nG ⟨#[]⟩,nS nN 0 0,nS nN 0 0,nS nN 0 0,.nilIface] 108);clear r1 r2 r3 r4 r5 bj r6 r7 bd)
  |(refine Ae rfl _ _ _ rfl O.heap.size [nI nX o.kind,nG o.path,nG o.frm,nS ag o.steps.length ah,slp,af,vx] ZN ZN 108 _ aQ.o Ce rfl bw.o ?_;intro w2 bW aA aF;have aM:=hZ aA;have H2:=UD (Chg w w2 []) (Chg.step (b:=_) (by exact cg H1.o) aF (fun i hi hl=>by have:=H1.o.size;simp at hi;omega));have aK:=UD (Chg O w2 []) (Chg.step (b:=_) (by exact cg (cR)) aF (fun i hi hl=>by simp at hi;omega));have aV:=UD (O.heap.size<w2.heap.size) aA.lt;clear bW aA aF))
 go_outline
 obtain⟨A,aj⟩:=Ue (World.drew w2);have bz:=hZ aj;have U:Hid (Chg w A []):=by rw[aj];exact hZ H2.o.drew
 have bo:Hid (Chg O A []):=by rw[aj];exact hZ aK.o.drew
 have B5:Hid (Ac A O.heap.size [nI nX o.kind,nG o.path,nG o.frm,nS ag o.steps.length ah,slp,af,vx] 108):=by rw[aj];exact hZ aM.o.drew
 have bV:O.heap.size<A.heap.size:=by rw[aj];exact aV.o
 clear aj;have bg:=U.o.size;have ae:=R.o.ltAll;have ab:W∈Dj W q bs:=Qd _ Zh;have ad:∀b,b∈bs->b∈Dj W q bs:=fun b d=>Qd _ (Qg _ d)
 have ao:∀b,b<w.heap.size->b∉Dj W q bs->b∉q.ownBlock.toList++W::(B++bs):=fun b hl hn j=>by
  rcases Qf.1 j with j|j
  .exact hn (Qe _ j)
  .rcases Qh.1 j with rfl|j
   .exact hn ab
   .rcases Qf.1 j with j|j
    .have:=V.o.ge b j;omega
    .exact hn (ad b j)
 have B1:=hZ (ar.o.kept U.o);have B2:=hZ (aa.o.1.kept U.o);have B3:=hZ (aa.o.2.1.kept U.o);have B4:=hZ (aa.o.2.2.kept U.o);have bk:=hZ (ao OB ar.o.lt al.o.1);have aJ:=hZ (ao WB aa.o.1.lt al.o.2.1);have bl:=hZ (ao DB aa.o.2.1.lt al.o.2.2.1);have bm:=hZ (ao D aa.o.2.2.lt al.o.2.2.2)
 have bn:=UD (O.heap.size∉q.ownBlock.toList++W::(B++bs)) fun j=>by
  have cd:=H1.o.size;rcases Qf.1 j with j|j
  .have:=ae _ (Qe _ j);omega
  .rcases Qh.1 j with j|j
   .have:=ae _ ab;omega
   .rcases Qf.1 j with j|j
    .have:=R6.o _ j;omega
    .have:=ae _ (ad _ j);omega
 have ak:=hZ (R.o.kept U.o)
 have az:=UD (∀b,b∈B->w0.heap.size<=b/\¬G b/\q.ownBlock≠nM b) fun b d=>by
  have s:=V.o.ge b d;have h2:=HZ.o;refine⟨Zj,fun hG=>by have:=(R.o.gnew b hG).2;omega,fun e=>by have:=R.o.row.lt e;omega⟩
 have aT:=UD (∀g,q.ownBlock=nM g->g∉W::(B++bs)) fun g hg j=>by
  rcases Qh.1 j with rfl|j
  .exact(R.o.uown g hg).2.1 Zh
  .rcases Qf.1 j with j|j
   .exact(az.o g j).2.2 hg
   .exact(R.o.uown g hg).2.1 (Qg _ j)
 have bA:=UD (w0.heap.size<=A.heap.size) (by have:=HZ.o;omega)
 have bb:(W::(B++bs)).Nodup:=by
  have hn:=R.o.nodup;simp only[List.nodup_cons,List.nodup_append,Qf,not_or]at hn|-;refine⟨⟨fun j=>by have:=V.o.ge _ j;have:=ae _ ab;omega,hn.1⟩,V.o.nodup,hn.2,fun x hx y hy e=> ?_⟩;subst e;have:=V.o.ge _ hx;have:=ae _ (ad _ hy);omega
 have a5:∀b,b∈W::(B++bs)->10<=b:=fun b d=>by
  have s:=aL.o;rcases Qh.1 d with rfl|d
  .have:=R.o.ge _ (List.mem_cons_self ..);omega
  .rcases Qf.1 d with d|d
   .have:=(az.o b d).1;omega
   .have:=R.o.ge _ (Qg _ d);omega
 have aC:∀b,b∈W::(B++bs)->¬F b/\¬F2 b:=fun b d=>by
  have bi:b∈Dj W q bs->¬F b/\¬F2 b:=fun j=>by
   have hl:=ae b j;exact⟨fun E=>by have:=R3.o b E;omega,fun E=>by have:=R4.o b E;omega⟩
  rcases Qh.1 d with rfl|d
  .exact bi ab
  .rcases Qf.1 d with d|d
   .exact R5.o b d
   .exact bi (ad b d)
 have be:Da t o path frm x=Gz t o:=VL ay.o R1.o.pathP R1.o.frmP R7.o
 have aE:∀P,Chg A P []->∃n:Nat,(HJ W)[(o.kind-1).toNat]? =nM (.func (.func n) #[nP (nM ⟨W,0,nN⟩)] #[])/\
   Cl prog n #[nP (nM ⟨W,0,nN⟩),nA #[nI nX o.kind,nG o.path,nG o.frm,nS ag o.steps.length ah,slp,af,vx]] P (BC W q (W::(B++bs)) (Gz t o) P):=fun P hx=>by
  rw[<-be];have bJ:=bo.o.trans hx;have bF:=U.o.trans hx;exact aD W t v q bs o path frm x _ slp af vx B F F2 P (HL.o.kept bF) (ak.o.wat.kept hx) (R1.o.kept bJ) bb a5 (fun b d=>(aC b d).1) (fun b d=>(aC b d).2) aO.o
 obtain⟨n0,an,_⟩:=aE A cR;obtain⟨aq,Z⟩:=Ue (Gz t o)
 have bq:=UD (∀P,Chg A P []->Cl prog n0 #[nP (nM ⟨W,0,nN⟩),nA #[nI nX o.kind,nG o.path,nG o.frm,nS ag o.steps.length ah,slp,af,vx]] P (BC W q (W::(B++bs)) aq P)) fun P hx=>by
  obtain⟨n,s,h2⟩:=aE P hx;rw[an]at s;injection s with s
  injection s with s _ _
  injection s with s
  subst s;rw[Z];exact h2
 rw[aP.o]at an;have bu:=hZ an;have bp:=hZ (UR an);have aR:=UD (CK w0 W t gs q bs G o w=Y6 w0 W gs q bs G aq w) (by unfold CK;rw[<-Z])
 have aN:=UD (∀w',Chg A w' (q.ownBlock.toList++W::(B++bs))->Chg w w' (Dj W q bs)) fun w' h=>(U.o.none _).step h (fun i hi hl=>by
  rcases Qf.1 hi with hi|hi
  .exact Qe _ hi
  .rcases Qh.1 hi with rfl|hi
   .exact ab
   .rcases Qf.1 hi with hi|hi
    .have:=V.o.ge i hi;omega
    .exact ad i hi)
 have bB:=UD (w.heap.size<=A.heap.size) bg
 have bv:=UD (∀b,(b∈q.ownBlock.toList++W::(B++bs)\/A.heap.size<=b)->b∈Dj W q bs\/w.heap.size<=b) fun b d=>by
  rcases d with d|d
  .rcases Qf.1 d with d|d
   .exact .inl (Qe _ d)
   .rcases Qh.1 d with rfl|d
    .exact .inl ab
    .rcases Qf.1 d with d|d
     .exact .inr (V.o.ge b d)
     .exact .inl (ad b d)
  .exact .inr Zj
 have bx:=UD (PD w0 A W q (W::(B++bs)) gs vs G aq 0 undef A) cR;clear Z aE be aC a5 bb ao ae ab ad an bg bV;clear aS aP aO aa al aM ar aQ R1 V R3 R4 R5 R6 R7 H1 H2 aK aV HL ay aL;refine wp_region_any Yb ?_;change wpAny _ _ _ _ _ _ _ (World.drew _);rw[<-bz.o];refine Dg _ (DC [12,13,14,17] (Tp W OB D m q n0 (nA #[nI nX o.kind,nG o.path,nG o.frm,nS ag o.steps.length ah,slp,af,vx])) (PD w0 A W q (W::(B++bs)) gs vs G aq)) Yb ?_ ?_ _ ?_
 .intro ii op a L dd ho E T z bO l K u
  have ai:Chg A L (q.ownBlock.toList++W::(B++bs)):=by
   obtain⟨_,_,_,hp⟩:=l.any;exact hp.chg
  match ii,ho with
  |0,rfl=>
   exact z0m
  |1,rfl=>
   exact z0m
  |2,rfl=>
   have h7:rS a 7= nP (nM ⟨W,0,nN⟩):=l.vals 1 ZM (z ⟨1,.data⟩ Zh rfl);exact z0d
  |3,rfl=>
   have h8:rS a 8= nP (nM ⟨W,0,nN⟩):=l.vals 2 ZM (z ⟨2,.data⟩ Zh rfl);exact z0d
  |4,rfl=>
   have h9:rS a 9= nP (nM ⟨W,3,nN⟩):=l.vals 3 ZM (z ⟨3,.data⟩ Zh rfl)
   have au:dd 14=false:=by
    cases e:dd 14 with
    |false=>rfl
    |true=>have:=bO 14 _ rfl e ⟨4,.data⟩ Zh rfl;rw[T]at this;cases this
   obtain⟨m',v',bR,bS⟩:=l.low (n:=2) rfl au;have I:=bS.undo bR ak.o.wat;exact z0d
  |5,rfl=>
   have h2:rS a 2= nP (nM ⟨DB,0,nN⟩):=E.at 2 Yb;have M:=B3.o.kept ai bl.o;have I:=M.cell 0;simp only[Qa,Qb]at I;exact z0d
  |6,rfl=>
   have h0:rS a 0= nP (nM ⟨OB,0,nN⟩):=E.at 0 Yb;exact z0d
  |7,rfl=>
   have b0:rS a 12= nP (nM ⟨OB,0,nN⟩):=l.vals 6 ZM (z ⟨6,.data⟩ Zh rfl);have M:=B1.o.kept ai bk.o;have I:=M.cell 0;unfold BJ at I;simp only[Qa]at I;rw[bt.o]at I;exact z0d
  |8,rfl=>
   have b1:rS a 13= nI nX ((m:Int)+1):=l.vals 7 ZM (z ⟨7,.data⟩ Zh rfl);have cc:IntKind.i64.wrap ((m:Int)+1-1)=(m:Int):=by rw[show(m:Int)+1-1=m from by omega];exact IntWalk.i64_in _ Zj
   have bT:IntKind.i64.wrap (m:Int)=(m:Int):=IntWalk.i64_in _ Zj;go_simp;exact u _ _ Zh (l.read Zh ZM (by simp[Tp,bT]))
  |9,rfl=>
   have bZ:rS a 11= nS (nM ⟨D,0,nN⟩) 6 6:=l.vals 5 ZM (z ⟨5,.data⟩ Zh rfl);have b2:rS a 14= nI nX m:=l.vals 8 ZM (z ⟨8,.data⟩ Zh rfl);have cb:(m:Int)<6:=Zj;have b9:(0:Int)<=(m:Int):=Zj;exact z0d
  |10,rfl=>
   have b3:rS a 15= nP (nM ⟨D,m,nN⟩):=l.vals 9 ZM (z ⟨9,.data⟩ Zh rfl);have M:=B4.o.kept ai bm.o;have I:=M.cell m;rw[bu.o]at I;exact z0d
  |11,rfl=>
   have h3:a.tmps.getD 3 undef= nP (nM ⟨O.heap.size,0,nN⟩):=E.at 3 Yb;have M:=B5.o.kept ai bn.o;rw[Qr z0f];refine Bd _ _ rfl O.heap.size h3 108 _ M _ underlying108 rfl Ce ?_;exact u _ _ Zh (l.read Zh ZM (by simp[Tp]))
  |12,rfl=>
   have bC:=z ⟨10,.data⟩ Zh rfl;have bD:=z ⟨11,.data⟩ Zh rfl;have av:a.tmps.getD 16 undef= .func (.func n0) #[nP (nM ⟨W,0,nN⟩)] #[]:=l.vals 10 ZM bC;have bH:a.tmps.getD 17 undef=(nA #[nI nX o.kind,nG o.path,nG o.frm,nS ag o.steps.length ah,slp,af,vx]):=l.vals 11 ZM bD;have aw:Chg A L []:=l.at (n:=0) rfl T (.inl rfl);rw[Qr z0f];refine Ru _ _ _ rfl n0 _ _ av bH (bp.o _ _) _ (bq.o L aw) ?_;intro e O ax;rcases Z:aq with k|⟨t',C⟩
   .rw[Z]at ax;obtain⟨he,bL⟩:=ax;unfold By at he;subst he;refine .inr ⟨_,rfl, ?_⟩;rw[aR.o,Z];exact⟨E.defers,rfl,aN.o _ (((aw.none _).trans bL).mono fun k _ N=>Qd _ N)⟩
   .rw[Z]at ax;obtain⟨v',Q,sl,xs,G2,he,q1,q2,q3,q4,q5⟩:=ax;subst he;have bU:=aw.size;refine .inl ⟨_,rfl,u _ _ Zh (l.next (n:=0) rfl T (.inl rfl) ZM ?_)⟩;exact⟨t',C,xs,G2,v',Q,Z,⟨⟨q1.row,q1.inn,q1.ops,fun b d=>by have:=q1.new b d;omega⟩,q2,q3.back bU,q5⟩,(aw.none _).trans q4⟩
  |13,rfl=>
   have aW:=z ⟨12,.data⟩ Zh rfl;obtain⟨t',C,xs,G2,v',Q,X,r,H⟩:=l.at (n:=1) rfl T (.inr ⟨12,rfl,aW⟩);change Y3 _ _ _ _ _ _ _ (a.tmps.getD 18 undef) _ _ _ _ at r;obtain⟨sa,sc,ap,_⟩:=r.ops.row.form;rw[show(C.reverse.map CW.toI).length=C.length from by simp]at ap;rw[ap]at r;have bI:a.tmps.getD 18 undef= nS sa C.length sc:=ap;have b4:a.tmps[18]?.getD undef= nS sa C.length sc:=by rw[<-Qp];exact bI
   have bh:=H.size;have bP:=r.wat.blk.lt;have aG:=AP.lt _ _ _ r.wat.at_;go_simp;refine u _ _ Zh (l.next (n:=1) rfl T (.inr ⟨12,rfl,aW⟩) ZM ?_);have bN:Chg L (L.alloc (nC #[nS sa C.length sc] 23)) []:=(Chg.refl L []).alloc _;refine⟨t',C,xs,G2,v',Q,_,L.heap.size,X,r.kept bN,H.alloc _,rfl,Ac.new L [nS sa C.length sc] _,bh,fun j=> ?_⟩;exact z0p
  |14,rfl=>
   have aX:=z ⟨13,.data⟩ Zh rfl;have d4:=z ⟨4,.data⟩ Zh rfl;obtain⟨t',C,xs,G2,v',Q,sl,g,X,r,H,S,Y,g6,g7⟩:=l.at (n:=2) rfl T (.inr ⟨13,rfl,aX⟩);change a.tmps.getD 19 undef=_ at S;have bG:a.tmps.getD 10 undef=q:=l.vals 4 ZM d4;have a3:=Y.cell 0;simp only[Qa]at a3;have bK:AK L q 23 vs:=ak.o.row.kept H aT.o;obtain⟨sa,sc,ap,_⟩:=r.ops.row.form;refine Df rfl _ _ _ rfl 23 _ 24 underlying68 U0 rfl q vs bG bK g sl S a3 (by rw[ap];rfl) (by have:=aU.o;omega) (by have:=aU.o;omega) ?_;intro g' cap w' k1 k2 J;refine u _ _ Zh (l.next (n:=2) rfl T (.inr ⟨13,rfl,aX⟩) ZM ?_);have bh:=H.size;have bP:=r.wat.blk.lt;have aG:=AP.lt _ _ _ r.wat.at_
   have aI:∀b,b∈q.ownBlock.toList->b<A.heap.size/\b∉W::Q/\¬G2 b:=fun b d=>by
    have aY:q.ownBlock=nM b:=by simpa using d
    have bQ:=ak.o.row.lt aY;refine⟨bQ,fun j=> ?_,fun hG=>by have:=(r.ops.new b hG).1;omega⟩;rcases r.own.come b j with s|s
    .exact aT.o b aY s
    .omega
   refine⟨t',C,xs,G2,v',Q,sl,g',_,cap,X,r.kept k2 (fun b d=>(aI b d).2),((H.mono fun k _ N=>Qd _ N).trans (k2.mono fun k _ N=>Qe _ N)),rfl,k1, ?_, ?_, ?_⟩
   .rcases J with J|J
    .exact .inl J
    .exact .inr Zj
   .rcases J with J|J
    .exact(aI g' (by simp[J])).2.1
    .intro j;exact z0p
   .rcases J with J|J
    .exact(aI g' (by simp[J])).2.2
    .intro j;have:=(r.ops.new _ j).2;omega
  |15,rfl=>
   have h6:rS a 6= nP (nM ⟨W,0,nN⟩):=l.vals 0 ZM (z ⟨0,.data⟩ Zh rfl);exact z0d
  |16,rfl=>
   have b6:rS a 21= nP (nM ⟨W,0,nN⟩):=l.vals 15 ZM (z ⟨15,.data⟩ Zh rfl);exact z0d
  |17,rfl=>
   have au:=z ⟨14,.data⟩ Zh rfl;have bE:=z ⟨16,.data⟩ Zh rfl;obtain⟨t',C,xs,G2,v',Q,sl,g,n,c,X,r,H,S,Y,g6,g7,g8⟩:=l.at (n:=3) rfl T (.inr ⟨14,rfl,au⟩);change a.tmps.getD 20 undef=_ at S;change AK _ (a.tmps.getD 20 undef) _ _ at Y;rw[S]at Y;have b5:a.tmps[20]?.getD undef= nS (nM ⟨g,0,nN⟩) n c:=by rw[<-Qp];exact S
   have b7:rS a 22= nP (nM ⟨W,3,nN⟩):=l.vals 16 ZM bE;have bM:=r.wat.blk.cell 3;simp only[Qa,Qb]at bM;have b8:=r.wat.blk.frozen 3;go_simp;refine u undef _ (fun _=>rfl) (l.next (n:=3) rfl T (.inr ⟨14,rfl,au⟩) ZM ?_);have hs:Chg L (L.setCell ⟨W,3,nN⟩ (nS (nM ⟨g,0,nN⟩) n c)) [W]:=(Chg.refl L _).setCell _ _ Zh;refine⟨t',C,v',_,Q,_,_,X,PO.next ak.o az.o r (fun b d _=>d) H Y g6 g7 g8 bA.o hs (r.wat.blk.set 3 (nS (nM ⟨g,0,nN⟩) n c)),H.trans (hs.mono fun k _ N=>by simp at N;subst N;simp),fun b d=> ?_,fun b d=>d.imp id fun h=>(r.ops.new b h).1⟩;rcases Qf.1 d with d|d
   .simp[Vl.ownBlock]at d;subst d;rcases g6 with h6|h6
    .exact .inl (Qe _ (by simp[h6]))
    .exact .inr h6
   .rcases r.own.come b d with s|s
    .exact .inl (Qd _ s)
    .exact .inr s
  |_+18,ho=>exact absurd ho Zh
 .intro a wR dd E hd l;obtain⟨t',C,v',bX,Q,bY,G',X,r,H,S,Y⟩:=l.fin (n:=3) rfl rfl (hd 17 ZM);have br:=UD (CK w0 W t gs q bs G o w (nR (nT #[])) wR) (by rw[aR.o,X];exact⟨rfl,aN.o _ H,v',bX,Q,bY,G',r,fun b d=>bv.o b (S b d),fun b d=>(Y b d).imp id fun h=>Q7 bB.o h⟩);clear l hd X r H S Y;obtain⟨fu,hu,a4⟩:=E.fin [6,7,8,9,10,11,12,13,14,15,16,17,18,19,20,21,22] Yb;clear E hu;simp only[List.foldl_cons,List.foldl_nil,Act.put,List.setIfInBounds_toArray,List.set_cons_zero,List.set_cons_succ]at a4;subst a4;go_wp2_with fail;go_end0
  exact br.o
 .exact DC.start bx.o
theorem Cc.item{b o c:Nat}(k:As w (nS (nM ⟨b,o,nN⟩) n c) 4 l.length xs)(q:0<l.length)(m:Cc w l xs){s:Bq}(r:l[i]? =nM s):
  ∃sv ys,As w sv 6 s.steps.length ys/\Az w s.steps ys/\∀j v,(BJ s sv)[j]? =nM v->w.cell? ⟨b,o+i*4+j,nN⟩=nM v:=by
 obtain⟨sv,ys,f,g,h⟩:=m.get i s r;obtain⟨u,x,e,p⟩:=k.base q ZM;injection e with e
 injection e with a d
 subst a;subst d;exact⟨sv,ys,f,g,fun j v t=>by rw[Nat.add_assoc];exact p _ v (h j v t)⟩
theorem YH(w0:Wl)(W:Nat)(t:Tr)(e:List (List Bq))(v a:Vl)(bs:List Nat)(vs:List Vl)(G:Nat->Prop)(o:Bq)(sv:Vl)(ys:List Vl)(c d b D:Nat)(w:Wl)(g:Br w)(f:10<=w0.heap.size)(z:w0.heap.size<=w.heap.size)(h:PO w0 w W t e v a bs vs G)(i:T7 o)(j:As w sv 6 o.steps.length ys)(k:Az w o.steps ys)(m:Ac w c (BJ o sv) 42)(n:Ac w d [nP (nM ⟨W,0,nN⟩)] 62)(p:Ac w b [nS (nM ⟨D,0,nN⟩) 6 6] 104)(q:Ac w D (HJ W) 110)(r:c∉Dj W a bs)(s:d∉Dj W a bs)(u:b∉Dj W a bs)(x:D∉Dj W a bs)(y:vs.length<=65536):
  Cl prog 40 #[nP (nM ⟨c,0,nN⟩),nP (nM ⟨d,0,nN⟩),nP (nM ⟨b,0,nN⟩)] w (CK w0 W t e a bs G o w):=by
 by_cases l:Bn o=0
 .exact Rz w0 W t e v a bs vs G o sv ys c d b D w g f z h i j k m n p q r s u x y l
 .exact Tx w0 W t e v a bs vs G o sv ys c d b D w g f z h i j k m n p q r s u x y l
structure Ha(w4:Wl)(W:Nat)(v:Vl)(n b:Int)(V:Nat->Vl->Prop)(d:Nat->Bool)(f:Nat->Vl)(w:Wl):Prop where
 chg:Chg w4 w [W]
 blk:Ac w W [v,nI nX (if d 13 then n else 0),nI nX (if d 16 then b else 0),nS nN 0 0] 70
 vals:∀j,d j=true->V j (f j)
theorem Ha.put{n:Int}{y:Vl}(h:Ha g W v n b V d f w)(i:j≠13)(l:j≠16)(m:V j y)(a:Chg w w' []):Ha g W v n b V (BA d j) (Eb f j y) w':=
 ⟨h.chg.trans (a.none _),by rw[An d (Ne.symm i),An d (Ne.symm l)];exact h.blk.kept a,fun k c=>by
  by_cases e:k=j
  .subst e;rw[Bf];exact m
  .rw[AA f y e];rw[An d e]at c;exact h.vals k c⟩
theorem Ha.vals'{n:Int}(h:Ha g W v n b V d f w)(c:V j undef):∀k,BA d j k=true->V k (Eb f j undef k):=fun k a=>by
 by_cases e:k=j
 .subst e;rw[Bf];exact c
 .rw[AA f _ e];rw[An d e]at a;exact h.vals k a
theorem Ha.set1{a:Wl}{n:Int}(h:Ha a W v n b V d f w)(c:V 13 undef):Ha a W v n b V (BA d 13) (Eb f 13 undef) (w.setCell ⟨W,1,nN⟩ (nI nX n)):=
 ⟨h.chg.setCell _ _ Zh,by rw[BG,An d ZM];exact h.blk.set 1 _,h.vals' c⟩
theorem Ha.set2{a:Wl}{n:Int}(h:Ha a W v n b V d f w)(c:V 16 undef):Ha a W v n b V (BA d 16) (Eb f 16 undef) (w.setCell ⟨W,2,nN⟩ (nI nX b)):=
 ⟨h.chg.setCell _ _ Zh,by rw[BG,An d ZM];exact h.blk.set 2 _,h.vals' c⟩
def IS(W:Nat)(v:Vl)(s:Sz)(j:Nat)(y:Vl):Prop:=match j with
 |0=>y= nP (nM ⟨W,0,nN⟩)
 |1=>y= nP (nM ⟨W,0,nN⟩)
 |2=>y= nP (nM ⟨W,0,nN⟩)
 |3=>y= nP (nM ⟨W,0,nN⟩)
 |4=>y= nP (nM ⟨W,0,nN⟩)
 |5=>y=v
 |6=>y=Jv s
 |7=>y=Jv s
 |8=>y= nI nX s.nodes
 |9=>y= nI nX s.bytes
 |10=>y= nI nX s.depth
 |11=>y= nP (nM ⟨W,0,nN⟩)
 |12=>y= nP (nM ⟨W,1,nN⟩)
 |14=>y= nP (nM ⟨W,0,nN⟩)
 |15=>y= nP (nM ⟨W,2,nN⟩)
 |_=>True
def Fb(t:Tr)(b:List Bq)(w:Wl)(e:Ending)(w':Wl):Prop:=(match BR t [] 0 b with
 | .no k i=>e= nR (nT #[nP nN,nF 77 (nA #[nI nX k,nI nX i])])
 | .yes c u=>∃W a v d bs vs G,e= nR (nT #[nP (nM ⟨W,0,nN⟩),.nilIface])/\PO w w' W c a v d bs vs G/\a.flatten.reverse=u.map CW.toI)/\Chg w w' []
structure V9(w:Wl)(t:Tr)(ops:List Bq)(W WB DB D k:Nat)(t':Tr)(u':List CW)(gs:List (List Bq))(v uv:Vl)(bs:List Nat)(vs:List Vl)(G:Nat->Prop)(wr:Wl):Prop where
 run:BR t [] 0 (ops.take k)= .yes t' u'
 st:PO w wr W t' gs v uv bs vs G
 flat:gs.flatten.reverse=u'.map CW.toI
 len:gs.length=k
 chg:Chg w wr []
 b2:Ac wr WB [nP (nM ⟨W,0,nN⟩)] 62
 b3:Ac wr DB [nS (nM ⟨D,0,nN⟩) 6 6] 104
 b4:Ac wr D (HJ W) 110
 n2:WB∉Dj W uv bs
 n3:DB∉Dj W uv bs
 n4:D∉Dj W uv bs
theorem PO.geAll{d:List (List Bq)}(h:PO w0 w W t d v c bs vs G):∀b,b∈Dj W c bs->w0.heap.size<=b:=by
 intro b a;rcases Qf.1 a with a|a
 .exact(h.uown b (by simpa using a)).1
 .exact h.ge b a
theorem Uf(h:Kj t u= .no e):e≠0:=by
 unfold Kj at h;split at h
 .cases h
 .injection h with h;omega
theorem Yi{ts:List BY}{m:List CW}(h:Ga t ts x m= .no e):e≠0:=by
 unfold Ga at h;split at h
 .rename_i a;injection h with h;omega
 .exact Uf h
theorem Zq(h:Gz t o= .no e):e≠0:=by
 unfold Gz at h;split at h
 .rename_i a;injection h with h;omega
 .unfold Da at h;repeat' split at h
  all_goals first
   |exact Yi h
   |exact Uf h
   |(injection h with h;omega)
   |cases h
theorem Wb{a:Int}(h:By a=By b):a=b:=by
 simpa[By,KN]using h
theorem PP{a:Int}(h:Ending.returned v=By a):False:=by unfold By at h;cases h
theorem UL{n:Wl}{b:Tr}{y:List Bq}{q p:Nat}{z:List CW}{d:List (List Bq)}(x:Gz b o= .no m)(hi:V9 w t y W q p D k b z d v c bs vs G wr)(f:Chg wr n []){e:Ending}(h:GB (fun l e g=>CK w W b d c bs G o l e g) (Dj W c bs) n e w'):
  e= nR (nI nX m)/\Chg w w' []:=by
 obtain⟨l,g,B,r,A,C,s,u,h⟩:=h;have E:=hi.chg.size;have F:=f.size;refine⟨?_,(((hi.chg.trans (f.trans r)).fresh u fun i a=>hi.st.geAll i a)).fresh s fun i a=>by simp at a;omega⟩;unfold CK at h;rw[x]at h;rcases h with⟨h,_⟩|⟨j,h,rfl⟩
 .exact(PP h.1).elim
 .rw[Wb h.1]
theorem SR{O:Wl}{r J:Tr}{q:List Bq}{x u:Nat}{K L:List CW}{A:List (List Bq)}{l:Vl}(E:Gz r o= .yes J L)(S:q[k]? =nM o)(hi:V9 w t q W x u D k r K A v l bs vs G wr)(C:Chg wr O []){e:Ending}(h:GB (fun N e M=>CK w W r A l bs G o N e M) (Dj W l bs) O e w'):
  e= nR (nI nX 0)/\∃P v' m g s n,V9 w t q W x u D (k+1) J (L++K) P v' m g s n w':=by
 obtain⟨N,M,B,y,V,Y,p,z,h⟩:=h;have aa:=hi.chg.size;have ab:=C.size;have ad:=y.size;unfold CK at h;rw[E]at h;rcases h with⟨⟨_,Z,v',m,g,s,n,U,H,Q⟩,rfl⟩|⟨j,h,rfl⟩
 .have R:=hi.st.ltAll;have I:=C.trans y
  have f:∀{X:Nat} {cs:List Vl} {T:Ti},Ac wr X cs T->X∉Dj W l bs->Ac w' X cs T/\X∉Dj W m g:=fun{X cs T} a F=>by
   have hl:=a.lt;refine⟨((a.kept I).kept z F).kept p (fun d=>by simp at d;omega),fun d=> ?_⟩;rcases H X d with c|c
   .exact F c
   .omega
  refine⟨rfl,_,v',m,g,s,n,⟨Vu hi.run S E,U.kept p (fun b a=> ?_), ?_,by rw[Qk,hi.len];rfl,((hi.chg.trans I).fresh z fun i a=>hi.st.geAll i a).fresh p fun i a=>by simp at a;omega,(f hi.b2 hi.n2).1,(f hi.b3 hi.n3).1,(f hi.b4 hi.n4).1,(f hi.b2 hi.n2).2,(f hi.b3 hi.n3).2,(f hi.b4 hi.n4).2⟩⟩
  .simp only[Qh,List.not_mem_nil,or_false]at a;subst a;refine⟨fun d=> ?_,fun d=> ?_⟩
   .rcases H b d with c|c
    .have:=R b c;omega
    .omega
   .rcases Q b d with c|c
    .have:=(hi.st.gnew b c).2;omega
    .omega
  .rw[List.flatten_append,List.reverse_append,hi.flat,List.map_append];simp
 .exact(PP h.1.symm).elim
theorem am{a:Tr}{d:List CW}(h:BR t u i (l.take k)= .yes a d)(c:l[k]? =nM o)(b:Gz a o= .no e):BR t u i l= .no e (i+k):=Us h c b
theorem z0b(h:p:=by go_simp;exact l _ _ Zh (c.put ZM ZM (by simp[IS]) cR)):p:=h
theorem z0h(h:p:=by have h6:rS a 6= nP (nM ⟨q,0,nN⟩):=y.at 6 Yb;have ad:=S.o.kept c.chg T.o;have C:=ad.cell 0;simp only[Qa]at C;exact z0b):p:=h
theorem z0j(h:p:=by have Z:a.tmps.getD 23 undef=Jv s:=c.vals 7 (n 7 Zh rfl);unfold Jv at Z;exact z0b):p:=h
theorem z0q(h:p:=by have:=al.o;omega):p:=h
theorem Xs(t:Tr)(F:Nat->Prop)(tb:Nat)(r:List Bq)(so:Vl)(xs:List Vl)(w:Wl)(hL:Br w)(aZ:10<=w.heap.size)(hT:CG w F tb t)(y:∀b,F b->b<w.heap.size)(aD:Bt t)(hR:As w so 4 r.length xs)(hS:Cc w r xs)(hO:∀o∈r,T7 o)(a2:r.length<=65536):
  Cl prog 24 #[nP (nM ⟨tb,0,nN⟩),so] w (Fb t r w):=by
 obtain⟨sa,sc,rfl,af,bb⟩:=hR.form;have HV:=hZ (M9 t F tb w hT y (Ar aD.fits).1);have aj:=hZ aD;have HL:=hZ hL;have a3:=hZ aZ;have HR:=hZ hR;have HS:=hZ hS;have HO:=hZ hO;obtain⟨nl,aG⟩:=Ue r.length;have al:=hZ aG;rw[<-aG]at a2 hR|-;have HM:=hZ a2;clear hL aZ hT y aD hR hS hO af bb aG;go_enter func24,ntmps24
 go_wp2_with(first
  |(go_at_call 37;refine HV.o.mono ?_;rintro e w1 ⟨v0,G0,rfl,hv,Y,a0⟩;have H1:=hZ Y;have aS:=hZ hv;have aN:=hZ a0;obtain⟨bw,bx,rfl⟩:=hv.iface;clear Y hv a0)
  |(go_at_call 36;refine(ab _ t G0 _ w1 (Q8 _) (Ar aj.o.fits).1 aS.o (fun b d=>(aN.o b d).2)).mono ?_;rintro e w2 ⟨v,bs,rfl,p1,p2,p3⟩;have P1:=hZ p1;have P2:=hZ p2;have P3:=hZ p3;obtain⟨I,L,rfl⟩:=p1.iface;clear p1 p2 p3))
 obtain⟨W,hW⟩:=Ue w2.heap.size;obtain⟨q,aA⟩:=Ue (w2.heap.size+1);obtain⟨s,hs⟩:=Ue (Ag t);obtain⟨R,O⟩:=Ue (World.drew ((w2.alloc (nC #[nF I L,nI nX 0,nI nX 0,nS nN 0 0] 70)).alloc (nC #[nP (nM ⟨w2.heap.size,0,nN⟩)] 62)));have aT:=hZ O;have aV:=hZ hW;have aW:=hZ aA;have h2:Chg w w2 []:=H1.o.trans P3.o;have bd:=h2.size;have bc:=H1.o.size;have H4:Hid (Chg w R []):=by rw[O];exact hZ (((h2.alloc _).alloc _).drew)
 have ay:Chg w2 R []:=by rw[O];exact((((Chg.refl w2 []).alloc _).alloc _).drew)
 have ao:∀b,b∈bs->b<W:=fun b d=>by rw[hW];exact AP.lt _ _ _ P1.o b d
 have aM:Hid (Ac R W [nF I L,nI nX 0,nI nX 0,nS nN 0 0] 70):=by rw[O,hW];exact hZ (((Ac.new w2 _ _).alloc _).drew)
 have S:Hid (Ac R q [nP (nM ⟨W,0,nN⟩)] 62):=by rw[O,hW,aA];exact hZ ((BD _ _ _ _ _ rfl Zh).drew)
 have T:=UD (q∉[W]) (by simp;omega);have av:=hZ (P1.o.chg ay Zh);have am:=UD (W∉bs) (fun h=>Nat.lt_irrefl _ (ao W h))
 have aR:=UD (∀z,Chg R z [W]->JB (nF I L) s z) fun z Q=>by
  rw[hs];exact MD _ t _ bs z (Q8 _) aj.o.good aj.o.fits (av.o.chg Q (fun b d A=>by simp at d;subst d;exact am.o A))
 have ak:=UD ((W::bs).Nodup/\(∀b,b∈W::bs->w.heap.size<=b)/\q∉W::bs) ⟨List.nodup_cons.2 ⟨am.o,P2.o.nodup⟩,fun b d=>by
  rcases Qh.1 d with rfl|d
  .omega
  .have:=P2.o.ge b d;omega,fun A=>by
  rcases Qh.1 A with A|A
  .omega
  .have:=ao _ A;omega⟩
 have aP:=hZ hs;have aU:=UD (w.heap.size<=W) Zj;clear O h2 ay ao bd bc hs;refine wp_region_any Yb ?_;change wpAny _ _ _ _ _ _ _ (World.drew _);rw[<-aT.o,<-aW.o,<-aV.o];clear hW aA aV aW P1 P2 P3 H1 aS aN aT;refine Dg _ (Ha R W (nF I L) s.nodes s.bytes (IS W (nF I L) s)) Yb ?_ ?_ _ ?_
 .intro ii op a wa dd u y bv ba bt c K l;have n:=fun k=>ba ⟨k,.data⟩;match ii,u with
  |0,rfl=>
   exact z0h
  |1,rfl=>
   exact z0h
  |2,rfl=>
   exact z0h
  |3,rfl=>
   have bi:rS a 26= nP (nM ⟨W,0,nN⟩):=c.vals 2 (n 2 Zh rfl);exact z0b
  |4,rfl=>
   have bj:rS a 27= nP (nM ⟨W,0,nN⟩):=c.vals 3 (n 3 Zh rfl);exact z0b
  |5,rfl=>
   have bk:rS a 28= nP (nM ⟨W,0,nN⟩):=c.vals 4 (n 4 Zh rfl);have C:=c.blk.cell 0;simp only[Qa]at C;exact z0b
  |6,rfl=>
   have a7:a.tmps.getD 29 undef= nF I L:=c.vals 5 (n 5 Zh rfl);obtain⟨ff,a5,m1,m2⟩:=aR.o wa c.chg;rw[Qr z0f];refine I3 _ _ _ rfl _ a7 ff a5 m1 _ m2 ?_;rintro e w1 ⟨rfl,Y⟩;exact⟨_,rfl,l _ _ Zh (c.put ZM ZM (by simp[IS]) Y)⟩
  |7,rfl=>
   have bl:rS a 30=Jv s:=c.vals 6 (n 6 Zh rfl);exact z0b
  |8,rfl=>
   exact z0j
  |9,rfl=>
   exact z0j
  |10,rfl=>
   exact z0j
  |11,rfl=>
   have ay:rS a 24= nP (nM ⟨W,0,nN⟩):=c.vals 0 (n 0 Zh rfl);exact z0b
  |12,rfl=>
   have bo:rS a 34= nP (nM ⟨W,0,nN⟩):=c.vals 11 (n 11 Zh rfl);exact z0b
  |13,rfl=>
   have bp:rS a 35= nP (nM ⟨W,1,nN⟩):=c.vals 12 (n 12 Zh rfl);have bm:rS a 31= nI nX s.nodes:=c.vals 8 (n 8 Zh rfl);have aC:=c.blk.cell 1;simp only[Qa,Qb]at aC;have a9:=c.blk.frozen 1;go_simp;exact l _ _ Zh (c.set1 trivial)
  |14,rfl=>
   have bh:rS a 25= nP (nM ⟨W,0,nN⟩):=c.vals 1 (n 1 Zh rfl);exact z0b
  |15,rfl=>
   have bq:rS a 36= nP (nM ⟨W,0,nN⟩):=c.vals 14 (n 14 Zh rfl);exact z0b
  |16,rfl=>
   have br:rS a 37= nP (nM ⟨W,2,nN⟩):=c.vals 15 (n 15 Zh rfl);have bn:rS a 32= nI nX s.bytes:=c.vals 9 (n 9 Zh rfl);have aC:=c.blk.cell 2;simp only[Qa,Qb]at aC;have a9:=c.blk.frozen 2;go_simp;exact l _ _ Zh (c.set2 trivial)
  |_+17,u=>exact absurd u Zh
 .intro a wR dd y p c;have hB:=c.blk;rw[p 13 ZM,p 16 ZM,Qr rfl,Qr rfl]at hB;have ar:=hZ hB;have au:=hZ (S.o.kept c.chg T.o);have aO:=UD (Chg w wR []) (H4.o.fresh c.chg (fun i hi=>by simp at hi;subst hi;exact aU.o));have aw:=hZ (av.o.chg c.chg (fun b d A=>by simp at d;subst d;exact am.o A));clear c p hB;obtain⟨fu,hu,rfl⟩:=y.fin2 [24,25,26,27,28,29,30,23,31,32,33,34,35,36,37] Yb;clear y hu;obtain⟨l1,f1,d1⟩:=Ac.cells1 au.o;clear H4 aM S av aR;go_wp2_with(go_at_call 38;refine(ZA W _).mono ?_;rintro e w5 ⟨rfl,q1,q2⟩;have Q1:=hZ q1;have Q2:=hZ q2;clear q1 q2);obtain⟨D,hD⟩:=Ue wR.heap.size;obtain⟨U,az⟩:=Ue w5.heap.size;obtain⟨w6,ah⟩:=Ue (w5.alloc (nC #[nS (nM ⟨wR.heap.size,0,nN⟩) 6 6] 104));have aa:Chg wR w6 []:=by rw[ah];exact Q2.o.alloc _
  have be:=Q2.o.size;have aX:Ac w6 D (HJ W) 110:=by rw[ah,hD];exact Q1.o.alloc _
  have aY:Ac w6 U [nS (nM ⟨D,0,nN⟩) 6 6] 104:=by rw[ah,hD,az];exact BD _ _ _ _ _ rfl rfl
  have aE:∀b,b∈W::bs->b<D:=fun b d=>by
   rw[hD];rcases Qh.1 d with rfl|d
   .exact ar.o.lt
   .exact AP.lt _ _ _ aw.o b d
  have an:∀b,b∈Dj W (nS nN 0 0) bs->b∈W::bs:=fun b d=>by simpa[Dj,Vl.ownBlock]using d
  have aQ:=UD (V9 w t r W q U D 0 t [] [] (nF I L) (nS nN 0 0) bs [] (fun _=>False) w6) ⟨by simp[BR],⟨⟨by rw[<-aP.o];exact ar.o.kept aa,aw.o.chg aa Zh,aj.o⟩,ak.o.1,ak.o.2.1,AK.nil _ _,rfl,fun b d=>d.elim,fun b d h=>h,fun g hg=>by cases hg⟩,
   rfl,rfl,aO.o.trans aa,au.o.kept aa,aY,aX,fun h=>ak.o.2.2 (an _ h),fun h=>by have:=aE _ (an _ h);omega,fun h=>by have:=aE _ (an _ h);omega⟩
  rw[<-ah,<-az,<-hD];clear ah az hD aa be aX aY aE an ar au aO aw l1 f1 d1 Q1 Q2 T am ak aP aU;go_loopw [42] (fun aL wr=>∃(k:Nat) (H:Tr) (u':List CW) (X:List (List Bq)) (v J:Vl) (bs:List Nat) (vs:List Vl) (G:Nat->Prop),k<=nl/\aL= nI nX k/\V9 w t r W q U D k H u' X v J bs vs G wr) (fun aL _=>nl-(intOf aL).toNat)
  case atStart=>exact⟨0,_,_,_,_,_,_,_,_,Zj,rfl,aQ.o⟩
  case round=>
   obtain⟨k,H,u',X,v,J,V,vs,G,hk,rfl,a1⟩:=hrel;have f:=hZ a1;clear a1 aQ;by_cases ao:k<nl
   .obtain⟨o,u⟩:∃o,r[k]? =nM o:=⟨_,Q9 z0q⟩;obtain⟨b,ob,rfl,_⟩:=HR.o.base z0q ZM;obtain⟨sv,ys,ap,aI,af⟩:=Cc.item HR.o z0q HS.o u;obtain⟨aJ,aK,rfl,_⟩:=ap.form;have M:∀j x,(BJ o (nS aJ o.steps.length aK))[j]? =nM x->wr.cell? ⟨b,ob+k*4+j,nN⟩=nM x:=fun j x Q=>f.o.chg.keeps (af j x Q);have c0:=M 0 _ rfl;have c1:=M 1 _ rfl;have c2:=M 2 _ rfl;have c3:=M 3 _ rfl;rw[Nat.add_zero]at c0;obtain⟨wy,P⟩:=Ue (wr.alloc (nC #[nI nX o.kind,nG o.path,nG o.frm,nS aJ o.steps.length aK] 42));have N:Chg wr wy []:=by rw[P];exact(Chg.refl wr []).alloc _
    have aB:Ac wy wr.heap.size (BJ o (nS aJ o.steps.length aK)) 42:=by rw[P];exact BD _ _ _ _ _ rfl rfl
    have aF:wr.heap.size∉Dj W J V:=fun h=>Nat.lt_irrefl _ (f.o.st.ltAll _ h);have aH:vs.length<=65536:=by have Y:=f.o.st.grp.length;have h2:=f.o.len;omega
    have hc:=Xp 40 #[nP (nM ⟨wr.heap.size,0,nN⟩),nP (nM ⟨q,0,nN⟩),nP (nM ⟨U,0,nN⟩)] (Dj W J V) wy (fun z e w1=>CK w W H X J V G o z e w1)
     (fun b d=>Q6 (f.o.st.ltAll b d) N.size) (fun _=>Yb)
     (fun z Q=>by
      have ai:=N.trans Q;have aq:=f.o.chg.trans ai
      exact YH w W H X v J V vs G o _ ys _ q U D z (HL.o.kept aq) a3.o aq.size (f.o.st.kept ai) (HO.o o (Qi u)) (ap.kept aq) (Az.kept aq aI) (aB.kept Q) (f.o.b2.kept ai) (f.o.b3.kept ai) (f.o.b4.kept ai) aF f.o.n2 f.o.n3 f.o.n4 aH)
     (fun z e w1 E=>by
      unfold CK at E;cases p:Gz H o with
      |no m=>rw[p]at E;exact⟨E.2,.inr ⟨_,E.1⟩⟩
      |yes t2 un=>rw[p]at E;exact⟨E.2.1,.inl E.1⟩)
    cases p:Gz H o with
    |no m=>
     have B:=hZ (hc.mono fun e w' h=>UL p f.o N h);have ae:BR t [] 0 r= .no m k:=by have:=Us f.o.run u p;rwa[Nat.zero_add]at this
     have ax:=hZ ae;have bu:((m:Int) !=0)=true:=by have:=Zq p;rw[bne_iff_ne];omega
     rw[P]at B;clear p hc ae P N aB aF aH M af ap aI u;obtain⟨sl,ag⟩:=Ue o.steps.length;rw[<-ag]at B c3;clear ag;go_wp2_with((go_at_call 39;refine B.o.mono ?_;rintro e w3 ⟨rfl,h3⟩;have H3:=hZ h3;clear h3));go_ret2;unfold Fb;rw[ax.o];exact⟨rfl,H3.o⟩
    |yes t2 un=>
     have B:=hZ (hc.mono fun e w' h=>SR p u f.o N h);rw[P]at B;clear p hc P N aB aF aH M af ap aI u;obtain⟨sl,ag⟩:=Ue o.steps.length;rw[<-ag]at B c3;clear ag;go_wp2_with((go_at_call 39;refine B.o.mono ?_;rintro e w3 ⟨rfl,h3⟩;have H3:=hZ h3;clear h3));go_roundw
     case rel=>obtain⟨a6,v2,bf,a4,bg,G2,a8⟩:=H3.o;exact⟨k+1,t2,_,a6,v2,bf,a4,bg,G2,Zj,by go_num,a8⟩
     case measure=>simp[intOf];omega
   .obtain rfl:k=nl:=by omega
    have c0:wr.cell? ⟨q,0,nN⟩=nM (nP (nM ⟨W,0,nN⟩)):=f.o.b2.cell 0;have ae:BR t [] 0 r= .yes H u':=by have:=f.o.run;rwa[al.o,Qn (Q8 _)]at this
    have ax:=hZ ae;clear ae;go_wp2_with fail;go_ret2;unfold Fb;rw[ax.o];exact⟨⟨W,X,v,J,V,vs,G,rfl,f.o.st,f.o.flat⟩,f.o.chg⟩
 .exact⟨Chg.refl _ _,aM.o,fun _ e=>by cases e⟩
def Hk(k i:Int):Vl:= nF 77 (nA #[nI nX k,nI nX i])
def V8(r:Zi)(w:Wl)(e:Ending)(w':Wl):Prop:=match r with
 | .no k i=>e= nR (nT #[nP nN,Hk k i])/\Chg w w' []
 | .yes a _=>F9 a w e w'
structure Yc(w:Wl)(F:Nat->Prop)(tb:Nat)(t:Tr)(ops:List Bq)(so:Vl)(xs:List Vl):Prop where
 laid:Br w
 big:10<=w.heap.size
 tree:CG w F tb t
 lt:∀b,F b->b<w.heap.size
 fine:Bt t
 row:As w so 4 ops.length xs
 at_:Cc w ops xs
 small:∀o∈ops,T7 o
 many:ops.length<=65536
theorem CG.kept{c:Nat}(h:CG w F c t)(a:Chg w w' [])(g:∀b,F b->b<w.heap.size):CG w' F c t:=by
 obtain⟨v,d,e,f⟩:=h;exact⟨v,a.keeps d,Af.kept (a.keepsF g) (fun _ h=>h) _ _ e,Q6 f a.size⟩
theorem Yc.kept{c:List Bq}{d:Vl}(h:Yc w F e t c d xs)(a:Chg w w' []):Yc w' F e t c d xs:=
 ⟨h.laid.kept a,Q7 h.big a.size,h.tree.kept a h.lt,fun b f=>Q6 (h.lt b f) a.size,h.fine,h.row.kept a,Cc.kept a h.at_,h.small,h.many⟩
theorem IB(F:Nat->Prop)(o:Nat)(t:Tr)(c:List Bq)(n:Vl)(xs:List Vl)(w:Wl)(h:Yc w F o t c n xs):
  Cl prog 8 #[nP (nM ⟨o,0,nN⟩),n] w (V8 (BR t [] 0 c) w):=by
 have a:=Xs t F o c n xs w h.laid h.big h.tree h.lt h.fine h.row h.at_ h.small h.many;have r:Fb t c w=fun e w'=>Fb t c w e w':=rfl;unfold Fb at a;obtain⟨O,P,rfl,_⟩:=h.row.form;obtain⟨N,m⟩:=Ue c.length;rw[<-m]at a|-;cases j:BR t [] 0 c with
 |no k i=>
  rw[j]at a;have l:=hZ a;clear a j h m r;go_enter func8,ntmps8;go_wp2_with((go_at_call 24;refine l.o.mono ?_;rintro e K ⟨rfl,f⟩;have d:=hZ f;clear f));go_ret2;exact⟨rfl,d.o⟩
 |yes Q u=>
  rw[j]at a;have l:=hZ a;clear a j h m r;go_enter func8,ntmps8
  go_wp2_with(first
   |(go_at_call 24;refine l.o.mono ?_;rintro e K ⟨⟨W,L,v,S,bs,vs,G,rfl,g,I⟩,f⟩;have d:=hZ f;have p:=hZ g;obtain⟨R,T,rfl⟩:=g.wat.at_.iface;have E:=g.wat.blk.cell 0;simp only[Qa]at E;have M:=g.wat.blk.lt;clear f g I)
   |(go_at_call 25;refine(ZC p.o.wat.fine p.o.wat.at_).mono ?_;rintro e w2 ⟨A,J,rfl,s,x,y,z⟩;have B:=hZ s;have C:=hZ x;have D:=hZ y;have q:=hZ z;clear s x y z))
  go_ret2;exact⟨A,J,rfl,B.o,C.o,d.o.trans D.o,fun b H=>Q7 d.o.size (q.o.1 b H),Q7 d.o.size q.o.2⟩
end
section
open Go Go.Shelf Go.RowKit Go.Lib Tree Ptr

end
section
open _root_.Go.Proofs.Tryz
open Go Go.Shelf Go.RowKit Go.Lib Tree Ptr
variable{vs:List Vl}{F:Nat->Prop}{p:Prop}{w w':Wl}
theorem cN(b:Nat)(a:Option Addr)(n c:Nat)(w:Wl)(d:65536<n)(f:n<=4294967296):
  Cl prog 24 #[nP (nM ⟨b,0,nN⟩),nS a n c] w fun e w'=>e= nR (nT #[nP nN,nF 74 (nI nX 3)])/\Chg w w' []:=by
 have h:((65536:Int)<(n:Int)):=Zj;go_enter func24,ntmps24;go_wp2_with fail;go_ret2;exact⟨rfl,Chg.refl _ _⟩
theorem dq(d:Nat)(a:Option Addr)(n c:Nat)(w:Wl)(h:65536<n)(i:n<=4294967296):
  Cl prog 8 #[nP (nM ⟨d,0,nN⟩),nS a n c] w fun e w'=>e= nR (nT #[nP nN,nF 74 (nI nX 3)])/\Chg w w' []:=by
 have g:=hZ (cN d a n c w h i);go_enter func8,ntmps8;go_wp2_with((go_at_call 24;refine g.o.mono ?_;rintro e j ⟨rfl,b⟩;have f:=hZ b;clear b));go_ret2;exact⟨rfl,f.o⟩
theorem Cw{e:Array Oper}{o:Oper}{a:Act}{i:Nat}{b:Bool}{s:Tmp}(g:o.guard=nM (i,b))(d:Es e i=nM s)(c:a.tmps.getD s undef= .bool b):Region.wanted o (yielded e a.tmps)=true:=by
 unfold Region.wanted;rw[g]
 have f:a.tmps[s]? =nM (.bool b):=by
  rw[Qp]at c;cases h:a.tmps[s]? with
  |none=>rw[h]at c;cases c
  |some x=>rw[h]at c;exact congrArg _ c
 unfold Es at d;simp only[yielded,d,Option.bind_some,f,beq_self_eq_true]
theorem Af.backW{t:Tr}{v:Vl}(h:Af w' F t v)(d:Chg w w' [])(a:∀k,F k->k<w.heap.size):Af w F t v:=
 h.kept (F:=F) (fun b o c=>((d.cell (p:=⟨b,o,nN⟩) (a b c) Zh)).symm) (fun _ h=>h) _ _
theorem Ax.backW{a:Vl}(h:Ax w' F a vs)(e:Chg w w' [])(c:∀k,F k->k<w.heap.size):Ax w F a vs:=
 h.kept (F:=F) (fun b o d=>((e.cell (p:=⟨b,o,nN⟩) (c b d) Zh)).symm) (fun _ h=>h)
theorem Ak.backW{l:List Tr}(h:Ak w' F l vs)(d:Chg w w' [])(a:∀k,F k->k<w.heap.size):Ak w F l vs:=
 Ak.kept (F:=F) (fun b o c=>((d.cell (p:=⟨b,o,nN⟩) (a b c) Zh)).symm) (fun _ h=>h) _ _ h
theorem RX(F:Nat->Prop)(t:Tr)(v:Vl)(w:Wl)(b:Af w F t v)(c:∀k,F k->k<w.heap.size):
  Cl prog 66 #[nA #[v]] w fun e w'=>e= nR (nI nX (Hj t))/\Chg w w' []:=by
 obtain⟨m,x,rfl⟩:=b.iface;have a:Chg w (w.alloc (nC #[nF m x] 94)) []:=(Chg.refl w []).alloc _;obtain⟨f,args,g,d⟩:=Sg t _ (Af.kept (a.keepsF c) (fun _ h=>h) _ _ b);have l:=hZ g;have j:=hZ d;clear b c a g d;go_enter func66,ntmps66;go_wp2_with(refine Am rfl _ _ _ rfl _ rfl f args l.o _ j.o ?_;rintro e n ⟨rfl,a⟩;refine⟨_,rfl, ?_⟩;have i:=hZ a;clear a);go_ret;exact⟨rfl,((Chg.refl w []).alloc _).trans i.o⟩
theorem D3:(prog.info? 94).map (·.size)=nM 1:=Yb
def J3(t:Tr)(v u:Vl)(F G:Nat->Prop)(w:Wl)(j:Nat)(y:Vl):Prop:=match j with
 |0=>y= nA #[v]
 |1=>y= nI nX (Hj t)
 |2=>y= nA #[u]
 |3=>y= nI nX (Hj t)
 |4=>y= .bool false
 |5=>y= .bool false
 |6=>y= nA #[v]
 |7=>y= nI nX (Ab t).length
 |8=>y= nA #[u]
 |9=>y= nI nX (Ab t).length
 |10=>y= .bool false
 |11=>y= .bool false
 |12=>y= .bool false
 |13=>y= nA #[v]
 |14=>Ax w F y (Ad (JN t))
 |15=>y= nA #[u]
 |16=>Ax w G y (Ad (JN t))
 |17=>y= .bool true
 |18=>y= .bool false
 |_=>y= .bool false
def Zw(t:Tr)(v u:Vl)(F G:Nat->Prop)(w:Wl)(j:Nat)(y:Vl):Prop:=match j with
 |0=>y= nA #[v]
 |1=>∃vs,Ax w F y vs/\Ak w F (Ab t) vs
 |2=>y= nA #[u]
 |3=>∃vs,Ax w G y vs/\Ak w G (Ab t) vs
 |4=>∃vs,Ax w F y vs/\Ak w F (Ab t) vs
 |_=>∃vs,Ax w G y vs/\Ak w G (Ab t) vs
def Np(v u:Vl)(c d:Vl)(k:Nat)(a b:Addr)(j:Nat)(y:Vl):Prop:=match j with
 |0=>y=c
 |1=>y= nI nX k
 |2=>y= nP (nM a)
 |3=>y=v
 |4=>y= nA #[v]
 |5=>y=d
 |6=>y= nI nX k
 |7=>y= nP (nM b)
 |8=>y=u
 |9=>y= nA #[u]
 |10=>y= .bool true
 |_=>y= .bool false
theorem O4(a b:Nat)(w:Wl):(binOp .eql 90 (nF 135 (.float .f64 a)) (nF 135 (.float .f64 b))).run prog w= .ok (.bool (FloatKind.f64.format.order a b==nM .eq)) w:=Yb
theorem Nt(a b:BY)(w:Wl):(binOp .eql 90 (nF 137 (nG a)) (nF 137 (nG b))).run prog w= .ok (.bool (a==b)) w:=Yb
theorem z0c(h:p:=by have y:=B.o.kept T.o;have z:=C.o.kept T.o;have c1:=y.cell 0;have U:=z.cell 0;simp only[Qa]at c1 U;clear B C J y z;go_wp2_with fail;go_ret;exact⟨rfl,by exact cg ad.o⟩):p:=h
theorem z0e(h:p:=by exact d _ _ Zh (c.put (by simp[J3]) cR)):p:=h
theorem z0g(h:p:=by go_simp;exact d _ _ Zh (c.put (by simp[Np]) cR)):p:=h
theorem z0i(h:p:=by rintro e w1 ⟨rfl,o⟩;exact d _ _ Zh (c.put rfl o)):p:=h
theorem z0k(h:p:=by refine Bd _ _ rfl _ m 94 _ (B.o.kept c.1) _ underlying94 rfl D3 ?_;exact z0e):p:=h
theorem z0l(h:p:=by refine Bd _ _ rfl _ m 94 _ (C.o.kept c.1) _ underlying94 rfl D3 ?_;exact z0e):p:=h
theorem z0n(h:p:=by rw[Qr z0f];go_simp;exact z0e):p:=h
theorem z0o(h:p:=by exact⟨Chg.refl _ _,fun _ e=>by cases e⟩):p:=h
theorem XF:∀(k:Nat) (t:Tr) (F G:Nat->Prop) (v u:Vl) (w:Wl),(Ag t).nodes<=k->(Ag t).nodes<=65536->Av t->Af w F t v->Af w G t u->(∀b,F b->b<w.heap.size)->(∀b,G b->b<w.heap.size)->
  Cl prog 35 #[nA #[v],nA #[u]] w (BU true w):=by
 intro k;induction k with
 |zero=>intro t _ _ _ _ _ h;have:=Cv t;omega
 |succ k0 ih=>
 intro t F G v u w r hn J p L j hG
 have aI:∀x vx vy w',x∈Ab t->Af w' F x vx->Af w' G x vy->(∀b,F b->b<w'.heap.size)->(∀b,G b->b<w'.heap.size)->Cl prog 35 #[nA #[vx],nA #[vy]] w' (BU true w'):=fun x vx vy w' hx o h2 h3 h4=>by
  obtain⟨i,hi⟩:=List.mem_iff_getElem?.1 hx;have:=CO hi;exact ih x F G vx vy w' Zj Zj (J.items x hx) o h2 h3 h4
 have IH:=hZ aI;have W:=hZ p;have X:=hZ L;have H:=hZ j;have I:=hZ hG;have a2:=hZ hn
 have aJ:(JN t).length<=4294967296:=by
  cases t with
  |obj ks l=>simp only[Av]at J;exact Q7 J.1.many Zj
  |_=>simp[JN]
 have ab:=hZ aJ;obtain⟨N,O,rfl⟩:=p.iface;obtain⟨Z,x2,rfl⟩:=L.iface;have aZ:=hZ J;clear aI ih r hn J p L j hG aJ;go_enter func35,ntmps35;go_wp2_with fail;obtain⟨V,af⟩:=Ue (World.drew ((w.alloc (nC #[nF N O] 94)).alloc (nC #[nF Z x2] 94)));have ax:=hZ af;have A:Hid (Chg w V []):=by rw[af];exact hZ ((((Chg.refl w []).alloc _).alloc _).drew)
 have B:Hid (Ac V w.heap.size [nF N O] 94):=by rw[af];exact hZ (((Ac.new w [nF N O] _).alloc _).drew)
 have C:Hid (Ac V (w.heap.size+1) [nF Z x2] 94):=by rw[af];exact hZ ((BD _ _ _ _ _ rfl Zh).drew)
 have am:=UD (∀b,F b->b<V.heap.size) fun b Q=>Q6 (H.o b Q) A.o.size;have an:=UD (∀b,G b->b<V.heap.size) fun b Q=>Q6 (I.o b Q) A.o.size;clear af;refine wp_region_any Yb ?_;change wpAny _ _ _ _ _ _ _ (World.drew _);rw[<-ax.o];refine Dg _ (PX (J3 t (nF N O) (nF Z x2) F G V) V) Yb ?_ ?_ _ ?_
 .intro ii op a M dd R j aP f aD c K d;match ii,R with
  |0,rfl=>
   have m:a.tmps.getD 2 undef= nP (nM ⟨w.heap.size,0,nN⟩):=j.at 2 Yb;rw[Qr z0f];exact z0k
  |1,rfl=>
   have S:rS a 10= nA #[nF N O]:=c.2 0 (f ⟨0,.data⟩ Zh rfl);rw[Qr z0f];go_simp;go_at_call 66;refine(RX F t _ M (Af.kept ((A.o.trans c.1).keepsF H.o) (fun _ h=>h) _ _ W.o) (fun k r=>Q6 (H.o k r) (A.o.trans c.1).size)).mono ?_;exact z0i
  |2,rfl=>
   have m:a.tmps.getD 3 undef= nP (nM ⟨w.heap.size+1,0,nN⟩):=j.at 3 Yb;rw[Qr z0f];exact z0l
  |3,rfl=>
   have S:rS a 12= nA #[nF Z x2]:=c.2 2 (f ⟨2,.data⟩ Zh rfl);rw[Qr z0f];go_simp;go_at_call 66;refine(RX G t _ M (Af.kept ((A.o.trans c.1).keepsF I.o) (fun _ h=>h) _ _ X.o) (fun k r=>Q6 (I.o k r) (A.o.trans c.1).size)).mono ?_;exact z0i
  |4,rfl=>
   have bm:rS a 11= nI nX (Hj t):=c.2 1 (f ⟨1,.data⟩ Zh rfl);have bn:rS a 13= nI nX (Hj t):=c.2 3 (f ⟨3,.data⟩ Zh rfl);exact z0n
  |5,rfl=>
   have bo:rS a 14= .bool false:=c.2 4 (f ⟨4,.data⟩ Zh rfl);exact z0n
  |6,rfl=>
   have m:a.tmps.getD 2 undef= nP (nM ⟨w.heap.size,0,nN⟩):=j.at 2 Yb;rw[Qr (Cw rfl ZN (c.2 5 (f ⟨5,.guard⟩ Zh rfl)))];exact z0k
  |7,rfl=>
   have S:rS a 16= nA #[nF N O]:=c.2 6 (f ⟨6,.data⟩ Zh rfl);rw[Qr (Cw rfl ZN (c.2 5 (f ⟨5,.guard⟩ Zh rfl)))];go_simp;go_at_call 67;refine(Up F t _ M (Af.kept ((A.o.trans c.1).keepsF H.o) (fun _ h=>h) _ _ W.o) (fun k r=>Q6 (H.o k r) (A.o.trans c.1).size)).mono ?_;exact z0i
  |8,rfl=>
   have m:a.tmps.getD 3 undef= nP (nM ⟨w.heap.size+1,0,nN⟩):=j.at 3 Yb;rw[Qr (Cw rfl ZN (c.2 5 (f ⟨5,.guard⟩ Zh rfl)))];exact z0l
  |9,rfl=>
   have S:rS a 18= nA #[nF Z x2]:=c.2 8 (f ⟨8,.data⟩ Zh rfl);rw[Qr (Cw rfl ZN (c.2 5 (f ⟨5,.guard⟩ Zh rfl)))];go_simp;go_at_call 67;refine(Up G t _ M (Af.kept ((A.o.trans c.1).keepsF I.o) (fun _ h=>h) _ _ X.o) (fun k r=>Q6 (I.o k r) (A.o.trans c.1).size)).mono ?_;exact z0i
  |10,rfl=>
   have bq:rS a 17= nI nX (Ab t).length:=c.2 7 (f ⟨7,.data⟩ Zh rfl);have br:rS a 19= nI nX (Ab t).length:=c.2 9 (f ⟨9,.data⟩ Zh rfl);rw[Qr (Cw rfl ZN (c.2 5 (f ⟨5,.guard⟩ Zh rfl)))];go_simp;exact z0e
  |11,rfl=>
   have bp:rS a 15= .bool false:=c.2 5 (f ⟨5,.data⟩ Zh rfl);have bs:rS a 20= .bool false:=c.2 10 (f ⟨10,.data⟩ Zh rfl);exact z0n
  |12,rfl=>
   have bt:rS a 21= .bool false:=c.2 11 (f ⟨11,.data⟩ Zh rfl);exact z0n
  |13,rfl=>
   have m:a.tmps.getD 2 undef= nP (nM ⟨w.heap.size,0,nN⟩):=j.at 2 Yb;rw[Qr (Cw rfl ZN (c.2 12 (f ⟨12,.guard⟩ Zh rfl)))];exact z0k
  |14,rfl=>
   have S:rS a 23= nA #[nF N O]:=c.2 13 (f ⟨13,.data⟩ Zh rfl);rw[Qr (Cw rfl ZN (c.2 12 (f ⟨12,.guard⟩ Zh rfl)))];go_simp;go_at_call 68;refine(RY F t _ M (Af.kept ((A.o.trans c.1).keepsF H.o) (fun _ h=>h) _ _ W.o) (fun k r=>Q6 (H.o k r) (A.o.trans c.1).size)).mono ?_;rintro e w1 ⟨sk,rfl,h0,o⟩;exact d _ _ Zh (c.put (h0.backW (c.1.trans o) am.o) o)
  |15,rfl=>
   have m:a.tmps.getD 3 undef= nP (nM ⟨w.heap.size+1,0,nN⟩):=j.at 3 Yb;rw[Qr (Cw rfl ZN (c.2 12 (f ⟨12,.guard⟩ Zh rfl)))];exact z0l
  |16,rfl=>
   have S:rS a 25= nA #[nF Z x2]:=c.2 15 (f ⟨15,.data⟩ Zh rfl);rw[Qr (Cw rfl ZN (c.2 12 (f ⟨12,.guard⟩ Zh rfl)))];go_simp;go_at_call 68;refine(RY G t _ M (Af.kept ((A.o.trans c.1).keepsF I.o) (fun _ h=>h) _ _ X.o) (fun k r=>Q6 (I.o k r) (A.o.trans c.1).size)).mono ?_;rintro e w1 ⟨sk,rfl,h0,o⟩;exact d _ _ Zh (c.put (h0.backW (c.1.trans o) an.o) o)
  |17,rfl=>
   have a8:=f ⟨14,.data⟩ Zh rfl;have a9:=f ⟨16,.data⟩ Zh rfl;have ay:Ax V F (a.tmps.getD 24 undef) (Ad (JN t)):=c.2 14 a8;have az:Ax V G (a.tmps.getD 26 undef) (Ad (JN t)):=c.2 16 a9;obtain⟨s1,ba⟩:∃s,a.tmps.getD 24 undef=s:=⟨_,rfl⟩;obtain⟨s2,bb⟩:∃s,a.tmps.getD 26 undef=s:=⟨_,rfl⟩;rw[ba]at ay;rw[bb]at az;have HQ:=Ix (JN t) (JN t) s1 s2 M (ay.kept (c.1.keepsF am.o) (fun _ h=>h)) (az.kept (c.1.keepsF an.o) (fun _ h=>h)) ab.o ab.o;rw[decide_eq_true rfl]at HQ;rw[Qr (Cw rfl ZN (c.2 12 (f ⟨12,.guard⟩ Zh rfl)))];go_simp;go_at_call 34;refine HQ.mono ?_;rintro e w1 ⟨rfl,q,rfl⟩;exact d _ _ Zh (c.put rfl ((Chg.refl M []).drewN q))
  |18,rfl=>
   have bv:rS a 27= .bool true:=c.2 17 (f ⟨17,.data⟩ Zh rfl);rw[Qr (Cw rfl ZN (c.2 12 (f ⟨12,.guard⟩ Zh rfl)))];go_simp;exact z0e
  |19,rfl=>
   have bu:rS a 22= .bool false:=c.2 12 (f ⟨12,.data⟩ Zh rfl);have bw:rS a 28= .bool false:=c.2 18 (f ⟨18,.data⟩ Zh rfl);exact z0n
  |_+20,R=>exact absurd R Zh
 .intro a wR dd j Y c;have aA:a.tmps.getD 29 undef= .bool false:=c.2 19 (Y 19 ZM);have T:=UD (Chg V wR []) c.1;have ad:=UD (Chg w wR []) (A.o.trans c.1);clear c Y ax;have p:=W.o;have L:=X.o;have J:=aZ.o;obtain⟨fu,hu,rfl⟩:=j.fin2 [10,11,12,13,14,15,16,17,18,19,20,21,22,23,24,25,26,27,28,29] Yb;have aT:=(hu 29).symm.trans aA;clear j hu aA;rw[aT];clear aT;by_cases al:AX t=true
  .cases t with
   |null=>
     clear IH ab H I W X;simp only[Af]at p L;injection p with D P
     injection L with e3 e4
     subst D;subst P;subst e3;subst e4
     skip
     have a0:∀(w:Wl),(Instr.typeAssert (nF 130 (nA #[])) 90 140 true).run prog w= .ok (nT #[nP nN,.bool false]) w:=fun _=>Yb;have a1:∀(w:Wl),(Instr.typeAssert (nF 130 (nA #[])) 90 151 true).run prog w= .ok (nT #[nP nN,.bool false]) w:=fun _=>Yb;have q:∀(w:Wl),(binOp .eql 90 (nF 130 (nA #[])) (nF 130 (nA #[]))).run prog w= .ok (.bool true) w:=fun w=>Yb;exact z0c
   |flag b=>
     clear IH ab H I W X;simp only[Af]at p L;injection p with D P
     injection L with e3 e4
     subst D;subst P;subst e3;subst e4
     skip
     have a0:∀(w:Wl),(Instr.typeAssert (nF 131 (.bool b)) 90 140 true).run prog w= .ok (nT #[nP nN,.bool false]) w:=fun _=>Yb;have a1:∀(w:Wl),(Instr.typeAssert (nF 131 (.bool b)) 90 151 true).run prog w= .ok (nT #[nP nN,.bool false]) w:=fun _=>Yb;have q:∀(w:Wl),(binOp .eql 90 (nF 131 (.bool b)) (nF 131 (.bool b))).run prog w= .ok (.bool true) w:=fun w=>by cases b<;>kernel_rfl
     exact z0c
   |num n=>
     clear IH ab H I W X;simp only[Af]at p L;injection p with D P
     injection L with e3 e4
     subst D;subst P;subst e3;subst e4;have bi:=Rn (by simpa only[Av]using J) (by simpa only[Av]using J:Hs n);have a0:∀(w:Wl),(Instr.typeAssert (nF 135 (.float .f64 n)) 90 140 true).run prog w= .ok (nT #[nP nN,.bool false]) w:=fun _=>Yb;have a1:∀(w:Wl),(Instr.typeAssert (nF 135 (.float .f64 n)) 90 151 true).run prog w= .ok (nT #[nP nN,.bool false]) w:=fun _=>Yb;have q:∀(w:Wl),(binOp .eql 90 (nF 135 (.float .f64 n)) (nF 135 (.float .f64 n))).run prog w= .ok (.bool true) w:=fun w=>by rw[O4,bi,decide_eq_true rfl]
     exact z0c
   |text s=>
     clear IH ab H I W X;simp only[Af]at p L;injection p with D P
     injection L with e3 e4
     subst D;subst P;subst e3;subst e4
     skip
     have a0:∀(w:Wl),(Instr.typeAssert (nF 137 (nG s)) 90 140 true).run prog w= .ok (nT #[nP nN,.bool false]) w:=fun _=>Yb;have a1:∀(w:Wl),(Instr.typeAssert (nF 137 (nG s)) 90 151 true).run prog w= .ok (nT #[nP nN,.bool false]) w:=fun _=>Yb;have q:∀(w:Wl),(binOp .eql 90 (nF 137 (nG s)) (nF 137 (nG s))).run prog w= .ok (.bool true) w:=fun w=>by rw[Nt,P0,decide_eq_true rfl]
     exact z0c
   |list l=>simp[AX]at al
   |obj ks l=>simp[AX]at al
  .obtain⟨p0,o0,p1,a0,a1⟩:∃p0 o0 p1,(∀w,(Instr.typeAssert (nF N O) 90 140 true).run prog w= .ok (nT #[p0,.bool o0]) w)/\(∀w,(Instr.typeAssert (nF N O) 90 151 true).run prog w= .ok (nT #[p1,.bool (!o0)]) w):=by
    cases t with
    |list l=>
     simp only[Af]at p;obtain⟨b,sl,vs,D,_⟩:=p;injection D with D P
     subst D;subst P;exact⟨nP (nM ⟨b,0,nN⟩),true,nP nN,fun _=>Yb,fun _=>Yb⟩
    |obj ks l=>
     simp only[Af]at p;obtain⟨b,sk,sl,vs,D,_⟩:=p;injection D with D P
     subst D;subst P;exact⟨nP nN,false,nP (nM ⟨b,0,nN⟩),fun _=>Yb,fun _=>Yb⟩
    |_=>simp[AX]at al
   have y:=B.o.kept T.o;have z:=C.o.kept T.o;have c1:=y.cell 0;have U:=z.cell 0;simp only[Qa]at c1 U;have aW:=hZ y;have aX:=hZ z;clear B C J y z p L al ab am an;obtain⟨E,ag⟩:=Ue (World.drew wR);have a6:=hZ ag;have aa:Hid (Chg w E []):=by rw[ag];exact hZ ad.o.drew
   have B:Hid (Ac E w.heap.size [nF N O] 94):=by rw[ag];exact hZ aW.o.drew
   have C:Hid (Ac E (w.heap.size+1) [nF Z x2] 94):=by rw[ag];exact hZ aX.o.drew
   have ai:=UD (∀b,F b->b<E.heap.size) fun b Q=>Q6 (H.o b Q) aa.o.size;have aj:=UD (∀b,G b->b<E.heap.size) fun b Q=>Q6 (I.o b Q) aa.o.size;clear ag;cases o0
   all_goals
    simp only[Bool.not_true,Bool.not_false]at a1;go_wp2_with fail;refine wp_region_any Yb ?_;change wpAny _ _ _ _ _ _ _ (World.drew _);rw[<-a6.o];refine Dg _ (PX (Zw t (nF N O) (nF Z x2) F G E) E) Yb ?_ ?_ _ ?_
    .intro ii op a M dd R j aP f aD c K d;match ii,R with
     |0,rfl=>
      have m:a.tmps.getD 2 undef= nP (nM ⟨w.heap.size,0,nN⟩):=j.at 2 Yb;rw[Qr z0f];refine Bd _ _ rfl _ m 94 _ (B.o.kept c.1) _ underlying94 rfl D3 ?_;exact d _ _ Zh (c.put (by simp[Zw]) cR)
     |1,rfl=>
      have S:rS a 43= nA #[nF N O]:=c.2 0 (f ⟨0,.data⟩ Zh rfl);rw[Qr z0f];go_simp;go_at_call 69;refine(ID F t _ M (Af.kept ((aa.o.trans c.1).keepsF H.o) (fun _ h=>h) _ _ W.o) (fun k r=>Q6 (H.o k r) (aa.o.trans c.1).size)).mono ?_;rintro e w1 ⟨sl,vs,rfl,h0,h2,o⟩;exact d _ _ Zh (c.put ⟨vs,h0.backW (c.1.trans o) ai.o,h2.backW (c.1.trans o) ai.o⟩ o)
     |2,rfl=>
      have m:a.tmps.getD 3 undef= nP (nM ⟨w.heap.size+1,0,nN⟩):=j.at 3 Yb;rw[Qr z0f];refine Bd _ _ rfl _ m 94 _ (C.o.kept c.1) _ underlying94 rfl D3 ?_;exact d _ _ Zh (c.put (by simp[Zw]) cR)
     |3,rfl=>
      have S:rS a 45= nA #[nF Z x2]:=c.2 2 (f ⟨2,.data⟩ Zh rfl);rw[Qr z0f];go_simp;go_at_call 69;refine(ID G t _ M (Af.kept ((aa.o.trans c.1).keepsF I.o) (fun _ h=>h) _ _ X.o) (fun k r=>Q6 (I.o k r) (aa.o.trans c.1).size)).mono ?_;rintro e w1 ⟨sl,vs,rfl,h0,h2,o⟩;exact d _ _ Zh (c.put ⟨vs,h0.backW (c.1.trans o) aj.o,h2.backW (c.1.trans o) aj.o⟩ o)
     |4,rfl=>
      have g:=c.2 1 (f ⟨1,.data⟩ Zh rfl);obtain⟨s1,S⟩:∃s,a.tmps.getD 44 undef=s:=⟨_,rfl⟩;change∃vs,Ax _ _ (a.tmps.getD 44 undef) vs/\_ at g;rw[S]at g;go_simp;exact d _ _ Zh (c.put g cR)
     |5,rfl=>
      have g:=c.2 3 (f ⟨3,.data⟩ Zh rfl);obtain⟨s1,S⟩:∃s,a.tmps.getD 46 undef=s:=⟨_,rfl⟩;change∃vs,Ax _ _ (a.tmps.getD 46 undef) vs/\_ at g;rw[S]at g;go_simp;exact d _ _ Zh (c.put g cR)
     |_+6,R=>exact absurd R Zh
    .intro a wS dd j Y c;have g7:∃vs,Ax E F (a.tmps.getD 7 undef) vs/\Ak E F (Ab t) vs:=c.2 4 (Y 4 ZM);have g8:∃vs,Ax E G (a.tmps.getD 8 undef) vs/\Ak E G (Ab t) vs:=c.2 5 (Y 5 ZM);have a3:=UD (Chg E wS []) c.1;clear c Y;have ae:=j.form' [43,44,45,46,7,8] Yb;have aH:=j.defers;obtain⟨tm,df⟩:=a;clear j;dsimp only at ae aH g7 g8;simp only[List.foldl_cons,List.foldl_nil]at ae;obtain⟨u43,aK⟩:=Ue (tm.getD 43 undef);obtain⟨u44,aL⟩:=Ue (tm.getD 44 undef);obtain⟨u45,aM⟩:=Ue (tm.getD 45 undef);obtain⟨u46,aN⟩:=Ue (tm.getD 46 undef);obtain⟨u7,aq⟩:=Ue (tm.getD 7 undef);obtain⟨u8,ar⟩:=Ue (tm.getD 8 undef);rw[<-aK,<-aL,<-aM,<-aN,<-aq,<-ar]at ae;rw[<-aq]at g7;rw[<-ar]at g8;clear aK aL aM aN aq ar;simp only[List.setIfInBounds_toArray,List.set_cons_zero,List.set_cons_succ]at ae;subst ae;subst aH;obtain⟨vs,g7,k7⟩:=g7;obtain⟨us,g8,k8⟩:=g8;obtain⟨ca,cc,rfl,aC⟩:=g7.cell;obtain⟨da,dc,rfl,aG⟩:=g8.cell;have aS:=k7.length;have aO:=k8.length;have K7:=hZ k7;have K8:=hZ k8;have aV:=hZ aC;have aY:=hZ aG;have bl:=hZ aO;have a5:=hZ aS;have bh:vs.length<=65536:=by have:=Bj t;have:=a2.o;omega
     rw[show us.length=vs.length from by omega];obtain⟨n,hn⟩:=Ue vs.length;have HN:=hZ hn;rw[<-hn]at bh|-;clear g7 g8 k7 k8 aC aG aS aO hn a0 a1 c1 U;go_wp2_with fail;go_loopw [49] (fun av wr=>∃i:Nat,i<=n/\av= nI nX i/\Chg E wr []) (fun av _=>n-(intOf av).toNat)
     case atStart=>exact⟨0,Zj,rfl,a3.o⟩
     case round=>
      obtain⟨i,hi,rfl,hg⟩:=hrel;have aw:=hZ hg;clear hg;by_cases bJ:i<n
      .obtain⟨x,hx⟩:∃x,(Ab t)[i]? =nM x:=⟨_,Q9 (by have:=a5.o;have:=HN.o;omega)⟩;obtain⟨va,aQ,ao⟩:=K7.o.get i x hx;obtain⟨vb,aR,ap⟩:=K8.o.get i x hx;obtain⟨b1,o1,rfl,be,aE⟩:=aV.o i va aQ;obtain⟨b2,o2,rfl,bf,aF⟩:=aY.o i vb aR;obtain⟨ta,xa,rfl⟩:=ao.iface;obtain⟨tb,xb,rfl⟩:=ap.iface;obtain⟨w6,au⟩:=Ue (World.drew wr);have a7:=hZ au;have ah:Hid (Chg E w6 []):=by rw[au];exact hZ aw.o.drew
       have C1:=UD (w6.cell? ⟨b1,o1+i,nN⟩=nM (nF ta xa)) (ah.o.keeps aE);have C2:=UD (w6.cell? ⟨b2,o2+i,nN⟩=nM (nF tb xb)) (ah.o.keeps aF)
       have HC:=UD (∀wx,Chg w6 wx []->Cl prog 35 #[nA #[nF ta xa],nA #[nF tb xb]] wx (BU true wx)) fun wx bj=>by
        have ak:=ah.o.trans bj;exact IH.o x _ _ wx (Qi hx) (Af.kept (ak.keepsF ai.o) (fun _ h=>h) _ _ ao) (Af.kept (ak.keepsF aj.o) (fun _ h=>h) _ _ ap) (fun b Q=>Q6 (ai.o b Q) ak.size) (fun b Q=>Q6 (aj.o b Q) ak.size)
       clear au hx aQ aR ao ap be bf aE aF;go_wp2_with fail;refine wp_region_any Yb ?_;change wpAny _ _ _ _ _ _ _ (World.drew _);rw[<-a7.o];refine Dg _ (PX (Np (nF ta xa) (nF tb xb) (nS (nM ⟨b1,o1,nN⟩) n cc) (nS (nM ⟨b2,o2,nN⟩) n dc) i ⟨b1,o1+i,nN⟩ ⟨b2,o2+i,nN⟩) w6) Yb ?_ ?_ _ ?_
       .intro ii op a M dd R j aP f aD c K d;have m:=fun k=>f ⟨k,.data⟩;match ii,R with
        |0,rfl=>
         have h7:rS a 7= nS (nM ⟨b1,o1,nN⟩) n cc:=j.at 7 Yb;exact z0g
        |1,rfl=>
         have h9:rS a 9= nI nX i:=j.at 9 Yb;exact z0g
        |2,rfl=>
         have bx:rS a 52= nS (nM ⟨b1,o1,nN⟩) n cc:=c.2 0 (m 0 Zh rfl);have bz:rS a 53= nI nX i:=c.2 1 (m 1 Zh rfl);exact z0g
        |3,rfl=>
         have bA:rS a 54= nP (nM ⟨b1,o1+i,nN⟩):=c.2 2 (m 2 Zh rfl);have bg:=c.1.keeps C1.o;exact z0g
        |4,rfl=>
         have bc:a.tmps.getD 55 undef= nF ta xa:=c.2 3 (m 3 Zh rfl);have bB:a.tmps[55]?.getD undef= nF ta xa:=by rw[<-Qp];exact bc
         go_simp;exact d (nA #[nF ta xa]) _ Zh (c.put rfl cR)
        |5,rfl=>
         have h8:rS a 8= nS (nM ⟨b2,o2,nN⟩) n dc:=j.at 8 Yb;exact z0g
        |6,rfl=>
         have h9:rS a 9= nI nX i:=j.at 9 Yb;exact z0g
        |7,rfl=>
         have bD:rS a 57= nS (nM ⟨b2,o2,nN⟩) n dc:=c.2 5 (m 5 Zh rfl);have bE:rS a 58= nI nX i:=c.2 6 (m 6 Zh rfl);exact z0g
        |8,rfl=>
         have bF:rS a 59= nP (nM ⟨b2,o2+i,nN⟩):=c.2 7 (m 7 Zh rfl);have bg:=c.1.keeps C2.o;exact z0g
        |9,rfl=>
         have bd:a.tmps.getD 60 undef= nF tb xb:=c.2 8 (m 8 Zh rfl);have bG:a.tmps[60]?.getD undef= nF tb xb:=by rw[<-Qp];exact bd
         go_simp;exact d (nA #[nF tb xb]) _ Zh (c.put rfl cR)
        |10,rfl=>
         have bC:rS a 56= nA #[nF ta xa]:=c.2 4 (m 4 Zh rfl);have bH:rS a 61= nA #[nF tb xb]:=c.2 9 (m 9 Zh rfl);go_simp;go_at_call 35;refine(HC.o M c.1).mono ?_;exact z0i
        |11,rfl=>
         have bI:rS a 62= .bool true:=c.2 10 (m 10 Zh rfl);exact z0g
        |_+12,R=>exact absurd R Zh
       .intro a bk dd j Y c;have aB:a.tmps.getD 63 undef= .bool false:=c.2 11 (Y 11 ZM);have a4:=UD (Chg E bk []) (ah.o.trans c.1);clear c Y;obtain⟨fu,hu,rfl⟩:=j.fin2 [52,53,54,55,56,57,58,59,60,61,62,63] Yb;have aU:=(hu 63).symm.trans aB;clear j hu aB;rw[aU];clear aU;go_wp2_with fail;go_roundw
        case rel=>exact⟨i+1,Zj,by go_num,a4.o⟩
        case measure=>simp[intOf];omega
       .exact z0o
      .go_wp2_with fail;go_ret;exact⟨rfl,aa.o.trans aw.o⟩
    .exact z0o
 .exact z0o
theorem OL(F G:Nat->Prop)(l f:Nat)(t:Tr)(w:Wl)(C:CG w F l t)(D:CG w G f t)(g:∀b,F b->b<w.heap.size)(i:∀b,G b->b<w.heap.size)(j:Bt t):
  Cl prog 22 #[nP (nM ⟨l,0,nN⟩),nP (nM ⟨f,0,nN⟩)] w (BU true w):=by
 obtain⟨v,x,hi,d⟩:=C;obtain⟨u,s,k,r⟩:=D;have y:=hZ (IG F l v w x hi.iface d);have z:=UD (∀a,Chg w a []->Cl prog 32 #[nP (nM ⟨f,0,nN⟩)] a fun e w'=>e= nR (nA #[u])/\Chg a w' []) fun a c=>IG G f u a (c.keeps s) k.iface (Q6 r c.size)
 have A:=UD (∀a,Chg w a []->Cl prog 35 #[nA #[v],nA #[u]] a (BU true a)) fun a c=>
  XF _ t F G v u a (Q8 _) (Ar j.fits).1 j.good (Af.kept (c.keepsF g) (fun _ h=>h) _ _ hi) (Af.kept (c.keepsF i) (fun _ h=>h) _ _ k) (fun b d=>Q6 (g b d) c.size) (fun b d=>Q6 (i b d) c.size)
 clear x s hi k d r g i j;go_enter func22,ntmps22;go_wp2_with fail;refine y.o.mono ?_;rintro e E ⟨rfl,o⟩;have m:=hZ o;clear o;go_wp2_with fail;refine(z.o E m.o).mono ?_;rintro e w2 ⟨rfl,p⟩;have n:=hZ (m.o.trans p);clear p;go_wp2_with fail;refine(A.o w2 n.o).mono ?_;rintro e H ⟨rfl,q⟩;have B:=hZ (n.o.trans q);clear q;go_wp2_with fail;go_ret;exact⟨rfl,B.o⟩
end
end Go.Proofs.YtpdnhfkacgdocaaGreatDoor

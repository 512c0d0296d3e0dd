/- Part 24 of the proof of both cards. -/
import Derived.Lib.AppendStr
import Derived.Test.YtpdnhfkacgdocaaGreatDoorM23
set_option maxRecDepth 100000
set_option maxHeartbeats 32000000
set_option linter.all false
namespace Go.Proofs.YtpdnhfkacgdocaaGreatDoor
open Go renaming Calls->Cl,TypeId->Ti,Value->Vl,World->Wl
open Go.Value renaming agg->nA,int->nI,pointer->nP,slice->nS,string->nG,tuple->nT
open Go.IntKind renaming i64->nX
open Go.Ending renaming returned->nR
open Go.Obj renaming cells->nC
open Option renaming none->nN,some->nM
section
open _root_.Go.Proofs.Tryz
open Go Go.Shelf Go.RowKit Go.Lib Tree Ptr
variable{s:BY}{b:List UInt8}{cs:List Vl}{Y base c g i n:Nat}{d:Nat->Bool}{F:Nat->Prop}{f:Nat->Vl}{V:Nat->Vl->Prop}{p:Prop}{N:Tr}{a:Type}{v y:Vl}{j w w':Wl}
def sg(ev e b dv:Vl)(M d c f:Nat)(j:Nat)(y:Vl):Prop:=match j with
 |0=>y=ev
 |1=>y=e
 |2=>∃a,y= nS a M (d-1)/\(M=0\/a=nM ⟨c,f+1,nN⟩)
 |3=>y=b
 |4=>y=dv
 |_=>True
structure sn(F:Nat->Prop)(Y:Nat)(N:Tr)(V:Nat->Vl->Prop)(es:List Vl)(w4:Wl)(d:Nat->Bool)(f:Nat->Vl)(w:Wl):Prop where
 chg:Chg w4 w [Y]
 vals:∀j,d j=true->V j (f j)
 v5:d 5=true->d 0=true/\∃(F':Nat->Prop) (cs:List Vl),f 5= nA cs.toArray/\AL w F' N cs/\∀b,F' b->(F b\/w4.heap.size<=b)/\b<w.heap.size
 blk:∃cs:List Vl,Ac w Y cs 29/\cs.length=6/\(d 6=false->cs=es)/\(d 6=true->d 5=true/\f 5= nA cs.toArray)
theorem sn.put{c:List Vl}{l:Wl}{j:Nat}(h:sn F Y N V c l d f w)(b:(5:Nat)≠j)(g:(6:Nat)≠j)(q:V j y):sn F Y N V c l (BA d j) (Eb f j y) w:=
 ⟨h.chg,fun k i=>by
  by_cases e:k=j
  .subst e;rw[Bf];exact q
  .rw[AA f y e];rw[An d e]at i;exact h.vals k i,fun a=>by
  rw[An d b]at a;rw[AA f y b];refine⟨?_,(h.v5 a).2⟩;by_cases e:(0:Nat)=j
  .subst e;exact BG d 0
  .rw[An d e];exact(h.v5 a).1,by
  obtain⟨cs,m,n,o,p⟩:=h.blk;refine⟨cs,m,n,fun a=>o (by rwa[An d g]at a),fun a=> ?_⟩;rw[An d g]at a;rw[An d b,AA f y b]
  exact p a⟩
theorem sn.first{a:List Vl}(h:sn F Y N V a j d f w)(b:d 0=false):Ac w Y a 29:=by
 obtain⟨cs,c,k,g,i⟩:=h.blk
 have:d 6=false:=by
  cases e:d 6 with
  |false=>rfl
  |true=>have:=(h.v5 (i e).1).1;rw[b]at this;cases this
 rw[<-g this];exact c
theorem sn.put5{i:List Vl}{g:Wl}{c:Nat->Prop}(h:sn F Y N V i g d f w)(m:d 0=true)(r:d 5=false)(j:Chg w w' [])(t:V 5 (nA cs.toArray))(u:AL w' c N cs)(s:∀b,c b->(F b\/g.heap.size<=b)/\b<w'.heap.size):sn F Y N V i g (BA d 5) (Eb f 5 (nA cs.toArray)) w':=
 ⟨h.chg.trans (j.none _),fun k l=>by
  by_cases e:k=5
  .subst e;rw[Bf];exact t
  .rw[AA f _ e];rw[An d e]at l;exact h.vals k l,fun a=>by
  rw[Bf];exact⟨by rw[An d ZM];exact m,c,cs,rfl,u,s⟩,by
  obtain⟨ds,n,o,p,q⟩:=h.blk;refine⟨ds,n.kept j,o,fun a=>p (by rwa[An d ZM]at a),fun a=> ?_⟩;rw[An d ZM]at a;have:=(q a).1
  rw[r]at this;cases this⟩
theorem sn.put6{l:List Vl}(h:sn F Y N V l j d f w)(m:d 5=true)(A:f 5= nA cs.toArray)(t:cs.length=6)(v:¬F Y)(B:Y<j.heap.size)(g:Chg w w' [Y])(u:Ac w' Y cs 29)(x:V 6 y):sn F Y N V l j (BA d 6) (Eb f 6 y) w':=
 ⟨h.chg.trans g,fun k n=>by
  by_cases e:k=6
  .subst e;rw[Bf];exact x
  .rw[AA f _ e];rw[An d e]at n;exact h.vals k n,fun i=>by
  obtain⟨s,o,p,q,r,c⟩:=h.v5 m;rw[AA f _ ZM];refine⟨by rw[An d ZM];exact s,o,p,q,AL.kept (g.keepsF (fun b a=>(c b a).2) (fun b a z=> ?_)) (fun _ h=>h) _ _ r,fun b a=>⟨(c b a).1,Q6 (c b a).2 g.size⟩⟩;obtain rfl:b=Y:=List.mem_singleton.1 a;rcases(c b z).1 with h|h
  .exact v h
  .omega,⟨cs,u,t,(fun i=>by rw[BG]at i;cases i),fun _=>by rw[An d ZM,AA f _ ZM];exact⟨m,A⟩⟩⟩
theorem tE{l:List a}{x:a}(h:l[i]? =nM x):l.set i x=l:=by
 obtain⟨c,b⟩:=Qc.1 h;rw[<-b,List.set_getElem_self]
def uJ(d:Int)(ks:List BY)(e:Option Addr)(c i n:Nat)(s:BY)(a:Option Tr)(l:List Tr)(E:Tr)(w:Wl):Prop:=
 d=5/\ks=[]/\c=0/\E= .list (pH l i a n)\/
 d=6/\ks.length=n/\c=n/\ks[i]? =nM s/\(∀(j:Nat) k,ks[j]? =nM k->∃b o,e=nM ⟨b,o,nN⟩/\w.cell? ⟨b,o+j,nN⟩=nM (nG k))/\E= .obj (pH ks i (a.map fun _=>s) n) (pH l i a n)
theorem uG(i k:Nat)(r:Option a):pH ([]:List a) i r k=[]:=by cases r<;>simp[pH]
theorem lz.val{d:Wl}{Q p:Nat}{c:Int}{ks:List BY}{o:Option Addr}{a:Option Tr}{l:List Tr}{E:Tr}{k sk:Vl}{q:Wl}(t:l.length=n)(m:uJ c ks o p i n s a l E q)(g:∀b,F b->b<d.heap.size)(f:d.heap.size<=Q)(h:lz d F Q c (pH ks i (a.map fun _=>s) n) (pH l i a n) k sk w)(j:Chg w w' []):∃e,AL w' e E (vC c false 0 Dz k sk)/\∀b,e b->(F b\/Q<b)/\b<w'.heap.size:=by
 rcases m with⟨rfl,rfl,_,rfl⟩|⟨rfl,r,_,_,_,rfl⟩
 .rw[uG]at h;exact h.list g f j
 .refine h.obj g f ?_ j;rw[qp _ _ _ _ Zj,qp _ _ _ _ Zj];cases a<;>rfl
theorem z2r(h:p:=by go_simp;exact hK _ _ Zh (o.put ZM ZM (by simp[sg]))):p:=h
theorem z3a(h:p:=by have:=HN.o;omega):p:=h
theorem uH(t:Tr)(s:BY)(aa i n M tb ad tc kn:Nat)(D:Int)(ks:List BY)(l:List Tr)(u N E:Tr)(c:Option Tr)(F:Nat->Prop)(la ka:Option Addr)(lc kc:Nat)(xs:List Vl)(d0 d1 d2 d3 d4 S:Vl)(w:Wl)(bm:(0<M/\c=nM N)\/(M=0/\aa=0/\c=nM N)\/(M=0/\aa=2/\c=nN))(aP:l[i]? =nM u)(bx:Hid (Ab t=l))(HN:Hid (l.length=n))(aN:Hid (uJ D ks ka kn i n s c l E w))(co:n<=65536)(cm:M+1<=65536)(a1:Hid (∀x,Chg w x []->Cl prog 85 #[nA #[nI nX D,.bool false,nI .u64 0,nG ⟨#[]⟩,nS la n lc,nS ka kn kc],nG s,nI nX 0] x fun e w'=>(∃b:Bool,e= nR (nT #[nI nX i,.bool b]))/\Chg x w' []))(bU:w.cell? ⟨tb,ad,nN⟩=nM (nG s))(a5:Hid (M+1<=tc))(bD:Hid (∀a' x ds,(M=0\/a'=nM ⟨tb,ad+1,nN⟩)->c=nM N->Chg w x []->AL w F u ds->Cl prog 47 #[nA ds.toArray,nS a' M (tc-1),nI nX aa,nA #[d0,d1,d2,d3,d4,S]] x (qq F N x)))(ai:Hid (∀b,F b->b<w.heap.size))(HO:Hid (∀u∈[d0,d1,d2,d3,d4,S],u.oneCell'=true))(bE:Hid (LP w F la xs))(bG:Hid (Aq w F (Ab t) xs)):
  Cl prog 47 #[nA #[nI nX D,.bool false,nI .u64 0,nG ⟨#[]⟩,nS la n lc,nS ka kn kc],nS (nM ⟨tb,ad,nN⟩) (M+1) tc,nI nX aa,nA #[d0,d1,d2,d3,d4,S]] w (qq F E w):=by
 have ck:i<n:=by have:=HN.o;have:=(Qc.1 aP).1;omega
 have bw:=hZ aP
 have bg:(decide ((1:Int)<(M:Int)+1)=true/\((M:Int)+1==1)=false/\Hid (c=nM N))\/(decide ((1:Int)<(M:Int)+1)=false/\((M:Int)+1==1)=true/\((aa:Int)==0)=true/\((aa:Int)==2)=false/\Hid (c=nM N))\/(decide ((1:Int)<(M:Int)+1)=false/\((M:Int)+1==1)=true/\((aa:Int)==0)=false/\((aa:Int)==2)=true/\Hid (c=nN)):=by
  rcases bm with⟨f,C⟩|⟨f,C,r⟩|⟨f,C,r⟩
  .exact .inl ⟨decide_eq_true Zj,Qq.2 Zj,C⟩
  .exact .inr (.inl ⟨decide_eq_false Zj,by rw[beq_iff_eq];omega,by rw[beq_iff_eq];omega,Qq.2 Zj,r⟩)
  .exact .inr (.inr ⟨decide_eq_false Zj,by rw[beq_iff_eq];omega,Qq.2 Zj,by rw[beq_iff_eq];omega,r⟩)
 clear aP bm;obtain⟨w0,am⟩:=Ue (((w.alloc (nC #[nI nX D,.bool false,nI .u64 0,nG ⟨#[]⟩,nS la n lc,nS ka kn kc] 29)).alloc (nC #[d0,d1,d2,d3,d4,S] 29)).alloc (nC zV.toArray 29));have H0:Hid (Chg w w0 []):=by rw[am];exact hZ ((((Chg.refl w []).alloc _).alloc _).alloc _)
 have aj:Hid (Ac w0 w.heap.size [nI nX D,.bool false,nI .u64 0,nG ⟨#[]⟩,nS la n lc,nS ka kn kc] 29):=by rw[am];exact hZ (((Ac.new w _ _).alloc _).alloc _)
 have a9:Hid (Ac w0 (w.heap.size+1) [d0,d1,d2,d3,d4,S] 29):=by rw[am];exact hZ ((BD _ _ [_,_,_,_,_,_] _ _ rfl Zh).alloc _)
 have a3:Hid (Ac w0 (w.heap.size+1+1) zV 29):=by rw[am];exact hZ (BD _ _ zV _ _ rfl Zh)
 have bZ:w0.heap.size=w.heap.size+1+1+1:=by rw[am];simp
 go_enter func47,ntmps47;go_upto_region 1 with(fail);change Code.wp _ _ _ _ (((w.alloc (nC #[nI nX D,.bool false,nI .u64 0,nG ⟨#[]⟩,nS la n lc,nS ka kn kc] 29)).alloc (nC #[d0,d1,d2,d3,d4,S] 29)).alloc (nC zV.toArray 29));rw[<-am];obtain⟨A,hA⟩:=Ue w.heap.size
 obtain⟨X,hX⟩:=Ue (w.heap.size+1);obtain⟨R,hR⟩:=Ue (w.heap.size+1+1);have ay:=UD (w.heap.size<=A/\A<X/\X<R/\R<w0.heap.size) ⟨Zj,Zj,Zj,Zj⟩;rw[<-hR]at a3|-;rw[<-hX]at a9|-;rw[<-hA]at aj|-;clear am bZ hA hX hR;obtain⟨al,af,H,I,J,L,O,P⟩:=aj.o.cells6;go_upto_region 4 with(refine kM (ds:=(vC D false 0 Dz (nS nN 0 0) (nS nN 0 0))) w0 (Mz _ _ _ _ _ _ _ _ _ _) ?_;intro w2 aF H2);obtain⟨Q,hQ⟩:=Ue w0.heap.size
 have an:=UD (w0.heap.size<=Q) (Nat.le_of_eq hQ.symm);rw[<-hQ]at aF|-;clear hQ al af H I J L O P;obtain⟨al,af,H,I,J,L,O,P⟩:=(aj.o.kept H2.o).cells6;have aS:=(H0.o.trans H2.o).keeps bU
 go_region_held3(fun w'=>w'.cell? ⟨A,0,nN⟩=nM (nI nX D)/\w'.cell? ⟨A,1,nN⟩=nM (.bool false)/\w'.cell? ⟨A,2,nN⟩=nM (nI .u64 0)/\w'.cell? ⟨A,3,nN⟩=nM (nG ⟨#[]⟩)/\w'.cell? ⟨A,4,nN⟩=nM (nS la n lc)/\w'.cell? ⟨A,5,nN⟩=nM (nS ka kn kc)/\w'.cell? ⟨tb,ad,nN⟩=nM (nG s)) (first|exact⟨H,I,J,L,O,P,aS⟩|exact⟨r.keeps H,r.keeps I,r.keeps J,r.keeps L,r.keeps O,r.keeps P,r.keeps aS⟩)
  ((go_at_call 85;refine(a1.o _ (Chg.trans (b:=_) (H0.o.trans H2.o) (by exact cg cR))).mono ?_;rintro e w3 ⟨⟨pb,rfl⟩,bd⟩;have r:Chg w2 w3 []:=ct cR bd;clear bd))
 have H3:=hZ (H2.o.trans r);have br:=hZ (aF.o.kept r);clear r al af H I J L O P aS aF H2 a1;have a0:=UD (∀b,F b->b<Q) fun b p=>by have f:=ai.o b p;have C:=ay.o;have r:=an.o;omega
 have aG:=hZ bg;clear bg;go_upto_region 5 with fail;go_cut [41]from 31 (fun b3 x=>b3= .bool true/\w3=x)
 case first=>
  rcases aG.o with⟨g1,_⟩|⟨g1,g2,g3,g4,_⟩|⟨g1,g2,g3,g4,_⟩
  all_goals
   go_wp2_with fail;go_meet;exact⟨rfl,rfl⟩
 case rest=>
  obtain⟨rfl,rfl⟩:=hcut;go_wp2_with fail;go_loopw [12] (fun aV wr=>∃(k:Nat) (si sk:Vl),k<=n/\aV= nI nX k/\lz w0 F Q D (pH ks i (c.map fun _=>s) k) (pH l i c k) si sk wr) (fun aV _=>n-(intOf aV).toNat)
  case atStart=>exact⟨0,_,_,Zj,rfl,by rw[qk,qk];exact lz.start br.o H3.o⟩
  case round=>
   obtain⟨k,si,sk,hk,rfl,hE⟩:=hrel;have HE:=hZ hE;have ae:=hZ hE.chg;clear hE;by_cases cl:k<n
   .obtain⟨y,hy⟩:∃y,l[k]? =nM y:=⟨_,Q9 z3a⟩;obtain⟨xb,xo,T,U,V,W,Z,e5,rfl,aD,x0,x1,x2,x3,x4,x5⟩:=pZ bE.o bG.o (by rw[bx.o];exact hy);have B:=UD (Chg w wr []) (H0.o.trans ae.o);replace x0:=B.o.keeps x0;replace x1:=B.o.keeps x1;replace x2:=B.o.keeps x2;replace x3:=B.o.keeps x3;replace x4:=B.o.keeps x4;replace x5:=B.o.keeps x5;obtain⟨al,af,H,I,J,L,O,P⟩:=(aj.o.kept ae.o).cells6;obtain⟨ys,G,hL,hV,hG,bf,be⟩:=HE.o.ex;obtain⟨sa,sc,rfl,_⟩:=hL.form;have aC:(pH l i c k).length<=k:=by rw[qp _ _ _ _ z3a];split<;>omega
    have bB:=hZ aC;have HL:=hZ hL;have HV:=hZ hV;have HG:=hZ hG;have bv:=hZ bf;have bu:=hZ be;have HY:=hZ hy;have a7:=UD (AL wr F y [T,U,V,W,Z,e5]) (AL.kept (B.o.keepsF ai.o) (fun _ h=>h) _ _ aD);have bC:=hZ (E7 aD).1;have a6:=hZ aD;clear hL hV hG bf be hy aD
    have aY:=UD (k≠i\/c=nN->(k=i->pH ks i (c.map fun _=>s) (k+1)=pH ks i (c.map fun _=>s) k)) fun f C=>by
     rcases f with f|f
     .exact absurd C f
     .rw[f];rcases aN.o with⟨_,rfl,_⟩|⟨_,aQ,_⟩
      .rw[uG,uG]
      .rw[<-C];exact rF Zj
    have hd:(((k:Int)==(i:Int))=true/\Hid (k=i))\/(((k:Int)==(i:Int))=false/\Hid (k≠i)):=by
     by_cases h:k=i
     .exact .inl ⟨by rw[beq_iff_eq];omega,h⟩
     .exact .inr ⟨Qq.2 Zj,h⟩
    obtain⟨tk,ab⟩:=Ue (decide (k=i/\c=nN));have au:=hZ ab;have HD:=hZ hd;clear ab hd;go_upto_region 9 with fail;go_cut [60]from 42 to 93 (fun b5 x=>b5= .bool tk/\wr=x)
    case first=>
     rcases aG.o with⟨g1,g2,HR⟩|⟨g1,g2,g3,g4,HR⟩|⟨g1,g2,g3,g4,HR⟩
     all_goals
      rcases HD.o with⟨dk,ah⟩|⟨dk,ah⟩
      all_goals
       go_wp2_with fail;go_meet;exact⟨by rw[au.o];simp[ah.o,HR.o],rfl⟩
    case rest=>
     obtain⟨rfl,rfl⟩:=hcut;by_cases ab:k=i/\c=nN
     .have ht:tk=true:=by rw[au.o];exact decide_eq_true ab
      have HT:=hZ ab;clear au HD ab;subst ht;go_wp2_with fail;go_roundw
      case rel=>exact⟨k+1,_,_,Zj,by go_num,by
       rw[aY.o (.inr HT.o.2) HT.o.1,show pH l i c (k+1)=pH l i c k by rw[HT.o.2,<-HT.o.1];exact rF (by have f:=HN.o;omega)]
       exact HE.o⟩
      case measure=>simp[intOf];omega
     have ht:tk=false:=by rw[au.o];exact decide_eq_false ab
     have aH:=UD (k=i->c=nM N) fun h=>by
      rcases aG.o with⟨_,_,HR⟩|⟨_,_,_,_,HR⟩|⟨_,_,_,_,HR⟩
      .exact HR.o
      .exact HR.o
      .exact absurd ⟨h,HR.o⟩ ab
     clear au ab;subst ht;go_upto_if 68 with(refine kM wr bC.o ?_;intro w4 ao H4);obtain⟨Y,hY⟩:=Ue wr.heap.size
     have av:=UD (wr.heap.size<=Y) (Nat.le_of_eq hY.symm);rw[<-hY]at ao|-;have aO:=UD (AL w4 F y [T,U,V,W,Z,e5]) (AL.kept (H4.o.keepsF (fun b p=>Q6 (ai.o b p) B.o.size)) (fun _ h=>h) _ _ a7.o);clear hY al af H I J L O P x0 x1 x2 x3 x4 x5 a7;go_cut [13]from 42 to 93 (fun b0 x=>∃Y T U V W Z e5 y' F',b0= nP (nM ⟨Y,0,nN⟩)/\Hid (Ac x Y [T,U,V,W,Z,e5] 29)/\Hid (AL x F' y' [T,U,V,W,Z,e5])/\Hid (∀b,F' b->(F b\/wr.heap.size<=b)/\b<x.heap.size)/\Hid (Chg wr x [])/\Hid (pH l i c (k+1)=pH l i c k++[y']))
     case first=>
      rcases HD.o with⟨dk,ah⟩|⟨dk,ah⟩
      .have bY:y=u:=by have f:=HY.o;rw[ah.o,bw.o]at f;injection f with f;exact f.symm
       subst bY;have a4:Hid (c=nM N):=aH.o ah.o;go_upto_region 12 with fail;have bH:Hid (AL w F y [T,U,V,W,Z,e5]):=a6;obtain⟨wq,bn⟩:=Ue w4
       rw[<-bn]at H4 ao aO|-;clear bn;have bI:=hZ (a9.o.kept (ae.o.trans H4.o));have ba:=UD (X<Y/\Y<wq.heap.size) ⟨by have f:=ay.o;have C:=ae.o.size;have r:=av.o;omega,ao.o.lt⟩;refine uW (sn F Y N (sg (nA #[T,U,V,W,Z,e5]) (nS (nM ⟨tb,ad,nN⟩) (M+1) tc) (nI nX aa) (nA #[d0,d1,d2,d3,d4,S]) M tc tb ad) [T,U,V,W,Z,e5] wq) ?_ ?_ ⟨(Chg.refl wq _).drew,(fun _ e=>by cases e),(fun e=>by cases e),⟨_,ao.o.drew,rfl,fun _=>rfl,fun e=>by cases e⟩⟩
       .intro ii op a wa dd ho hF bl ak cj o K hK;match ii,ho with
        |0,rfl=>
         have bc:rS a 13= nP (nM ⟨Y,0,nN⟩):=hF.at 13 Yb;have hB:=o.first bl;obtain⟨ql,qf,q0,q1,q2,q3,q4,q5⟩:=hB.cells6;exact z2r
        |1,rfl=>
         have f:rS a 1=(nS (nM ⟨tb,ad,nN⟩) (M+1) tc):=hF.at 1 Yb;exact z2r
        |2,rfl=>
         have cc:rS a 70=(nS (nM ⟨tb,ad,nN⟩) (M+1) tc):=o.vals 1 (ak ⟨1,.data⟩ Zh rfl);have cq:=a5.o;have ca:(1:Int)<=(M:Int)+1:=Zj;go_simp;exact hK _ _ Zh (o.put ZM ZM ⟨_,rfl,by by_cases h0:M=0;exact .inl h0;exact .inr (Qs (by have f:=a5.o;omega))⟩)
        |3,rfl=>
         have C:rS a 2= nI nX aa:=hF.at 2 Yb;exact z2r
        |4,rfl=>
         have h7:rS a 7= nP (nM ⟨X,0,nN⟩):=hF.at 7 Yb;obtain⟨ql,qf,q0,q1,q2,q3,q4,q5⟩:=(bI.o.kept o.chg (by have:=ba.o;simp;omega)).cells6;exact z2r
        |5,rfl=>
         have cb:rS a 69= nA #[T,U,V,W,Z,e5]:=o.vals 0 (ak ⟨0,.data⟩ Zh rfl);obtain⟨a',cd,ha⟩:∃a',a.tmps.getD 71 undef= nS a' M (tc-1)/\(M=0\/a'=nM ⟨tb,ad+1,nN⟩):=o.vals 2 (ak ⟨2,.data⟩ Zh rfl);have ce:rS a 72= nI nX aa:=o.vals 3 (ak ⟨3,.data⟩ Zh rfl);have cf:rS a 73= nA #[d0,d1,d2,d3,d4,S]:=o.vals 4 (ak ⟨4,.data⟩ Zh rfl);have bX:Chg w wa []:=(B.o.trans H4.o).fresh o.chg (fun z hz=>by have f:=av.o;have C:=B.o.size;simp at hz;omega);have ci:∀b,F b->b≠Y:=fun b p=>by have f:=ai.o b p;have C:=av.o;have r:=B.o.size;omega
         have bW:AL w F y [T,U,V,W,Z,e5]:=bH.o;go_simp;go_at_call 47;refine(bD.o a' wa _ ha a4.o bX bW).mono ?_;rintro e w1 ⟨F',ap,rfl,v1,v2,v3⟩;refine hK _ _ Zh (o.put5 (ak ⟨0,.data⟩ Zh rfl) bl v3 (by simp[sg]) v1 (fun b p=>⟨?_,(v2 b p).2⟩));rcases(v2 b p).1 with h|h
         .exact .inl h
         .exact .inr (Q7 o.chg.size h)
        |6,rfl=>
         have S:=ak ⟨5,.data⟩ Zh rfl;obtain⟨_,F',ap,f5,v1,v2⟩:=o.v5 S;have bc:a.tmps.getD 13 undef= nP (nM ⟨Y,0,nN⟩):=hF.at 13 Yb;have bM:a.tmps.getD 74 undef= nA ap.toArray:=f5;obtain⟨bK,b1,b2,_,_⟩:=o.blk;have v6:=E7 v1;rw[Qr ZN];refine Gj _ _ _ rfl Y ap (by simpa[Act.eval]using bc) (by simpa[Act.eval]using bM) 29 bK b1 (by rw[v6.2];exact A9) (by rw[b2,v6.2]) v6.1 ?_;intro w7 cr bN bO;exact hK _ _ Zh (o.put6 S f5 v6.2 (fun p=>by have f:=ai.o Y p;have C:=av.o;have r:=B.o.size;omega) ba.o.2 bO bN (by simp[sg]))
        |_+7,ho=>exact absurd ho Zh
       intro a w4 dd hF hd o;obtain⟨ap,b1,b2,_,b4⟩:=o.blk;obtain⟨bh,f5⟩:=b4 (hd 6 ZM);obtain⟨_,F',bL,bb,v1,v2⟩:=o.v5 bh
       obtain rfl:ap=bL:=by
        have f:=f5.symm.trans bb;injection f with f
        exact List.toArray_inj f
       have bp:=UD (Chg wr w4 []) (H4.o.fresh o.chg (fun z hz=>by have f:=av.o;simp at hz;omega));have HM:=UD (AL w4 F' N ap) v1;have aq:=UD (∀b,F' b->(F b\/wr.heap.size<=b)/\b<w4.heap.size) fun b p=>⟨(v2 b p).1.imp id (fun h=>Q7 H4.o.size h),(v2 b p).2⟩;obtain⟨T,U,V,W,Z,e5,rfl⟩:=kt b2;have HB:=hZ b1;have aI:=UD (pH l i c (k+1)=pH l i c k++[N]) (by rw[a4.o,<-ah.o];exact rG z3a);clear o hd b1 b2 b4 bh f5 bb v1 v2;obtain⟨fu,hu,rfl⟩:=hF.fin2 [69,70,71,72,73,74] Yb;clear hF hu;go_wp2_with fail;go_meet;exact⟨Y,_,_,_,_,_,_,N,F',rfl,HB,HM,aq,bp,aI⟩
      .go_wp2_with fail;go_meet;exact⟨Y,_,_,_,_,_,_,y,F,rfl,ao,aO,hZ fun b p=>⟨.inl p,Q6 (ai.o b p) (B.o.trans H4.o).size⟩,H4,hZ (pY HY.o ah.o)⟩
     case rest=>
      obtain⟨Y',f0,f1,f2,f3,f4,f5,y',F',rfl,bJ,a8,aq,H5,aI⟩:=hcut;have aA:=hZ (HE.o.blk.kept H5.o);have bq:=hZ (aj.o.kept (ae.o.trans H5.o));obtain⟨al,af,H,I,J,L,O,P⟩:=bq.o.cells6;obtain⟨ql,qf,q0,q1,q2,q3,q4,q5⟩:=aA.o.cells6;have ch:A<Q:=by have C:=ay.o;have r:=an.o;omega
      have aM:=UD (Q∉(Vl.slice sa (pH l i c k).length sc).ownBlock.toList) fun hm=>by have:=HE.o.own2 Q (by simpa using hm);omega
      obtain⟨m,hm⟩:=Ue ((pH l i c k).length);have cn:m<=65536:=by have:=bB.o;omega
      have az:=hZ hm;rw[<-hm]at q4 HL aA aM;clear hm aC
      go_upto_region 14 with(first
       |(refine uN bJ.o ?_)
       |(at_builtin;refine Er rfl _ _ 26 rfl 29 NP 6 88 ZM underlying26 Dp rfl (nS sa m sc) m ys ZN (by exact(HL.o.kept H5.o).kept (bs:=[]) ((Chg.refl wc []).alloc _) Zh) wc.heap.size 0 1 1 [f0,f1,f2,f3,f4,f5] ZN ZM ZN (fun j v hv=>by rw[Nat.zero_add];exact((BD wc _ [f0,f1,f2,f3,f4,f5] _ _ rfl Zh).cell j).trans hv) (E7 a8.o).1 Zj Zj ?_;intro g cap w6 k1 k2 k3;have K1:=hZ k1;have K2:=hZ k2;have K3:=hZ k3;have aK:=hZ ((aA.o.alloc (nC #[f0,f1,f2,f3,f4,f5] 29)).kept k2 aM.o);clear al af H I J L O P ql qf q0 q1 q2 q3 q4 q5;obtain⟨ql,qf,q0,q1,q2,q3,q4,q5⟩:=aK.o.cells6;clear k1 k2 k3))
      obtain⟨w9,aE⟩:=Ue (w6.setCell ⟨Q,4,nN⟩ (nS (nM ⟨g,0,nN⟩) (m+1) cap))
      have ag:Hid (lz w0 F Q D (pH ks i (c.map fun _=>s) k) (pH l i c (k+1)) (nS (nM ⟨g,0,nN⟩) (m+1) cap) sk w9):=by
       rw[aE,aI.o];have bR:(Vl.slice sa m sc).ownBlock=nM g\/(wc.alloc (nC #[f0,f1,f2,f3,f4,f5] 29)).heap.size<=g:=by rcases K3.o with h|h;exact .inl h;exact .inr (Nat.le_of_eq h.symm)
       have aC:=az.o;have hL:=HL.o;have bP:=K1.o;have bQ:=K2.o;clear az HL K1 K2 K3 aM aA aK ql qf q0 q1 q2 q3 q4 q5 aE;subst aC;exact hZ (pN a0.o an.o HE.o hL HV.o HG.o bv.o bu.o (H5.o.alloc _) (AL.kept (((Chg.refl wc []).alloc _).keepsF (fun b p=>(aq.o b p).2)) (fun _ h=>h) _ _ a8.o) (fun b p=>⟨(aq.o b p).1,Q6 (aq.o b p).2 ((Chg.refl wc []).alloc _).size⟩) bP bQ bR)
      change Code.wp _ _ _ _ (w6.setCell ⟨Q,4,nN⟩ (nS (nM ⟨g,0,nN⟩) (m+1) cap));rw[<-aE];clear aE ql qf q0 q1 q2 q3 q4 q5 aK;obtain⟨al,af,H,I,J,L,O,P⟩:=(aj.o.kept ag.o.chg).cells6;rcases aN.o with⟨cp,bj,_,_⟩|⟨bk,aQ,bT,aw,bi,_⟩
      .have d6:(D==6)=false:=Qq.2 Zj;have aX:=hZ bj;clear bj;go_wp2_with fail;go_roundw
       case rel=>exact⟨k+1,_,_,Zj,by go_num,by rw[aX.o,uG];have f:=ag.o;rwa[aX.o,uG]at f⟩
       case measure=>simp[intOf];omega
      .obtain⟨aT,aU,bV⟩:∃b d,sk= nS b (Ad (pH ks i (c.map fun _=>s) k)).length d:=by obtain⟨_,_,b,d,_,e⟩:=ag.o.form;exact⟨b,d,by rw[e];simp[Ad]⟩
       subst bV;subst bT;have d6:(D==6)=true:=by rw[beq_iff_eq];exact bk
       have b6:=hZ aQ;have aZ:=hZ ag.o.keys;have aL:=hZ ag.o.blk;obtain⟨kk,aB⟩:∃q,ks[k]? =nM q:=⟨_,Q9 Zj⟩
       have bz:Hid (pH ks i (c.map fun _=>s) (k+1)=pH ks i (c.map fun _=>s) k++[kk]):=by
        by_cases h:k=i
        .rw[<-h,aB]at aw;injection aw with aw
         rw[aH.o h,<-h,aw];exact hZ (rG Zj)
        .exact hZ (pY aB h)
       obtain⟨zb,zo,rfl,hz⟩:=bi k kk aB;have cs:=(H0.o.trans ag.o.chg).keeps hz;have a2:=UD (Q∉(Vl.slice aT (Ad (pH ks i (c.map fun _=>s) k)).length aU).ownBlock.toList) fun hm=>by have:=ag.o.own1 Q (by simpa using hm);omega
       have bS:(Ad (pH ks i (c.map fun _=>s) k)).length<=65536:=by
        have h9:(Ad (pH ks i (c.map fun _=>s) k)).length=(pH ks i (c.map fun _=>s) k).length:=by simp[Ad]
        rw[h9,qp _ _ _ _ Zj];split<;>omega
       obtain⟨kl,ax⟩:=Ue ((Ad (pH ks i (c.map fun _=>s) k)).length);have ar:=hZ ax;rw[<-ax]at aZ aL a2 bS;clear aB hz ax aQ aw bi bk ao aO H4 a6 aY aH HD HY;obtain⟨ql,qf,q0,q1,q2,q3,q4,q5⟩:=aL.o.cells6;go_upto_region 15 with fail
       go_region_law(first
        |(go_loud(refine Df rfl _ _ _ rfl 9 Ho 16 underlying27 Cf rfl (nS aT kl aU) (Ad (pH ks i (c.map fun _=>s) k)) ZN (by exact aZ.o.kept (bs:=[]) (by exact cg cR) Zh) w9.heap.size (nG kk) ZN (by exact Bx Zh _ _) rfl (by rw[<-ar.o];omega) (by rw[<-ar.o];omega) ?_;rw[<-ar.o];intro g9 b7 bo r1 r2 r3;have aJ:=hZ ((aL.o.alloc (nC #[nG kk] 9)).drew.kept r2 a2.o);have b8:bo.cell? ⟨Q,5,nN⟩=nM (nS aT kl aU):=aJ.o.cell 5;have b9:∀j,bo.frozen? ⟨Q,j,nN⟩=false:=(fun j=>aJ.o.frozen j);have cu:=aJ.o.lt;have R1:=hZ r1;have R2:=hZ r2;have R3:=hZ r3;clear r1 r2 r3)))
       all_goals
        go_wp2_with fail;go_roundw
        case rel=>exact⟨k+1,_,_,Zj,by go_num,by
         rw[bz.o];have ax:kl=(pH ks i (c.map fun _=>s) k).length:=by rw[ar.o];simp[Ad]
         have e9:=ag.o;have r1:=R1.o;have r2:=R2.o;have r3:=R3.o;rw[<-ar.o]at e9;rw[ax]at e9 r1 r2 r3|-
         exact qo an.o a0.o e9 (((Chg.refl w9 []).alloc _).drew) r1 r2 (by rcases r3 with h|h;exact .inl h;exact .inr (by rw[h];simp))⟩
        case measure=>simp[intOf];omega
   .obtain rfl:k=n:=by omega
    obtain⟨sa,sc,kb,kd,rfl,rfl⟩:=HE.o.form;have aW:=hZ HE.o.blk;have bF:=hZ (a3.o.kept ae.o);obtain⟨al,af,H,I,J,L,O,P⟩:=(aj.o.kept ae.o).cells6;obtain⟨m,hm⟩:=Ue ((pH l i c k).length);obtain⟨m2,aR⟩:=Ue ((pH ks i (c.map fun _=>s) k).length);rw[<-hm,<-aR]at aW;have az:=hZ hm;have bA:=hZ aR;clear hm aR
    go_wp2_with(first
     |(refine uN aW.o ?_)
     |(refine uO (ds:=(vC D false 0 Dz (nS sa m sc) (nS kb m2 kd))) bF.o (Mz _ _ _ _ _ _ _ _ _ _) ?_;intro w7 bt H7))
    refine bodyPost_ret (uP bt.o) rfl ?_;rw[az.o,bA.o];obtain⟨F',v1,v2⟩:=lz.val HN.o aN.o (fun b p=>Q6 (ai.o b p) H0.o.size) an.o HE.o cR;exact qI ai.o H0.o ae.o (by have:=ay.o;omega) an.o H7.o v1 v2
structure uq(w:Wl)(F:Nat->Prop)(how:Nat)(t x:Tr)(ts:List BY)(cs cx:List Vl)(sl:Vl):Prop where
 low:how<=2
 may:pX how t ts
 val:AL w F t cs
 put:how≠2->AL w F x cx
 len6:cx.length=6
 ones:∀u∈cx,u.oneCell'=true
 lt:∀b,F b->b<w.heap.size
 fine:Bt t
 toks:DR ts
 small:∀s∈ts,s.size<=16777216
 row:As w sl 1 ts.length (Ad ts)
theorem tq{a:Nat}{t:Tr}(h:D6 t s=nM i)(b:a≠1):(pV a t s).1=i:=by
 cases t with
 |obj ks l=>
  simp only[D6]at h;split at h
  .rename_i c;injection h with h
   show(if C4 ks s=true then((A5 ks s:Int),true)else((ks.length:Int),false)).1=_
   rw[Qr c,h]
  .cases h
 |list l=>
  have h:bL s l.length=nM i:=h;show(if a=1 then _ else(pJ s l.length,true)).1=_
  rw[Qs b];show pJ s l.length=_
  unfold pJ;rw[h]
 |_=>cases h
theorem qe:∀(ts:List BY) (f:Nat) (t x:Tr) (F:Nat->Prop) (cs C:List Vl) (sl:Vl) (w:Wl),uq w F f t x ts cs C sl->
  Cl prog 47 #[nA cs.toArray,sl,nI nX f,nA C.toArray] w (qq F (pS f x ts t) w)
 |[],f,t,x,F,cs,C,sl,w,h=>by
  obtain⟨ta,A,rfl,_⟩:=h.row.form;have ao:f≠2:=fun e=>by subst e;exact h.may.1 rfl
  have B:=h.put ao;have av:=E7 h.val;have HX:=hZ B;have ah:=hZ h.lt;have HO:=hZ h.ones;obtain⟨c0,c1,c2,c3,c4,c5,rfl⟩:=kt av.2;obtain⟨G,H,I,J,K,L,rfl⟩:=kt h.len6;clear h ao B av;show Cl _ _ #[nA _,nS ta 0 A,_,_] _ (qq F x w)
  obtain⟨w0,U⟩:=Ue (((w.alloc (nC #[c0,c1,c2,c3,c4,c5] 29)).alloc (nC #[G,H,I,J,K,L] 29)).alloc (nC zV.toArray 29));have H0:Hid (Chg w w0 []):=by rw[U];exact hZ ((((Chg.refl w []).alloc _).alloc _).alloc _)
  have az:Hid (Ac w0 (w.heap.size+1) [G,H,I,J,K,L] 29):=by rw[U];exact hZ ((BD _ _ [_,_,_,_,_,_] _ _ rfl Zh).alloc _)
  have ax:Hid (Ac w0 (w.heap.size+1+1) zV 29):=by rw[U];exact hZ (BD _ _ zV _ _ rfl Zh)
  go_enter func47,ntmps47;go_upto_region 1 with(fail);change Code.wp _ _ _ _ (((w.alloc (nC #[c0,c1,c2,c3,c4,c5] 29)).alloc (nC #[G,H,I,J,K,L] 29)).alloc (nC zV.toArray 29));rw[<-U];clear U
  go_wp2_with(first
   |(refine uN az.o ?_)
   |(refine uO ax.o HO.o ?_;intro w5 aw H5))
  refine bodyPost_ret (uP aw.o) rfl ?_;have D:Chg w w5 []:=H0.o.fresh H5.o (fun y hy=>by simp at hy;omega);exact⟨F,_,rfl,AL.kept (D.keepsF ah.o) (fun _ h=>h) _ _ HX.o,fun b W=>⟨.inl W,Q6 (ah.o b W) D.size⟩,D⟩
 |s::r,f,t,x,F,cs,C,sl,w,h=>by
  obtain⟨ta,A,rfl,_⟩:=h.row.form;by_cases aa:r=[]/\f=1
  .obtain⟨rfl,rfl⟩:=aa;exact rM s t x F cs C ta A w h.may.add h.val (h.put ZM) h.lt h.fine (h.toks.last Zh) (h.small s Zh) h.row
  ·
   obtain⟨M,Q⟩:=Ue r.length
   have ar:(r≠[]\/f=0)\/(r=[]/\f=2):=by
    by_cases d:r=[]
    .have:=h.low;by_cases m:f=0
     .exact .inl (.inr m)
     .exact .inr ⟨d,by have:f≠1:=fun e=>aa ⟨d,e⟩;omega⟩
    .exact .inl (.inl d)
   obtain⟨i,u,p,R⟩:∃i u,D6 t s=nM i/\(Ab t)[i]? =nM u:=by
    rcases ar with d|⟨rfl,rfl⟩
    .obtain⟨i,u,a,b,_⟩:=h.may.down h.low d;exact⟨i,u,a,b⟩
    .exact h.may.cut
   have aF:(r≠[]\/f=0)->pX f u r:=fun d=>by
    obtain⟨i',u',a,b,c⟩:=h.may.down h.low d;rw[p]at a;injection a with a;subst a
    rw[R]at b;injection b with b;subst b
    exact c
   have Y:pS f x (s::r) t=if r=[]/\f=2 then CT s t else AW t ((Ab t).set i (pS f x r u)):=by
    rw[pS,Qs aa];split
    .rfl
    .rw[p];simp only;rw[R]
   have ak:=h.fine;have aE:Bt u:=gd ak (Qi R);have aH:(pV 0 t s).1=i:=tq p ZM;have an:=ak.many;have aK:=h.small s Zh;have am:M+1<=65536:=by have:=h.toks.many;simp only[Qj]at this;omega
   have V:=UD (∀g,Chg w g []->Cl prog 85 #[nA cs.toArray,nG s,nI nX 0] g fun e w'=>(∃b:Bool,e= nR (nT #[nI nX i,.bool b]))/\Chg g w' []) fun g B=>by
    refine(qn 0 t F cs s g (AL.kept (B.keepsF h.lt) (fun _ h=>h) _ _ h.val) Zj aK).mono ?_;rintro e w' ⟨X,D⟩;rw[aH]at X;exact⟨⟨_,X⟩,D⟩
   have T:=h.row;simp only[Qj,<-Q]at T|-;have aL:Ad (s::r)= nG s::Ad r:=rfl;rw[aL]at T;obtain⟨O,P,rfl,aA⟩:=T.base Zj ZM;have aq:w.cell? ⟨O,P,nN⟩=nM (nG s):=aA 0 _ rfl;have au:M+1<=A:=by obtain⟨_,_,e,m,_⟩:=T;injection e with _ _ e;omega
   have aI:∀n,(M=0\/n=nM ⟨O,P+1,nN⟩)->As w (nS n M (A-1)) 1 r.length (Ad r):=fun n ha=>by
    rcases ha with h0|rfl
    .have:r.length=0:=by omega
     rw[h0,this,List.eq_nil_of_length_eq_zero this];exact⟨_,_,rfl,Nat.zero_le _,rfl,fun j v hv=>by simp[Ad]at hv⟩
    .have:=T.tail1 (A-1) Zj;rwa[Q]at this|-
   have ay:=UD (DR r) ⟨fun q S=>h.toks.right q (by simp[S]),fun q S=>h.toks.small q (by simp[S]),by have:=h.toks.many;simp only[Qj]at this;omega⟩
   have ag:=UD ((r≠[]\/f=0)->∀n g ds,(M=0\/n=nM ⟨O,P+1,nN⟩)->Chg w g []->AL w F u ds->Cl prog 47 #[nA ds.toArray,nS n M (A-1),nI nX f,nA C.toArray] g (qq F (pS f x r u) g)) fun d n g ds ha B hv=>
    qe r f u x F ds C _ g ⟨h.low,aF d,AL.kept (B.keepsF h.lt) (fun _ h=>h) _ _ hv,fun m=>AL.kept (B.keepsF h.lt) (fun _ h=>h) _ _ (h.put m),h.len6,h.ones,fun b W=>Q6 (h.lt b W) B.size,aE,ay.o,fun q S=>h.small q (by simp[S]),(aI n ha).kept B⟩
   obtain⟨N,hN⟩:=Ue (pS f x r u);rw[<-hN]at ag Y;obtain⟨E,hE⟩:=Ue (pS f x (s::r) t);rw[<-hE]at Y|-
   obtain⟨z,af,aj⟩:∃z,((0<M/\z=nM N)\/(M=0/\f=0/\z=nM N)\/(M=0/\f=2/\z=nN))/\E=(match z with|some y=>AW t ((Ab t).set i y)|none=>CT s t):=by
    rcases ar with d|⟨d,m⟩
    .refine⟨nM N, ?_,by rw[Y,Qs (by rcases d with d|d;exact fun h=>d h.1;exact fun h=>by have:=h.2;omega)]⟩;rcases d with d|d
     .exact .inl ⟨by rw[Q];exact List.length_pos_iff.2 d,rfl⟩
     .by_cases m:M=0
      .exact .inr (.inl ⟨m,d,rfl⟩)
      .exact .inl ⟨Zj,rfl⟩
    .exact⟨nN,.inr (.inr ⟨by rw[Q,d];rfl,m,rfl⟩),by rw[Y,Qr ⟨d,m⟩]⟩
   have ai:=UD (∀n g ds,(M=0\/n=nM ⟨O,P+1,nN⟩)->z=nM N->Chg w g []->AL w F u ds->Cl prog 47 #[nA ds.toArray,nS n M (A-1),nI nX f,nA C.toArray] g (qq F N g)) fun n g ds d m=>ag.o (by
    rcases af with h|h|h
    .exact .inl fun e=>by have:=h.1;rw[Q,e]at this;cases this
    .exact .inr h.2.1
    .have:=h.2.2;rw[m]at this;cases this) n g ds d
   have Z:=h.val;have aJ:(∃l,t= .list l)\/∃ks l,t= .obj ks l:=IA p;have d:=h.lt;have m:=h.ones;obtain⟨G,H,I,J,K,L,rfl⟩:=kt h.len6;rcases aJ with⟨l,rfl⟩|⟨ks,l,rfl⟩
   .simp only[AL]at Z;obtain⟨la,lc,ka,kc,xs,rfl,ad,ae,_⟩:=Z;rw[Jy]at V|-;exact uH (.list l) s f i l.length M O P A 0 5 [] l u N E z F la ka lc kc xs G H I J K L w af R rfl rfl (.inl ⟨rfl,rfl,rfl,by rw[aj,qu];cases z with|some y=>rfl|none=>show CT _ _=_;unfold CT;rw[p]⟩) (Nat.le_of_lt an) am V aq au ai d m ad ae
   .simp only[AL]at Z;obtain⟨la,lc,ka,kc,xs,rfl,ab,aG,ad,ae⟩:=Z
    have ap:i=A5 ks s/\s∈ks:=by
     simp only[D6]at p;split at p
     .rename_i hk;injection p with p;exact⟨p.symm,Cp.1 hk⟩
     .cases p
    have al:ks[i]? =nM s:=by rw[ap.1];exact Gk ap.2
    obtain⟨aN,aO,X,aB⟩:=aG.cell;injection X with aC aM aD
    subst aC;subst aD;rw[Jy]at V|-;refine uH (.obj ks l) s f i l.length M O P A ks.length 6 ks l u N E z F la ka lc kc xs G H I J K L w af R rfl rfl (.inr ⟨rfl,ab,ab,al,fun j k hk=> ?_, ?_⟩) (Nat.le_of_lt an) am V aq au ai d m ad ae
    .obtain⟨b,o,e,_,D⟩:=aB j (nG k) (by simp[Ad,hk]);exact⟨b,o,e,D⟩
    .rw[aj,qu,<-ab,qu];cases z with
     |some y=>show Tr.obj _ _=Tr.obj (ks.set i s) _;rw[tE al];rfl
     |none=>show CT _ _=_;unfold CT;rw[p];rfl
theorem rX(a b:List UInt8):esc (a++b)=esc a++esc b:=by
 induction a with
 |nil=>rfl
 |cons c a d=>simp only[Qo,esc,d,List.append_assoc]
theorem sX(h:i<s.size):esc (s.data.toList.take (i+1))=esc (s.data.toList.take i)++esc [s[i]]:=by
 have a:i<s.data.toList.length:=by rw[Array.length_toList];exact h
 rw[List.take_add_one,Q9 a];simp only[Option.toList_some];rw[rX];rfl
theorem sW(l:List UInt8):(esc l).length<=2*l.length:=by
 induction l with
 |nil=>simp[esc]
 |cons c l a=>simp only[esc,Qk,Qj];split<;>(try split)<;>simp<;>omega
def qE(s:BY):BY:=⟨(47::esc s.data.toList).toArray⟩
theorem qT{a:Option Addr}(e:AK w (nS a n c) 5 (jM b)):(Go.convert 177 9 (nS a n c)).run prog w= .ok (nG ⟨b.toArray⟩) w:=by
 rcases e.2 with⟨d,f⟩|⟨g,cap,k,j,_⟩
 .have i:b=[]:=List.eq_nil_of_length_eq_zero (by rw[<-gN b];exact f);subst i;injection d with d h l
  subst d;subst h;exact Lib.run_convert_nil_bytes w _ _ _ c underlying177 underlying5 underlying9
 .injection j with d _ _
  subst d;rw[jH]at e;rw[e.convert _ _ underlying177 underlying5 underlying9,jD]
theorem rK{c w2:Wl}{b:List UInt8}{cap k:Nat}{sv:Vl}{us:List UInt8}(d:Chg w c [])(f:∀y,sv.ownBlock=nM y->w.heap.size<=y)(i:Chg c w2 sv.ownBlock.toList)(j:sv.ownBlock=nM g\/c.heap.size<=g):
  Chg w w2 []/\∀y,(Vl.slice (nM ⟨g,0,nN⟩) k cap).ownBlock=nM y->w.heap.size<=y:=by
 refine⟨d.fresh i (fun y a=>f y (by simpa using a)),fun y a=> ?_⟩;have e:g=y:=Q5 a;subst e;rcases j with h|h
 .exact f g h
 .have:=d.size;omega
theorem z2p(h:p:=by rcases t.o with h|h;exact .inl h;exact .inr (Nat.le_of_eq h.symm)):p:=h
theorem z2t(h:p:=by exact o.o.kept (bs:=[]) (by exact cg cR) Zh):p:=h
theorem z2v(h:p:=by rw[gN];omega):p:=h
theorem z2z(h:p:=by simp[Vl.oneCell']):p:=h
theorem sL(s:BY)(w:Wl)(V:s.size<=16777216):Cl prog 116 #[nG s] w fun e w'=>e= nR (nG (qE s))/\Chg w w' []:=by
 go_enter func116,ntmps116;go_wp2_with fail;obtain⟨w0,B⟩:=Ue (w.alloc (nC #[nI .u8 47] 5));have u:AK w0 (nS (nM ⟨w.heap.size,0,nN⟩) 1 1) 5 (jM [47]):=by rw[B];exact AK.lit w [nI .u8 47] _ 1 rfl ZM
 have o:=hZ u;have I:Hid (Chg w w0 []):=by rw[B];exact hZ ((Chg.refl w []).alloc _)
 rw[<-B];clear B u;go_loopw [4,3] (fun H G wr=>∃(i:Nat) (b:List UInt8) (a:Option Addr) (c:Nat),i<=s.size/\H= nI nX i/\G= nS a b.length c/\AK wr G 5 (jM b)/\b=47::esc (s.data.toList.take i)/\(∀g,G.ownBlock=nM g->w.heap.size<=g)/\b.length<=1+2*i/\Chg w wr []) (fun H _ _=>s.size-(intOf H).toNat)
 case atStart=>exact⟨0,[47],nM ⟨w.heap.size,0,nN⟩,1,Zj,rfl,rfl,o.o,by simp[esc],fun g Q=>by have e:w.heap.size=g:=Q5 Q;omega,Zh,I.o⟩
 case round=>
  obtain⟨i,b,a,c,hi,rfl,rfl,u,J,M,K,L⟩:=hrel;have o:=hZ u;have z:=hZ J;have E:=hZ M;have A:=hZ L;have S:b.length<=33554433:=Zj;have C:=hZ K;clear u J M L I K;by_cases R:i<s.size
  .have U:(i:Int)<(s.size:Int):=by omega
   have D:=hZ (sX R);by_cases n:s[i]=126
   .have O:s[i].toNat=126:=by rw[n];rfl
    have m:=UD (47::esc (s.data.toList.take (i+1))=b++[126,48]) (by rw[D.o,z.o,n];rfl);clear n;go_wp2_with(at_builtin;refine Ip rfl _ _ _ rfl 5 (nI .u8 0) 1 underlying177 ZO rfl (nS a b.length c) (jM b) ZN z2t wr.heap.size 0 2 2 [nI .u8 126,nI .u8 48] ZN ZM ZN (fun j v F=>by rw[Nat.zero_add];exact((Ac.new wr [nI .u8 126,nI .u8 48] _).cell j).trans F) z2z z2v z2v ?_;rw[gN];intro g cap N d f l;have q:=hZ d;have r:=hZ f;have t:=hZ l;clear d f l);go_roundw
    case rel=>
     obtain⟨x,y⟩:=rK (b:=b) (us:=[]) (k:=b.length+2) (cap:=cap) (A.o.alloc (nC #[nI .u8 126,nI .u8 48] 5)) E.o r.o z2p;exact⟨i+1,b++[126,48],nM ⟨g,0,nN⟩,cap,Zj,by go_num,Zh,by simpa[jM]using q.o,m.o.symm,y,by have:=C.o;simp;omega,x⟩
    case measure=>simp[intOf];omega
   .have O:((s[i].toNat:Int)==126)=false:=ip n rfl;by_cases p:s[i]=47
    .have P:s[i].toNat=47:=by rw[p];rfl
     have m:=UD (47::esc (s.data.toList.take (i+1))=b++[126,49]) (by rw[D.o,z.o,p];rfl);clear n p;go_wp2_with(at_builtin;refine Ip rfl _ _ _ rfl 5 (nI .u8 0) 1 underlying177 ZO rfl (nS a b.length c) (jM b) ZN z2t wr.heap.size 0 2 2 [nI .u8 126,nI .u8 49] ZN ZM ZN (fun j v F=>by rw[Nat.zero_add];exact((Ac.new wr [nI .u8 126,nI .u8 49] _).cell j).trans F) z2z z2v z2v ?_;rw[gN];intro g cap N d f l;have q:=hZ d;have r:=hZ f;have t:=hZ l;clear d f l);go_roundw
     case rel=>
      obtain⟨x,y⟩:=rK (b:=b) (us:=[]) (k:=b.length+2) (cap:=cap) (A.o.alloc (nC #[nI .u8 126,nI .u8 49] 5)) E.o r.o z2p;exact⟨i+1,b++[126,49],nM ⟨g,0,nN⟩,cap,Zj,by go_num,Zh,by simpa[jM]using q.o,m.o.symm,y,by have:=C.o;simp;omega,x⟩
     case measure=>simp[intOf];omega
    .have P:((s[i].toNat:Int)==47)=false:=ip p rfl;have m:=UD (47::esc (s.data.toList.take (i+1))=b++[s[i]]) (by rw[D.o,z.o];simp[esc,n,p]);clear n p;go_wp2_with(at_builtin;refine AM rfl _ _ _ rfl 5 (nI .u8 0) 1 underlying177 ZO rfl (nS a b.length c) (jM b) ZN z2t wr.heap.size (nI .u8 (s[i].toNat:Int)) ZN (by exact Bx rfl _ _) rfl z2v z2v ?_;rw[gN];intro g cap N d f l;have q:=hZ d;have r:=hZ f;have t:=hZ l;clear d f l);go_roundw
     case rel=>
      obtain⟨x,y⟩:=rK (b:=b) (us:=[]) (k:=b.length+1) (cap:=cap) (A.o.alloc (nC #[nI .u8 (s[i].toNat:Int)] 5)) E.o r.o z2p;exact⟨i+1,b++[s[i]],nM ⟨g,0,nN⟩,cap,Zj,by go_num,Zh,by simpa[jM]using q.o,m.o.symm,y,by have:=C.o;simp;omega,x⟩
     case measure=>simp[intOf];omega
  .obtain rfl:i=s.size:=by omega
   have T:=qT o.o;have m:=UD ((⟨b.toArray⟩:BY)=qE s) (by rw[z.o,Qn (show s.data.toList.length<=s.size from Nat.le_of_eq Array.length_toList)];rfl);go_wp2_with fail;go_ret;exact⟨by rw[<-m.o];rfl,A.o⟩
theorem sr(h:w.ownsRow base 5 1 v b.length (jM b))(k:Chg w w' []):w'.ownsRow base 5 1 v b.length (jM b):=by
 refine⟨h.1,h.2.imp id ?_⟩;rintro⟨g,cap,c,l,j,a,d,e,f,i⟩;exact⟨g,cap,c,l,j,by rw[k.block g (by exact(Array.getElem?_eq_some_iff.1 a).1) Zh];exact a,d,e,f,i⟩
theorem rR(b:List UInt8):strCells ⟨b.toArray⟩=jM b:=by simp[strCells,jM]
theorem qD{g:Array Oper}{rest:List Oper}{o:Oper}{a:Act}{Q:Exit->Act->Wl->Prop}(q:o.guard=nN)(e x:Operand)(t:o.op= .call {callee:= .builtin .append,args:=#[e,x],argTypes:=#[177,9]})(base:Nat)(b:List UInt8)(v:Vl)(y:a.eval e=v)(u:w.ownsRow base 5 1 v b.length (jM b))(p:List UInt8)(A:a.eval x= nG ⟨p.toArray⟩)(m:b.length+p.length<=140737488355328)(j:base<=w.heap.size)(h:∀v' w',w'.ownsRow base 5 1 v' (b++p).length (jM (b++p))->Chg w w' v.ownBlock.toList->wpList prog g Q rest (a.put o.dst v') w'):wpList prog g Q (o::rest) a w:=by
 obtain⟨i,hi,B,z,l⟩:=info_parts ZO;have d:(⟨p.toArray⟩:BY).size=p.length:=by simp[ByteArray.size]
 refine wpList_append_own_string (P:=prog) w q e x _ _ t base _ i underlying177 underlying9 hi B z l v b.length (jM b) y u ⟨p.toArray⟩ A (by rw[d];unfold maxLen;omega) (by rw[d];exact m) j ?_;intro v' w' f c _;rw[rR,d,show jM b++jM p=jM (b++p) by simp[jM],show b.length+p.length=(b++p).length by simp]at f;exact h v' w' f ⟨c.os,c.tape,c.output,c.size,fun k r s=>c.block k r fun n=>s (by rw[<-n];simp)⟩
theorem tj(h:w.ownsRow base 5 1 v b.length (jM b)):∃a c,v= nS a b.length c:=by
 rcases h.2 with⟨d,e⟩|⟨g,cap,i,f,_⟩
 .exact⟨nN,0,by rw[d,e]⟩
 .exact⟨_,_,f⟩
theorem tP(h:w.ownsRow base 5 1 v b.length (jM b)):∀g,v.ownBlock=nM g->base<=g:=by
 intro g a;rcases h.2 with⟨d,j⟩|⟨c,cap,i,f,k,_⟩
 .rw[d]at a;cases a
 .rw[f]at a;have e:c=g:=Q5 a;omega
theorem tO(h:w.ownsRow base 5 1 v b.length (jM b)):AK w v 5 (jM b):=by
 show w.ownsRow 0 _ _ _ (jM b).length _
 rw[gN];refine⟨h.1,h.2.imp id ?_⟩;rintro⟨g,cap,a,j,k,c,d,e,f,i⟩;exact⟨g,cap,a,j,Nat.zero_le _,c,d,e,f,i⟩
theorem tQ(w:Wl)(base:Nat):w.ownsRow base 5 1 (nS nN 0 0) ([]:List UInt8).length (jM []):=⟨rfl,.inl ⟨rfl,rfl⟩⟩
theorem rx(a b:List (List UInt8)):Bl (a++b)=Bl a++Bl b:=by
 induction a with
 |nil=>rfl
 |cons t a c=>simp only[Qo,Bl,c,List.append_assoc]
def sJ(ts:List BY)(i:Nat):List UInt8:=Bl ((ts.take i).map fun t=>t.data.toList)
theorem sK{ts:List BY}(h:ts[i]? =nM s):sJ ts (i+1)=sJ ts i++(47::esc s.data.toList):=by
 unfold sJ;rw[List.take_add_one,h];simp only[Option.toList_some,List.map_append,List.map_cons,List.map_nil];rw[rx];simp[Bl]
theorem tw(ts:List BY):(⟨(sJ ts ts.length).toArray⟩:BY)=A6 ts:=by unfold sJ;rw[List.take_length];rfl
theorem qQ(ts:List BY)(H:Vl)(w:Wl)(g:As w H 1 ts.length (Ad ts))(R:ts.length<=65537)(d:∀t∈ts,t.size<=16777216):
  Cl prog 89 #[H] w fun e w'=>e= nR (nG (A6 ts))/\Chg w w' []:=by
 obtain⟨ta,tc,rfl,_⟩:=g.form;obtain⟨n,o⟩:=Ue ts.length;have z:=hZ o;rw[<-o]at g R|-;have M:=hZ g;have L:=hZ d;clear g d o;go_enter func89,ntmps89;go_wp2_with fail;go_loopw [4,3] (fun u I wr=>∃(i:Nat) (b:List UInt8) (a:Option Addr) (c:Nat),i<=n/\u= nI nX i/\I= nS a b.length c/\wr.ownsRow w.heap.size 5 1 I b.length (jM b)/\b=sJ ts i/\b.length<=33554433*i/\Chg w wr []) (fun u _ _=>n-(intOf u).toNat)
 case atStart=>exact⟨0,[],nN,0,Zj,rfl,rfl,tQ _ _,rfl,Zh,Chg.refl _ _⟩
 case round=>
  obtain⟨i,b,a,c,hi,rfl,rfl,B,C,D,E⟩:=hrel;have k:=hZ B;have x:=hZ C;have f:=hZ E;have J:=hZ D;have V:b.length<=2199090364416:=Zj;clear B C E D;by_cases Y:i<n
  .obtain⟨s,d⟩:∃s,ts[i]? =nM s:=⟨_,Q9 (by have:=z.o;omega)⟩;obtain⟨tb,aa,rfl,F⟩:=M.o.get (i:=i) (v:= nG s) (by simp[Ad,d]);have W:=f.o.keeps F;have S:=L.o s (Qi d);have A:=hZ (sK d);have l:=UD (∀h,Cl prog 116 #[nG s] h fun e w'=>e= nR (nG (qE s))/\Chg h w' []) fun h=>sL s h S;obtain⟨p,q⟩:=Ue (47::esc s.data.toList)
   have Z:p.length<=33554433:=by
    have m:=sW s.data.toList;have U:s.data.toList.length=s.size:=Array.length_toList;rw[q];simp only[Qj];omega
   unfold qE at l;rw[<-q]at l A;clear d F q
   go_wp2_with(first
    |(go_at_call 116;refine(l.o _).mono ?_;rintro e w1 ⟨rfl,m⟩;have j:=hZ m;clear m)
    |(at_builtin;refine qD rfl _ _ rfl w.heap.size b (nS a b.length c) ZN (sr k.o j.o) p ZN Zj (Q7 f.o.size j.o.size) ?_;intro v9 w2 r G;obtain⟨a9,P,rfl⟩:=tj r;have N:=hZ r;have O:=hZ G;clear r G))
   go_roundw
   case rel=>
    have Q:Chg w w2 []:=(f.o.trans j.o).fresh O.o (fun y T=>tP k.o y (by simpa using T));exact⟨i+1,b++p,a9,P,Zj,by go_num,by rw[Qk],by simpa only[Qk]using N.o,by rw[A.o,x.o],by have:=J.o;simp only[Qk];omega,Q⟩
   case measure=>simp[intOf];omega
  .obtain rfl:i=n:=by omega
   have X:=qT (tO k.o);have K:=UD ((⟨b.toArray⟩:BY)=A6 ts) (by rw[x.o,z.o];exact tw ts);go_wp2_with fail;go_ret;exact⟨by rw[<-K.o];rfl,f.o⟩
def sO(a b c:Vl)(m:Int)(M:Nat)(j:Nat)(y:Vl):Prop:=match j with
 |0=>y=a
 |1=>y=b
 |2=>y= nI nX m
 |3=>y= nI nX M
 |4=>y=c
 |_=>True
def vz(R:Nat)(P:BY)(u:Tr)(h:Option Addr)(n i:Nat)(a c d e f g:Vl)(j:Nat)(y:Vl)(O:Nat->Prop)(w:Wl):Prop:=match j with
 |0=>y= nS h n i
 |1=>y= nG P
 |2=>y= nA #[a,c,d,e,f,g]
 |3=>∃ys,As w y 6 (MW u).length ys/\SE O y/\Cr w O (MW u) ys
 |4=>∃sv ys,y= nA #[nI nX 3,nG P,nG ⟨#[]⟩,sv]/\As w sv 6 (MW u).length ys/\SE O sv/\Cr w O (MW u) ys
 |5=>∃sv ys G,Ac w R [nI nX 3,nG P,nG ⟨#[]⟩,sv] 42/\As w sv 6 (MW u).length ys/\SE G sv/\Cr w G (MW u) ys/\O R/\∀b,G b->O b/\b≠R
 |_=>True
def vA(k:Nat):Option Nat:=if k=3 then nM 4 else if k=4 then nM 5 else nN
def vd(R:Nat)(b:Nat):Option Nat:=if b=R then nM 5 else nN
theorem n7(h:∀b,F b->w'.heap[b]? =w.heap[b]?):BZ F w w':=fun b o c=>by
 have a:=h b c;unfold World.cell?;simp only[a]
theorem vz.stays(z:Wl)(R:Nat)(P:BY)(u:Tr)(v:Option Addr)(n x:Nat)(l m o p q r:Vl):pR z (vd R) (vz R P u v n x l m o p q r):=fun k y O w w' h c _=>by
 match k,h with
 |0,h=>exact h
 |1,h=>exact h
 |2,h=>exact h
 |3,⟨ys,d,a,f⟩=>exact⟨ys,d.keptF a (n7 c),a,f.kept (n7 c) (fun _ h=>h)⟩
 |4,⟨sv,ys,e,d,a,f⟩=>exact⟨sv,ys,e,d.keptF a (n7 c),a,f.kept (n7 c) (fun _ h=>h)⟩
 |5,⟨sv,ys,G,s,d,a,f,g,i⟩=>
  have j:BZ G w w':=n7 fun b t=>c b (i b t).1;exact⟨sv,ys,G,s.sameB (c R g),d.keptF a j,a,f.kept j (fun _ h=>h),g,i⟩
 |_+6,h=>exact h
theorem oc{r:Option Tr}{e:Ending}(h:pG F r w e w'):∃(a c d f g i:Vl),e= nR (nT #[nA #[a,c,d,f,g,i],.bool r.isSome])/\(∀u∈[a,c,d,f,g,i],u.oneCell'=true)/\sq F r [a,c,d,f,g,i] r.isSome w'/\Chg w w' []:=by
 obtain⟨cs,b,rfl,j,m⟩:=pG.tell h;have k:=j.one;obtain⟨a,c,d,f,g,i,rfl⟩:=kt k.2;have l:b=r.isSome:=by cases r with|none=>exact j.1|some u=>exact j.1
 subst l;exact⟨a,c,d,f,g,i,rfl,k.1,j,m⟩
def vw(d e m f:Nat)(b:BY)(us:List Vl)(k:Nat)(y:Vl)(O:Nat->Prop)(w:Wl):Prop:=match k with
 |1=>y=(nS (nM ⟨d,e,nN⟩) (m+1) f)
 |2=>y=(nI nX m)
 |3=>y=(nS (nM ⟨d,e,nN⟩) m f)
 |5=>y=(nS (nM ⟨d,e,nN⟩) (m+1) f)
 |6=>y=(nI nX m)
 |7=>y=(nP (nM ⟨d,e+m,nN⟩))
 |8=>y=(nG b)
 |0=>∃g,y= nS (nM ⟨g,0,nN⟩) 0 0/\Ba w y 9 1 0 []/\O g
 |4=>∃a c,y= nS a m c/\Ba w y 9 1 m us/\∀g,y.ownBlock=nM g->O g
 |9=>∃g,y= nS (nM ⟨g,0,nN⟩) 1 1/\Ac w g [nG b] 9/\O g
 |10=>∃a c,y= nS a (m+1) c/\Ba w y 9 1 (m+1) (us++[nG b])/\∀g,y.ownBlock=nM g->O g
 |11=>∃a c,y= nS a (m+1) c/\Ba w y 9 1 (m+1) (us++[nG b])/\∀g,y.ownBlock=nM g->O g
 |_=>True
def vD(k:Nat):Option Nat:=if k=0 then nM 4 else if k=4 then nM 10 else if k=10 then nM 11 else nN
def vF(_:Nat):Option Nat:=nN
theorem vw.stays(q:Wl)(n p m o:Nat)(l:BY)(us:List Vl):pR q vF (vw n p m o l us):=fun k y O w w' h i _=>by
 match k,h with
 |0,⟨g,e,d,b⟩=>exact⟨g,e,d.sameB (fun j f=>i j (by rw[e]at f;have:g=j:=Q5 f;rw[<-this];exact b)),b⟩
 |1,h=>exact h
 |2,h=>exact h
 |3,h=>exact h
 |4,⟨a,c,e,d,b⟩=>exact⟨a,c,e,d.sameB (fun g f=>i g (b g f)),b⟩
 |5,h=>exact h
 |6,h=>exact h
 |7,h=>exact h
 |8,h=>exact h
 |9,⟨g,e,d,b⟩=>exact⟨g,e,d.sameB (i g b),b⟩
 |10,⟨a,c,e,d,b⟩=>exact⟨a,c,e,d.sameB (fun g f=>i g (b g f)),b⟩
 |11,⟨a,c,e,d,b⟩=>exact⟨a,c,e,d.sameB (fun g f=>i g (b g f)),b⟩
 |_+12,h=>exact h
theorem Ba.setRow{m:Nat}{us:List Vl}{x:Vl}{e:Ti}(d:us.length=m*1)(h:Ba w (nS (nM ⟨g,0,nN⟩) (m+1) c) e 1 (m+1) (us++[x])):∃a v,Ac w g a e/\a[m]? =nM v/\∀y,As (w.setCell ⟨g,m,nN⟩ y) (nS (nM ⟨g,0,nN⟩) (m+1) c) 1 (m+1) (us++[y]):=by
 obtain⟨a,k,n,f⟩:=h.blk;rw[Nat.mul_one]at f d;have l:m<a.length:=by have:=congrArg List.length f;simp at this;omega
 refine⟨a,a[m],k,Q9 l,fun y=>⟨_,c,rfl,n,by simp[d],fun i v b=>⟨g,0,rfl, ?_⟩⟩⟩;rw[Nat.zero_add,(k.set m y).cell i];by_cases hi:i<us.length
 .rw[List.getElem?_append_left hi]at b;rw[List.getElem?_set_ne Zj];have j:(a.take (m+1))[i]? =nM v:=by rw[f,List.getElem?_append_left hi];exact b
  rw[List.getElem?_take,Qr Zj]at j;exact j
 .rw[List.getElem?_append_right Zj]at b
  have e:i=m:=by
   by_cases e:i=us.length
   .omega
   .rw[List.getElem?_eq_none (by simp;omega)]at b;cases b
  rw[e,d,Nat.sub_self]at b;rw[e,List.getElem?_set_self l];exact b
def qK(o:CW)(w:Wl)(e:Ending)(w':Wl):Prop:=∃sv ys G,e= nR (nA (BJ o.toI sv).toArray)/\Dr w w' o.toI sv ys G/\Chg w w' []
theorem z2n(h:p:=by go_simp;exact H _ _ Zh (r.val aa.o I rfl)):p:=h
theorem z2o(h:p:=by go_simp;exact H _ _ Zh (d.put ZM (by simp[sO]))):p:=h
theorem z2q(h:p:=by rw[show vd R b=nM 5 from Qr e]at E;injection E with E;subst E;rw[n5]at S;cases S):p:=h
theorem z2s(h:p:=by go_simp;exact H _ _ Zh (d.put ZM (by simp[rY]))):p:=h
theorem z2u(h:p:=by intro x Y;simp only[Qh,List.not_mem_nil,or_false]at Y;rcases Y with rfl|rfl|rfl|rfl<;>rfl):p:=h
theorem z2w(h:p:=by intro e w1 he;obtain⟨X,b,rfl,hr,hc⟩:=pG.tell he;exact H _ _ Zh (d.putC I hc hr)):p:=h
theorem z2x(h:p:=by have E:rS a 1=(nS (nM ⟨V,W,nN⟩) (m+1) N):=L.at 1 Yb;exact z2n):p:=h
theorem z2y(h:p:=by have hq:=d.putA aI;rw[aQ _ _ M]at hq;go_simp;exact H _ _ Zh hq):p:=h
theorem qx(t:Tr)(F:Nat->Prop)(cs:List Vl)(ts:List BY)(sl:Vl)(w:Wl)(hm:EN t ts=0)(hv:AL w F t cs)(L:∀b,F b->b<w.heap.size)(hf:Bt t)(hT:As w sl 1 ts.length (Ad ts))(hn:ts.length<=65536)(aw:∀s∈ts,s.size<=16777216):
  Cl prog 49 #[nA cs.toArray,sl] w (qK (Dd t ts) w):=by
 obtain⟨aT,bk⟩:=Ue (Dd t ts);obtain⟨LU,al⟩:=Ue (Ah t ts);obtain⟨LP,aD⟩:=Ue (Ah t ts.dropLast)
 have ax:∃p,LP=nM p/\((∃u,LU=nM u/\(ts.length=0\/∃ks l,p= .obj ks l)/\aT=⟨3,A6 ts,Dz,Ai u⟩)\/(ts≠[]/\(LU=nN\/∀ks l,p≠ .obj ks l)/\aT=⟨2,A6 (ts.dropLast++[Eo (AH ts) p]),Dz,[]⟩)):=by
  rw[bk,al,aD];by_cases ab:ts=[]
  .subst ab;exact⟨t,rfl,.inl ⟨t,rfl,.inl rfl,rfl⟩⟩
  .obtain⟨p,af,aM⟩:=Ol ab hm;have ha:Dd t ts=GF ts.dropLast (AH ts) p:=by unfold Dd;rw[Qs ab,af];rfl
   cases p with
   |obj ks l=>
    cases hh:C4 ks (AH ts)with
    |true=>
     obtain⟨_,E,S⟩:=T9 (x:= .null) hf ab af hh;exact⟨_,af,.inl ⟨_,E,.inr ⟨ks,l,rfl⟩,S⟩⟩
    |false=>
     refine⟨_,af,.inr ⟨ab,.inl ?_, ?_⟩⟩
     .have E:ts.dropLast++[AH ts]=ts:=by
       have:AH ts=ts.getLast ab:=by unfold AH;rw[List.getLastD_eq_getLast?,List.getLast?_eq_some_getLast ab];rfl
       rw[this];exact List.dropLast_concat_getLast ab
      have S:Ah t (ts.dropLast++[AH ts])=_:=BW;rw[E,af]at S;rw[S];show Dy _ _=_
      unfold Dy;simp only[D6,hh,Bool.false_eq_true,if_false,Option.bind_none]
     .rw[ha];unfold GF;simp only[hh,Bool.false_eq_true,if_false];rfl
   |list l=>exact⟨_,af,.inr ⟨ab,.inr (fun _ _ e=>by cases e),ha⟩⟩
   |null=>cases aM
   |flag b=>cases aM
   |num b=>cases aM
   |text b=>cases aM
 obtain⟨p,af,ax⟩:=ax;have aW:Bt p:=hf.lead (by rw[<-aD];exact af);rw[af]at aD;clear af;obtain⟨ta,N,rfl,cK,_⟩:=hT.form;have bV:=E7 hv;obtain⟨c0,c1,c2,c3,c4,c5,rfl⟩:=kt bV.2
 have a6:=UD (∀J,Chg w J []->Cl prog 44 #[nA #[c0,c1,c2,c3,c4,c5],nS ta ts.length N] J (pG F LU J)) fun J Y=>by
  rw[al];exact pK t F _ ts _ J (AL.kept (Y.keepsF L) (fun _ h=>h) _ _ hv) (fun b f=>Q6 (L b f) Y.size) hf (hT.kept Y) hn aw
 obtain⟨n,av⟩:=Ue ts.length;obtain⟨m,hM⟩:=Ue ts.dropLast.length;have dm:m<=n:=by rw[hM,av,List.length_dropLast];omega
 have bT:As w (nS ta m N) 1 ts.dropLast.length (Ad ts.dropLast):=by
  by_cases he:ts=[]
  .subst he;simp only[List.dropLast_nil,List.length_nil]at hM|-;subst hM;exact⟨ta,N,rfl,Zj,rfl,fun i v hv=>by simp[Ad]at hv⟩
  .have:=hT.head m Zj;rw[pU ts he,<-hM,show ts.length-1=m by rw[hM,List.length_dropLast]];simpa using this
 have bx:=UD (∀J,Chg w J []->Cl prog 44 #[nA #[c0,c1,c2,c3,c4,c5],nS ta m N] J (pG F (nM p) J)) fun J Y=>by
  rw[aD];exact pK t F _ ts.dropLast _ J (AL.kept (Y.keepsF L) (fun _ h=>h) _ _ hv) (fun b f=>Q6 (L b f) Y.size) hf (bT.kept Y) (by rw[<-hM];omega) (fun s hs=>aw s (List.dropLast_subset _ hs))
 have a8:=UD (∀J,Chg w J []->Cl prog 89 #[nS ta n N] J fun e w'=>e= nR (nG (A6 ts))/\Chg J w' []) fun J Y=>by rw[av];exact qQ ts _ J (hT.kept Y) Zj aw
 have bB:=UD (∀u J cu,LU=nM u->Chg w J []->AL J F u cu->Cl prog 27 #[nA cu.toArray] J (mg u J)) fun u J cu hl Y cM=>by
  have bi:Bt u:=hf.lead (by rw[<-al];exact hl);exact lZ u F _ J (Ar bi.fits).1 (fun s hs=>(Uy u bi.good bi.fits s hs).keys) cM (fun b f=>Q6 (L b f) Y.size)
 have cf:=UD ((n=0/\m=0)\/n=m+1) (by rw[av,hM,List.length_dropLast];omega);obtain⟨us,aN⟩:=Ue (Ad ts.dropLast);obtain⟨U,aX⟩:=Ue (AH ts);obtain⟨an,aK⟩:=Ue ts.dropLast;have bd:=UD (us.length=m*1) (by rw[aN,Ao,<-hM,Nat.mul_one]);have co:=UD (∀u∈us,u.oneCell'=true) (by rw[aN];exact Gu _)
 have ci:=UD (∀J sv q,q.size<=16777216->As J sv 1 (m+1) (us++[nG q])->Cl prog 89 #[sv] J fun e w'=>e= nR (nG (A6 (an++[q])))/\Chg J w' []) fun J sv q hq hr=>by
  have cB:(an++[q]).length=m+1:=by rw[aK,Qk,<-hM];rfl
  refine qQ (an++[q]) _ J ?_ (by have:=List.length_dropLast (xs:=ts);omega) (fun s hs=> ?_)
  .rw[cB,show Ad (an++[q])=us++[nG q] by rw[aN,aK];simp[Ad]];exact hr
  .rcases Qf.1 hs with h|h
   .exact aw s (List.dropLast_subset _ (by rw[<-aK];exact h))
   .rw[List.mem_singleton.1 h];exact hq
 have aS:=UD (ts≠[]->n=m+1/\U.size<=16777216/\∃V W,ta=nM ⟨V,W,nN⟩/\(∀i v,us[i]? =nM v->w.cell? ⟨V,W+i,nN⟩=nM v)/\w.cell? ⟨V,W+m,nN⟩=nM (nG U)) fun ab=>by
  have D:=List.length_pos_iff.2 ab;obtain⟨V,W,rfl,bJ⟩:=hT.base Zj ZM;refine⟨by rw[av,hM,List.length_dropLast];omega,by rw[aX];exact aw _ (Re ab),V,W,rfl,fun i v hv=>bJ i v ?_,bJ m _ ?_⟩
  .rw[aN,pU ts ab,List.getElem?_take]at hv;split at hv;exact hv;cases hv
  .have:=rf ab;rw[<-List.length_dropLast,<-hM]at this;simp[Ad,this,aX]
 rw[<-aX,<-aK]at ax;have dq:m<=65536:=Zj;rw[<-av]at hn cK a6 ax|-;rw[<-bk];have aB:=hZ ax;have HF:=hZ L;obtain⟨P,hP⟩:=Ue (A6 ts);rw[<-hP]at a8 aB;obtain⟨NE,bG⟩:=Ue ((ts≠[]));rw[<-bG]at aB aS;obtain⟨w0,aP⟩:=Ue ((w.alloc (nC #[c0,c1,c2,c3,c4,c5] 29)).alloc (nC gj.toArray 42));have H0:Hid (Chg w w0 []):=by rw[aP];exact hZ (((Chg.refl w []).alloc _).alloc _)
 have HA:Hid (Ac w0 w.heap.size [c0,c1,c2,c3,c4,c5] 29):=by rw[aP];exact hZ ((Ac.new w _ _).alloc _)
 have HR:Hid (Ac w0 (w.heap.size+1) gj 42):=by rw[aP];exact hZ (BD _ _ gj _ _ rfl Zh)
 clear hT L hv hf av hM bT bV aw al aD bk ax hm aN aX aK hP bG;go_enter func49,ntmps49;go_upto_region 1 with(fail);change Code.wp _ _ _ _ ((w.alloc (nC #[c0,c1,c2,c3,c4,c5] 29)).alloc (nC gj.toArray 42));rw[<-aP];clear aP;obtain⟨A,hA⟩:=Ue w.heap.size
 obtain⟨R,hR⟩:=Ue (w.heap.size+1);have bs:=UD (w.heap.size<=A/\A<R) ⟨Zj,Zj⟩;rw[<-hR]at HR|-;rw[<-hA]at HA|-;clear hA hR;have cN:IntKind.i64.wrap ((n:Int)-1)=(n:Int)-1:=by rw[IntKind.wrap_i64];omega
 go_upto_if 22 with(first
  |(refine uN HA.o ?_)
  |(go_at_call 44;refine(a6.o _ H0.o).mono ?_;intro e w1 he;obtain⟨d0,d1,d2,d3,d4,d5,rfl,ho,hv,E⟩:=oc he;have HV:=hZ hv;have H1:=hZ E;have HO:=hZ ho;clear he hv E ho)
  |(refine kM w1 HO.o ?_;intro w3 a4 H3))
 have aR:=UD (Chg w0 w3 []) (H1.o.trans H3.o);have a1:=UD (Ac w3 A [c0,c1,c2,c3,c4,c5] 29) (HA.o.kept aR.o);have a9:=UD (Ac w3 R gj 42) (HR.o.kept aR.o);have ao:=UD (∀b,F b->b<w3.heap.size) fun b f=>Q6 (HF.o b f) (H0.o.trans aR.o).size;have bC:=UD (sq F LU [d0,d1,d2,d3,d4,d5] LU.isSome w3) (HV.o.kept (H3.o.keepsF (fun b f=>Q6 (HF.o b f) (H0.o.trans H1.o).size)));obtain⟨B,hB⟩:=Ue w1.heap.size;have cb:=UD (w0.heap.size<=B) (by have:=H1.o.size;omega);rw[<-hB]at a4|-;have a0:=UD (Chg w w3 []) (H0.o.trans aR.o);have cO:=UD (R<B) (by have:=HR.o.lt;have:=cb.o;omega);clear hB H1 H3 HV HA HR;have aM:m<=N:=Zj;have dr:(m:Int)<=(N:Int):=Zj;have dp:(0:Int)<=(m:Int):=Zj;have bP:max ((n:Int)-1) 0=(m:Int):=by have:=cf.o;omega
 obtain⟨z,hz⟩:=Ue ((n:Int)-1:Int);rw[<-hz]at bP|-;have HZ:=hZ hz;clear hz;go_cut [8,9]from 22 (fun _ _ J=>Chg w3 J []/\NE/\aT=⟨2,A6 (an++[Eo U p]),Dz,[]⟩)
 case first=>
  cases al:LU with
  |none=>
   subst al;go_wp2_with fail;go_meet;refine⟨by exact cg cR, ?_⟩;rcases aB.o with⟨_,e,_⟩|⟨E,_,h3⟩
   .cases e
   .exact⟨E,h3⟩
  |some u=>
   subst al;have cp:=UD (AL w3 F u [d0,d1,d2,d3,d4,d5]) bC.o.2;go_upto_region 4 with(fail);refine uW (uD 5 F (nM p) (sO (nA #[c0,c1,c2,c3,c4,c5]) (nS ta n N) (nS ta m N) z m) w3) ?_ ?_ ?_
   .intro ii op a Q dd ho L I am ae d K H;have D:=fun k=>am ⟨k,.data⟩;match ii,ho with
    |0,rfl=>
     have S:rS a 2= nP (nM ⟨A,0,nN⟩):=L.at 2 Yb;obtain⟨zl,zf,z0,z1,z2,z3,z4,z5⟩:=(a1.o.kept d.chg).cells6;exact z2o
    |1,rfl=>
     have E:rS a 1=(nS ta n N):=L.at 1 Yb;exact z2o
    |2,rfl=>
     have h7:rS a 7=(nI nX z):=L.at 7 Yb;exact z2o
    |3,rfl=>
     have cW:rS a 26=(nI nX z):=d.vals 2 ZM (D 2 Zh rfl);exact z2o
    |4,rfl=>
     have cV:rS a 25=(nS ta n N):=d.vals 1 ZM (D 1 Zh rfl);have cX:rS a 27=(nI nX m):=d.vals 3 ZM (D 3 Zh rfl);exact z2o
    |5,rfl=>
     have cU:rS a 24= nA #[c0,c1,c2,c3,c4,c5]:=d.vals 0 ZM (D 0 Zh rfl);have cY:rS a 28=(nS ta m N):=d.vals 4 ZM (D 4 Zh rfl);go_simp;go_at_call 44;refine(bx.o Q (a0.o.trans d.chg)).mono ?_;exact z2w
    |6,rfl=>
     have C:=D 5 Zh rfl;obtain⟨X,b,M,_⟩:=d.call C;have cZ:rS a 29= nT #[nA X.toArray,.bool b]:=M;have hq:=d.putM C;rw[M]at hq;go_simp;exact H _ _ Zh hq
    |7,rfl=>
     obtain⟨C,e5⟩:=d.mv (D 6 Zh rfl);obtain⟨X,b,M,_⟩:=d.call C;have cr:rS a 23= nT #[nA X.toArray,.bool b]:=e5.trans M;go_simp;exact H _ _ Zh (d.putX0 C I M)
    |8,rfl=>
     obtain⟨C,e5⟩:=d.mv (D 6 Zh rfl);obtain⟨X,b,M,_⟩:=d.call C;have cr:rS a 23= nT #[nA X.toArray,.bool b]:=e5.trans M;go_simp;exact H _ _ Zh (d.putX1 C I M)
    |9,rfl=>
     go_simp;exact H _ _ Zh (d.putB ao.o I)
    |10,rfl=>
     have aJ:=D 9 Zh rfl;have aH:=D 7 Zh rfl;obtain⟨g,es,eg,hg,hB,hl,_⟩:=d.bx aJ;obtain⟨C,br⟩:=d.x0 aH;obtain⟨X,b,M,hr⟩:=d.call C;have ex:=br _ _ M;have h8:a.tmps.getD 8 undef= nP (nM ⟨g,0,nN⟩):=eg;have ct:a.tmps.getD 30 undef= nA X.toArray:=ex;rw[Qr ZN];refine Gj _ _ _ rfl g X (by simpa[Act.eval]using h8) (by simpa[Act.eval]using ct) 29 es hB (by rw[hr.one.2];exact A9) (by rw[hl,hr.one.2]) hr.one.1 ?_;intro w7 bW aq ak;exact H _ _ Zh (d.putS ao.o aH aJ eg ex hr.one.2 aq ak hg)
    |11,rfl=>
     have aI:=D 8 Zh rfl;obtain⟨C,aQ⟩:=d.x1 aI;obtain⟨X,b,M,_⟩:=d.call C;have c6:rS a 31= .bool b:=aQ _ _ M;exact z2y
    |_+12,ho=>exact absurd ho Zh
   .intro a T dd L C d;obtain⟨X,b,g,eg,eb,hg,aC,hr⟩:=d.fin (C 9 ZM) (C 10 ZM) (C 11 ZM);have h8:a.tmps.getD 8 undef= nP (nM ⟨g,0,nN⟩):=eg;have h9:a.tmps.getD 9 undef= .bool b:=eb;have ah:=hZ d.chg;have HG:=hZ hg;have az:=hZ aC;have a7:=hZ hr;clear d C eg eb hg aC hr;obtain⟨fu,hu,rfl⟩:=L.fin2 [24,25,26,27,28,29,23,30,31,8,9] Yb;have k8:=(hu 8).symm.trans h8;have k9:=(hu 9).symm.trans h9;clear L hu h8 h9;rw[k8,k9];clear k8 k9;have ag:=UD (Chg w T []) (a0.o.trans ah.o);have ca:=UD (Ac T B [d0,d1,d2,d3,d4,d5] 29) (a4.o.kept ah.o);have aj:=UD (Ac T R gj 42) (a9.o.kept ah.o);have cq:=UD (AL T F u [d0,d1,d2,d3,d4,d5]) (AL.kept (ah.o.keepsF ao.o) (fun _ h=>h) _ _ cp.o);have cc:=UD (∀b,F b->b<T.heap.size) fun b f=>Q6 (ao.o b f) ah.o.size;have aa:=UD (pR T (vd R) (vz R P u ta n N d0 d1 d2 d3 d4 d5)) (vz.stays T R P u ta n N d0 d1 d2 d3 d4 d5);obtain⟨rfl,aO⟩:=a7.o;obtain⟨la,lc,ka,kc,xs,rfl,_⟩:=aO.uni;unfold vC at az;obtain⟨bl,bf,b0,b1,b2,b3,b4,b5⟩:=az.o.cells6;obtain⟨so,ai⟩:=Ue ((Aa p).sort:Int);rw[<-ai]at b0;clear aO;rcases aB.o with⟨u',M,S,h3⟩|⟨E,S,h3⟩
    .injection M with M
     subst M;have ba:=hZ h3
     have hc:((n:Int)==0)=true\/((n:Int)==0)=false/\(so==6)=true:=by
      by_cases h:n=0
      .exact .inl (by rw[h];rfl)
      .rcases S with S|⟨ks,l,rfl⟩
       .exact absurd S h
       .exact .inr ⟨Qq.2 Zj,by rw[ai];rfl⟩
     clear S h3 ai;rcases hc with aY|⟨aY,cE⟩
     all_goals
      go_upto_region 6 with(fail);refine uW (qF T (vd R) vA (vz R P u ta n N d0 d1 d2 d3 d4 d5)) ?_ ?_ ?_
      .intro ii op a Q dd ho L I am ae d K H;obtain⟨O,r⟩:=d;have D:=fun k=>am ⟨k,.data⟩;match ii,ho with
       |0,rfl=>
        have E:rS a 1=(nS ta n N):=L.at 1 Yb;exact z2n
       |1,rfl=>
        have c7:rS a 40=(nS ta n N):=r.say 0 (D 0 Zh rfl) (lq rfl)
        have n5:dd 5=false:=by
         cases e:dd 5 with
         |false=>rfl
         |true=>exact absurd (ae 4 _ rfl (ae 5 _ rfl e ⟨4,.data⟩ Zh rfl) ⟨1,.data⟩ Zh rfl) (by rw[I];simp)
        have au:Chg T Q []:=r.chg [] (fun b k E S=>by
         by_cases e:b=R
         .exact z2q
         .rw[show vd R b=nN from Qs e]at E;cases E)
        go_simp;go_at_call 89;refine(a8.o Q (ag.o.trans au)).mono ?_;rintro e w6 ⟨rfl,h6⟩;exact H _ _ Zh (r.new aa.o I h6 (O':=fun _=>False) rfl (fun b f=>f.elim))
       |2,rfl=>
        have h5:rS a 5=(nP (nM ⟨B,0,nN⟩)):=L.at 5 Yb
        have n5:dd 5=false:=by
         cases e:dd 5 with
         |false=>rfl
         |true=>exact absurd (ae 3 _ rfl (ae 4 _ rfl (ae 5 _ rfl e ⟨4,.data⟩ Zh rfl) ⟨3,.data⟩ Zh rfl) ⟨2,.data⟩ Zh rfl) (by rw[I];simp)
        have au:Chg T Q []:=r.chg [] (fun b k E S=>by
         by_cases e:b=R
         .exact z2q
         .rw[show vd R b=nN from Qs e]at E;cases E)
        obtain⟨zl,zf,z0,z1,z2,z3,z4,z5⟩:=(ca.o.kept au).cells6;exact z2n
       |3,rfl=>
        have c8:rS a 42=(nA #[d0,d1,d2,d3,d4,d5]):=r.say 2 (D 2 Zh rfl) (lq rfl)
        have n5:dd 5=false:=by
         cases e:dd 5 with
         |false=>rfl
         |true=>exact absurd (ae 4 _ rfl (ae 5 _ rfl e ⟨4,.data⟩ Zh rfl) ⟨3,.data⟩ Zh rfl) (by rw[I];simp)
        have au:Chg T Q []:=r.chg [] (fun b k E S=>by
         by_cases e:b=R
         .exact z2q
         .rw[show vd R b=nN from Qs e]at E;cases E)
        go_simp;go_at_call 27;refine(bB.o u Q _ rfl (ag.o.trans au) (AL.kept (au.keepsF cc.o) (fun _ h=>h) _ _ cq.o)).mono ?_;rintro e w6 ⟨sv,ys,G,rfl,k1,k2,k3,k4,h6⟩;exact H _ _ Zh (r.new aa.o I h6 (O':=G) ⟨ys,k1,k2,k3⟩ k4)
       |4,rfl=>
        have cv:a.tmps.getD 41 undef=(nG P):=r.say 1 (D 1 Zh rfl) (lq rfl);have bm:=r.say 3 (D 3 Zh rfl) (lr (u:=vA) rfl I);obtain⟨ys,k1,k2,k3⟩:=bm;have k1:As Q (a.tmps.getD 43 undef) 6 (MW u).length ys:=k1;have k2:SE (O 3) (a.tmps.getD 43 undef):=k2;obtain⟨sv,bF⟩:∃sv,a.tmps.getD 43 undef=sv:=⟨_,rfl⟩;rw[bF]at k1 k2;have aL:∀b,O 3 b->b<Q.heap.size:=fun b f=>(r.own 3 (D 3 Zh rfl) (lr (u:=vA) rfl I) b f).1;have cL:=D 3 Zh rfl;obtain⟨sa,sc,rfl,_⟩:=k1.form;have cQ:a.tmps[41]?.getD undef= nG P:=by rw[<-Qp];exact cv
        have cS:a.tmps[43]?.getD undef= nS sa (MW u).length sc:=by rw[<-Qp];exact bF
        go_simp;exact H _ _ Zh ⟨_,r.next aa.o I (O':=O 3) (show Chg Q Q []from Chg.refl Q []) ⟨_,ys,rfl,k1,k2,k3⟩ aL (fun b f=> .inr (.inr ⟨3,rfl,cL,f⟩)) (fun b f=>by cases f)⟩
       |5,rfl=>
        have h4:a.tmps.getD 4 undef=(nP (nM ⟨R,0,nN⟩)):=L.at 4 Yb;have bp:=D 4 Zh rfl;have bn:=r.say 4 bp (lr (u:=vA) rfl I);obtain⟨sv,ys,bh,k1,k2,k3⟩:=bn;have bh:a.tmps.getD 44 undef= nA #[nI nX 3,nG P,nG ⟨#[]⟩,sv]:=bh;have ad:=r.own 4 bp (lr (u:=vA) rfl I);have cA:=r.blk aj.o (lr (u:=vd R) (Qr rfl) I)
        have bI:∀b,O 4 b->b≠R:=fun b f e=>by
         obtain⟨k,q1,q2⟩:=(ad b f).2 (by rw[e];exact aj.o.lt);rw[show vd R b=nM 5 from Qr e]at q1;injection q1 with q1;subst q1;rw[I]at q2;cases q2
        obtain⟨sa,sc,rfl,_⟩:=k1.form;rw[Qr ZN];refine Gj _ _ _ rfl R [nI nX 3,nG P,nG ⟨#[]⟩,nS sa (MW u).length sc] (by simpa[Act.eval]using h4) (by simpa[Act.eval]using bh) 42 gj cA A0 rfl z2u ?_;intro w7 bW aq ak;have bM:BZ (O 4) Q w7:=ak.keepsF (fun b f=>(ad b f).1) (fun b hm f=>bI b f (List.mem_singleton.1 hm))
        exact H undef _ (fun _=>rfl) ⟨_,r.next aa.o I (O':=fun b=>b=R\/O 4 b) ak ⟨_,ys,O 4,aq,k1.keptF k2 bM,k2,k3.kept bM (fun _ h=>h),.inl rfl,fun b f=>⟨.inr f,bI b f⟩⟩ (fun b f=>by
         rcases f with rfl|f
         .exact aq.lt
         .exact Q6 (ad b f).1 ak.size) (fun b f=>by
         rcases f with rfl|f
         .exact .inr (.inl ⟨aj.o.lt,Qr rfl⟩)
         .exact .inr (.inr ⟨4,rfl,bp,f⟩)) (fun b f _=> .inl (by obtain rfl:=List.mem_singleton.1 f;exact⟨aj.o.lt,Qr rfl⟩))⟩
       |_+6,ho=>exact absurd ho Zh
      .intro a w8 dd L C d;obtain⟨O,r⟩:=d;have cH:=r.say 5 (C 5 ZM) (lq rfl);have bj:=r.own 5 (C 5 ZM) (lq rfl);obtain⟨sv,ys,G,M,k1,k2,k3,_,k4⟩:=cH;have HE:=hZ M
       have ay:=UD (Chg T w8 [R]) (r.chg [R] (fun b k q1 q2=>by
        by_cases e:b=R
        .rw[e];exact List.mem_singleton.2 rfl
        .rw[show vd R b=nN from Qs e]at q1;cases q1))
       have HU:=UD (Dr T w8 (⟨3,P,Dz,Ai u⟩:CW).toI sv ys G) ⟨k1,k2,k3,fun b f=>⟨by
        by_cases aL:b<T.heap.size
        .obtain⟨k,q1,q2⟩:=(bj b (k4 b f).1).2 aL;rw[show vd R b=nN from Qs (k4 b f).2]at q1;cases q1
        .omega,(bj b (k4 b f).1).1⟩⟩
       clear r C bj M k1 k2 k3 k4;obtain⟨fu,hu,rfl⟩:=L.fin2 [40,41,42,43,44] Yb;clear L hu;go_wp2_with fail;refine bodyPost_ret (uP HE.o) rfl ?_;have aG:Chg w w8 []:=ag.o.fresh ay.o (fun y hy=>by have:=bs.o;simp at hy;omega);rw[ba.o];unfold qK;exact⟨sv,ys,G,rfl,⟨HU.o.row,HU.o.inn,HU.o.steps,fun b f=>⟨Q7 ag.o.size (HU.o.new b f).1,(HU.o.new b f).2⟩⟩,aG⟩
      .exact⟨_,uB.start _ _ _ _ _ (Chg.refl _ _).drew⟩
    .have aY:((n:Int)==0)=false:=Qq.2 (by have:=(aS.o E).1;omega)
     have cE:(so==6)=false:=Qq.2 fun e=>by
      rcases S with S|S
      .cases S
      .rcases sj p with⟨_,ks,l,h⟩|⟨h,_⟩
       .exact S ks l h
       .exact h (by rw[<-ai];exact e)
     have ce:=UD (Chg w3 T []/\NE/\aT=⟨2,A6 (an++[Eo U p]),Dz,[]⟩) ⟨ah.o,E,h3⟩;clear E S h3 ai;go_wp2_with fail;go_meet;exact ce.o
   .exact uD.start _ _ _ _ _ _ _ (Chg.refl _ _).drew
 case rest=>
  obtain⟨aF,ab,hE⟩:=hcut;obtain⟨aY,cC,V,W,rfl,bU,bN⟩:=aS.o ab;subst aY;obtain rfl:z=(m:Int):=by have:=HZ.o;omega
  have ba:=hZ hE;have cm:=hZ bU;have bz:=hZ bN;have H7:=UD (Chg w wc []) (a0.o.trans aF);have b8:=UD (Ac wc A [c0,c1,c2,c3,c4,c5] 29) (a1.o.kept aF);have cj:=UD (Ac wc R gj 42) (a9.o.kept aF);have bt:=UD (∀b,F b->b<wc.heap.size) fun b f=>Q6 (ao.o b f) aF.size;clear aF ab hE bU bN aB aS a6 bB a8 bC a4 a1 a9 ao bP cN;have dv:(m:Int)<=(m:Int)+1:=Zj;go_upto_region 7 with(fail);refine uW (uD 4 F (nM p) (rY (nA #[c0,c1,c2,c3,c4,c5]) (nS (nM ⟨V,W,nN⟩) (m+1) N) (nS (nM ⟨V,W,nN⟩) m N) m) wc) ?_ ?_ ?_
  .intro ii op a Q dd ho L I am ae d K H;have D:=fun k=>am ⟨k,.data⟩;match ii,ho with
   |0,rfl=>
    have S:rS a 2= nP (nM ⟨A,0,nN⟩):=L.at 2 Yb;obtain⟨zl,zf,z0,z1,z2,z3,z4,z5⟩:=(b8.o.kept d.chg).cells6;exact z2s
   |1,rfl=>
    have E:rS a 1=(nS (nM ⟨V,W,nN⟩) (m+1) N):=L.at 1 Yb;exact z2s
   |2,rfl=>
    have h7:rS a 7=(nI nX m):=L.at 7 Yb;exact z2s
   |3,rfl=>
    have da:rS a 47=(nS (nM ⟨V,W,nN⟩) (m+1) N):=d.vals 1 ZM (D 1 Zh rfl);have db:rS a 48=(nI nX m):=d.vals 2 ZM (D 2 Zh rfl);exact z2s
   |4,rfl=>
    have c9:rS a 46= nA #[c0,c1,c2,c3,c4,c5]:=d.vals 0 ZM (D 0 Zh rfl);have dc:rS a 49=(nS (nM ⟨V,W,nN⟩) m N):=d.vals 3 ZM (D 3 Zh rfl);go_simp;go_at_call 44;refine(bx.o Q (H7.o.trans d.chg)).mono ?_;exact z2w
   |5,rfl=>
    have C:=D 4 Zh rfl;obtain⟨X,b,M,_⟩:=d.call C;have de:rS a 50= nT #[nA X.toArray,.bool b]:=M;have hq:=d.putM C;rw[M]at hq;go_simp;exact H _ _ Zh hq
   |6,rfl=>
    obtain⟨C,e5⟩:=d.mv (D 5 Zh rfl);obtain⟨X,b,M,_⟩:=d.call C;have cw:rS a 45= nT #[nA X.toArray,.bool b]:=e5.trans M;go_simp;exact H _ _ Zh (d.putX0 C I M)
   |7,rfl=>
    obtain⟨C,e5⟩:=d.mv (D 5 Zh rfl);obtain⟨X,b,M,_⟩:=d.call C;have cw:rS a 45= nT #[nA X.toArray,.bool b]:=e5.trans M;go_simp;exact H _ _ Zh (d.putX1 C I M)
   |8,rfl=>
    go_simp;exact H _ _ Zh (d.putB bt.o I)
   |9,rfl=>
    have aJ:=D 8 Zh rfl;have aH:=D 6 Zh rfl;obtain⟨g,es,eg,hg,hB,hl,_⟩:=d.bx aJ;obtain⟨C,br⟩:=d.x0 aH;obtain⟨X,b,M,hr⟩:=d.call C;have ex:=br _ _ M;have aU:a.tmps.getD 10 undef= nP (nM ⟨g,0,nN⟩):=eg;have cy:a.tmps.getD 51 undef= nA X.toArray:=ex;rw[Qr ZN];refine Gj _ _ _ rfl g X (by simpa[Act.eval]using aU) (by simpa[Act.eval]using cy) 29 es hB (by rw[hr.one.2];exact A9) (by rw[hl,hr.one.2]) hr.one.1 ?_;intro w7 bW aq ak;exact H _ _ Zh (d.putS bt.o aH aJ eg ex hr.one.2 aq ak hg)
   |10,rfl=>
    have aI:=D 7 Zh rfl;obtain⟨C,aQ⟩:=d.x1 aI;obtain⟨X,b,M,_⟩:=d.call C;have df:rS a 52= .bool b:=aQ _ _ M;exact z2y
   |_+11,ho=>exact absurd ho Zh
  .intro a T dd L C d;obtain⟨X,b,g,eg,eb,hg,aC,hr⟩:=d.fin (C 8 ZM) (C 9 ZM) (C 10 ZM);have aU:a.tmps.getD 10 undef= nP (nM ⟨g,0,nN⟩):=eg;have ap:a.tmps.getD 11 undef= .bool b:=eb;have ah:=hZ d.chg;have HG:=hZ hg;have az:=hZ aC;have a7:=hZ hr;clear d C eg eb hg aC hr;obtain⟨fu,hu,rfl⟩:=L.fin2 [46,47,48,49,50,45,51,52,10,11] Yb;have bX:=(hu 10).symm.trans aU;have bY:=(hu 11).symm.trans ap;clear L hu aU ap;rw[bX,bY];clear bX bY;have ag:=UD (Chg w T []) (H7.o.trans ah.o);obtain⟨rfl,aO⟩:=a7.o;have aa:=UD (pR T vF (vw V W m N U us)) (vw.stays T V W m N U us);have dt:m<m+1:=Zj;have du:(m:Int)<(m:Int)+1:=Zj;go_upto_region 8 with(fail);refine uW (qF T vF vD (vw V W m N U us)) ?_ ?_ ?_
   .intro ii op a Q dd ho L I am ae d K H;obtain⟨O,r⟩:=d;have D:=fun k=>am ⟨k,.data⟩;match ii,ho with
    |0,rfl=>
     go_simp;exact H _ _ Zh (r.new aa.o I ((Chg.refl Q []).alloc _) (O':=fun b=>b=Q.heap.size) ⟨Q.heap.size,rfl,Z2 Q 9 1,rfl⟩ (fun b f=>by subst f;exact⟨Q8 _,Zh⟩))
    |1,rfl=>
     exact z2x
    |2,rfl=>
     have h7:rS a 7=(nI nX m):=L.at 7 Yb;exact z2n
    |3,rfl=>
     have dg:rS a 54=(nS (nM ⟨V,W,nN⟩) (m+1) N):=r.say 1 (D 1 Zh rfl) (lq rfl);have dh:rS a 55=(nI nX m):=r.say 2 (D 2 Zh rfl) (lq rfl);exact z2n
    |4,rfl=>
     have di:rS a 56=(nS (nM ⟨V,W,nN⟩) m N):=r.say 3 (D 3 Zh rfl) (lq rfl);have cF:=r.say 0 (D 0 Zh rfl) (lr (u:=vD) rfl I);obtain⟨g0,hy,Z,bH⟩:=cF;have hs:a.tmps.getD 53 undef= nS (nM ⟨g0,0,nN⟩) 0 0:=hy;have Z:Ba Q (a.tmps.getD 53 undef) 9 1 0 []:=Z;rw[hs]at Z;have Y:a.tmps.getD 56 undef=(nS (nM ⟨V,W,nN⟩) m N):=r.say 3 (D 3 Zh rfl) (lq rfl);have aG:Chg T Q []:=r.chg [] (fun b k E _=>by cases E);have cJ:∀i v,us[i]? =nM v->∃B o0,(nM ⟨V,W,nN⟩:Option Addr)=nM ⟨B,o0,nN⟩/\Q.cell? ⟨B,o0+i,nN⟩=nM v:=fun i v hv=>⟨V,W,rfl,(ag.o.trans aG).keeps (cm.o i v hv)⟩;rw[Qr ZN];refine mi _ _ 27 rfl 9 Ho 1 16 ZM underlying27 Cf rfl (nS (nM ⟨g0,0,nN⟩) 0 0) 0 [] (by simpa[Act.eval]using hs) Z (nM ⟨V,W,nN⟩) m N us (by simpa[Act.eval]using Y) bd.o cJ co.o Zj Zj ?_;intro a2 bD w7 k1 k2 k3;rw[Nat.zero_add,List.nil_append]at k1;rw[Nat.zero_add]at k3|-
     exact H _ _ Zh ⟨_,r.next aa.o I (O':=fun b=>(Vl.slice a2 m bD).ownBlock=nM b) k2 ⟨a2,bD,rfl,k1,fun g hg=>hg⟩ (fun b f=>k1.lt f) (fun b f=>by
      rcases k3 b f with h|h
      .exact .inr (.inr ⟨0,rfl,D 0 Zh rfl,by have e:g0=b:=Q5 h;rw[<-e];exact bH⟩)
      .exact .inl h) (fun b f _=> .inr ⟨0,rfl,D 0 Zh rfl,by rw[<-qY f];exact bH⟩)⟩
    |5,rfl=>
     exact z2x
    |6,rfl=>
     have h7:rS a 7=(nI nX m):=L.at 7 Yb;exact z2n
    |7,rfl=>
     have dj:rS a 58=(nS (nM ⟨V,W,nN⟩) (m+1) N):=r.say 5 (D 5 Zh rfl) (lq rfl);have dk:rS a 59=(nI nX m):=r.say 6 (D 6 Zh rfl) (lq rfl);exact z2n
    |8,rfl=>
     have dl:rS a 60=(nP (nM ⟨V,W+m,nN⟩)):=r.say 7 (D 7 Zh rfl) (lq rfl);have aG:Chg T Q []:=r.chg [] (fun b k E _=>by cases E);have dx:=(ag.o.trans aG).keeps bz.o;exact z2n
    |9,rfl=>
     have cz:a.tmps.getD 61 undef=(nG U):=r.say 8 (D 8 Zh rfl) (lq rfl);have cT:a.tmps[61]?.getD undef= nG U:=by rw[<-Qp];exact cz
     go_simp;exact H _ _ Zh (r.new aa.o I ((Chg.refl Q []).alloc _) (O':=fun b=>b=Q.heap.size) ⟨Q.heap.size,rfl,Ac.new _ _ _,rfl⟩ (fun b f=>by subst f;exact⟨Q8 _,Zh⟩))
    |10,rfl=>
     have bn:=r.say 4 (D 4 Zh rfl) (lr (u:=vD) rfl I);obtain⟨a2,c2,hy,Z,aE⟩:=bn;have hs:a.tmps.getD 57 undef= nS a2 m c2:=hy;have Z:Ba Q (a.tmps.getD 57 undef) 9 1 m us:=Z;have aE:∀g,(a.tmps.getD 57 undef).ownBlock=nM g->O 4 g:=aE;rw[hs]at Z aE;have cI:=r.say 9 (D 9 Zh rfl) (lq rfl);obtain⟨g9,Y,ar,_⟩:=cI;have Y:a.tmps.getD 62 undef= nS (nM ⟨g9,0,nN⟩) 1 1:=Y;rw[Qr ZN];refine mi _ _ 27 rfl 9 Ho 1 16 ZM underlying27 Cf rfl (nS a2 m c2) m us (by simpa[Act.eval]using hs) Z (nM ⟨g9,0,nN⟩) 1 1 [nG U] (by simpa[Act.eval]using Y) rfl (fun i v hv=>⟨g9,0,rfl,by rw[Nat.zero_add];exact(ar.cell i).trans hv⟩) z2z Zj Zj ?_;intro a3 bE w7 k1 k2 k3
     exact H _ _ Zh ⟨_,r.next aa.o I (O':=fun b=>(Vl.slice a3 (m+1) bE).ownBlock=nM b) k2 ⟨a3,bE,rfl,k1,fun g hg=>hg⟩ (fun b f=>k1.lt f) (fun b f=>by
      rcases k3 b f with h|h
      .exact .inr (.inr ⟨4,rfl,D 4 Zh rfl,aE b h⟩)
      .exact .inl h) (fun b f _=> .inr ⟨4,rfl,D 4 Zh rfl,aE b (qv f)⟩)⟩
    |11,rfl=>
     have bm:=r.say 10 (D 10 Zh rfl) (lr (u:=vD) rfl I);obtain⟨a3,c3,hy,Z,ad⟩:=bm;have hs:a.tmps.getD 63 undef= nS a3 (m+1) c3:=hy;have Z:Ba Q (a.tmps.getD 63 undef) 9 1 (m+1) (us++[nG U]):=Z;have ad:∀g,(a.tmps.getD 63 undef).ownBlock=nM g->O 10 g:=ad;rw[hs]at Z ad;go_simp;exact H _ _ Zh ⟨_,r.next aa.o I (O':=fun b=>(Vl.slice a3 (m+1) c3).ownBlock=nM b) (show Chg Q Q []from Chg.refl Q []) ⟨a3,c3,rfl,Z,fun g hg=>hg⟩ (fun b f=>Z.lt f) (fun b f=> .inr (.inr ⟨10,rfl,D 10 Zh rfl,ad b f⟩)) (fun b f=>by cases f)⟩
    |_+12,ho=>exact absurd ho Zh
   .intro a w8 dd L C d;obtain⟨O,r⟩:=d;have cG:=r.say 11 (C 11 ZM) (lq rfl);have bR:=r.own 11 (C 11 ZM) (lq rfl);obtain⟨a3,c3,hy,Z,ad⟩:=cG;have bg:a.tmps.getD 12 undef= nS a3 (m+1) c3:=hy;have Z:Ba w8 (a.tmps.getD 12 undef) 9 1 (m+1) (us++[nG U]):=Z;have ad:∀g,(a.tmps.getD 12 undef).ownBlock=nM g->O 11 g:=ad;rw[bg]at Z ad;have a5:=hZ Z
    have ch:=UD (∀g,(Vl.slice a3 (m+1) c3).ownBlock=nM g->T.heap.size<=g) fun g hg=>by
     by_cases aL:g<T.heap.size
     .obtain⟨k,q1,_⟩:=(bR g (ad g hg)).2 aL;cases q1
     .omega
    have ay:=UD (Chg T w8 []) (r.chg [] (fun b k E _=>by cases E));clear r C bR hy Z ad;obtain⟨fu,hu,rfl⟩:=L.fin2 [53,54,55,56,57,58,59,60,61,62,63,12] Yb;have bZ:=(hu 12).symm.trans bg;clear L hu bg;rw[bZ];clear bZ;obtain⟨la,lc,ka,kc,xs,rfl,_⟩:=aO.uni;unfold vC at az;have aj:=UD (Ac T R gj 42) (cj.o.kept ah.o);have bA:=UD (Ac w8 R gj 42) (aj.o.kept ay.o);have aZ:=UD (Chg w w8 []) (ag.o.trans ay.o);have cl:=UD (As w8 (nS a3 (m+1) c3) 1 (m+1) (us++[nG U])) (a5.o.rowC (by have:=bd.o;simp;omega))
    have cd:=UD (∃gr,a3=nM ⟨gr,0,nN⟩) (by
     obtain⟨a,cap,e,h⟩:=a5.o.form;injection e with e
     subst e
     exact h Zj)
    obtain⟨bl,bf,b0,b1,b2,b3,b4,b5⟩:=(az.o.kept ay.o).cells6;have dw:=aZ.o.keeps bz.o;clear aO;rcases sh p with⟨_,l,rfl⟩|⟨h5,bQ⟩
    rotate_left
    focus
     have aA:=UD (Eo U p=U) (by cases p<;>first|rfl|exact absurd rfl (bQ _));have cx:(((Aa p).sort:Int)==5)=false:=Qq.2 h5;obtain⟨so,ai⟩:=Ue ((Aa p).sort:Int);rw[<-ai]at cx b0;clear ai h5 bQ aW;go_upto_region 11 with fail
    rotate_left
    focus
     simp only[Aa,Ab]at b0 b1 b2 b3 b4 b5;by_cases C:U=IN
     focus
      have bL:(U.toList==[45])=true:=by rw[C];decide+kernel
      have g3:U.toList=[45]:=by simpa using bL
      obtain⟨q,aV⟩:=Ue (⟨(Go.Lib.decDigits l.length).toArray⟩:BY);have aA:=UD (Eo U (.list l)=q) (by rw[aV];exact Qr C);have cD:l.length<=65536:=by have:=aW.many;simp only[Ab]at this;omega
      have bu:=UD (∀J,Cl prog 90 #[nI nX l.length] J fun e w'=>e= nR (nG q)/\Chg J w' []) fun J=>by rw[aV];exact lH l.length J Zj
      have hq:q.size<=16777216:=by rw[aV];have:=fX l.length Zj;omega
      obtain⟨ln,bO⟩:=Ue l.length;rw[<-bO]at b4 bu cD;clear C aV bO aW bL;obtain⟨gr,rfl⟩:=cd.o;have bv:=UD (T.heap.size<=gr) (ch.o gr rfl);go_upto_region 11 with((go_at_call 90;go_loud(refine(bu.o _).mono ?_;rintro e w9 ⟨rfl,h9⟩;have bw:=a5.o.kept h9;obtain⟨cP,vm,ar,bK,bS⟩:=Ba.setRow bd.o bw;have ck:=hZ bS;have e9:w9.cell? ⟨gr,m,nN⟩=nM vm:=(ar.cell m).trans bK;have f9:∀j,w9.frozen? ⟨gr,j,nN⟩=false:=fun j=>ar.frozen j;have dy:=ar.lt;have H9:=UD (Chg w w9 []) (aZ.o.trans h9);have bo:Chg w9 (w9.setCell ⟨gr,m,nN⟩ (nG q)) [gr]:=(Chg.refl _ _).setCell _ _ Zh;have be:=UD (Chg w (w9.setCell ⟨gr,m,nN⟩ (nG q)) []) (H9.o.fresh bo (fun y hy=>by have E:=bv.o;have S:=ag.o.size;simp at hy;omega));have bc:=UD (Ac (w9.setCell ⟨gr,m,nN⟩ (nG q)) R gj 42) ((bA.o.kept h9).kept bo (by have E:=bv.o;have S:=aj.o.lt;simp;omega));clear bo h9 bw bS ar bK)));have bb:=hZ (ck.o (nG q));obtain⟨wz,bq⟩:=Ue (w9.setCell ⟨gr,m,nN⟩ (nG q))
      rw[<-bq]at be bc bb;change Code.wp _ _ _ _ (w9.setCell ⟨gr,m,nN⟩ (nG q));rw[<-bq];clear bq
     rotate_left
     focus
      have g2:(U.toList==[45])=false:=Qq.2 fun e=>C (by rw[Lib.toList_data]at e;exact DK (by rw[e];rfl));have g3:¬U.toList=[45]:=Qq.1 g2;have aA:=UD (Eo U (.list l)=U) (Qs C);clear C aW;go_upto_region 11 with fail
    all_goals
     try
      obtain⟨q,aA,hq,bb⟩:∃q,Hid (_=q)/\q.size<=16777216/\Hid (As w8 (nS a3 (m+1) c3) 1 (m+1) (us++[nG q])):=⟨U,aA,cC,cl⟩;have bc:=bA;have be:=aZ
     go_wp2_with(first
      |(go_at_call 89;refine(ci.o _ _ _ hq bb.o).mono ?_;rintro e dz ⟨rfl,ap⟩;have cn:=hZ (bc.o.kept ap);have b6:=hZ (be.o.trans ap);clear ap)
      |(refine uO (ds:=[nI nX 2,nG (A6 (an++[q])),nG ⟨#[]⟩,nS nN 0 0]) cn.o z2u ?_;intro dA b9 b7))
     refine bodyPost_ret (uP b9.o) rfl ?_;rw[ba.o,aA.o];exact⟨nS nN 0 0,[],fun _=>False,rfl,⟨⟨nN,0,rfl,Q8 _,rfl,fun i v hv=>by simp at hv⟩,(fun b o n c e=>by cases e),rfl,fun b f=>f.elim⟩,b6.o.fresh b7.o (fun y hy=>by have:=bs.o;simp at hy;omega)⟩
   .exact⟨_,uB.start _ _ _ _ _ (Chg.refl _ _).drew⟩
  .exact uD.start _ _ _ _ _ _ _ (Chg.refl _ _).drew
def sN(F:Nat->Prop)(cs:List Vl)(r:PV)(w:Wl)(e:Ending)(w':Wl):Prop:=match r with
 | .no k=>e= nR (nT #[nA cs.toArray,nS nN 0 0,nI nX k])/\Chg w w' []
 | .yes f u=>∃(a:Nat->Prop) (c:List Vl) (d:Vl) (ys:List Vl) (G:Nat->Prop),e= nR (nT #[nA c.toArray,d,nI nX 0])/\AL w' a f c/\(∀b,a b->(F b\/w.heap.size<=b)/\b<w'.heap.size)/\EW w w' (u.map CW.toI) d ys G/\Chg w w' []
theorem sU(t:Tr)(o:Bq)(F:Nat->Prop)(cs:List Vl)(sv:Vl)(ys:List Vl)(w:Wl)(j:Bn o≠0)(B:AL w F t cs)(u:T7 o)(a:As w sv 6 o.steps.length ys)(x:Az w o.steps ys):
  Cl prog 26 #[nA cs.toArray,nA (BJ o sv).toArray] w (sN F cs (Gz t o) w):=by
 have z:Gz t o= .no (Bn o):=Qr j;rw[z];obtain⟨c,d,rfl,_⟩:=a.form;have l:=E7 B;have K:=hZ l.1;obtain⟨h,c1,i,c3,c4,c5,rfl⟩:=kt l.2;obtain⟨n,k⟩:=Ue (Bn o)
 have H:=UD (∀f,Chg w f []->Cl prog 42 #[nA #[nI nX o.kind,nG o.path,nG o.frm,nS c o.steps.length d]] f fun e w'=>e= nR (nI nX n)/\Chg f w' []) fun f C=>by
  rw[k];exact jn o _ ys f u (a.kept C) (x.kept C)
 rw[<-k]at j|-;obtain⟨w0,b⟩:=Ue (((w.alloc (nC #[h,c1,i,c3,c4,c5] 29)).alloc (nC #[nI nX o.kind,nG o.path,nG o.frm,nS c o.steps.length d] 42)).alloc (nC zV.toArray 29));have m:Hid (Chg w w0 []):=by rw[b];exact hZ ((((Chg.refl w []).alloc _).alloc _).alloc _)
 have p:Hid (Ac w0 w.heap.size [h,c1,i,c3,c4,c5] 29):=by rw[b];exact hZ (((Ac.new w _ _).alloc _).alloc _)
 have q:Hid (Ac w0 (w.heap.size+1) [nI nX o.kind,nG o.path,nG o.frm,nS c o.steps.length d] 42):=by rw[b];exact hZ ((BD _ _ [nI nX o.kind,nG o.path,nG o.frm,nS c o.steps.length d] _ _ rfl Zh).alloc _)
 have r:Hid (Ac w0 (w.heap.size+2) zV 29):=by rw[b];exact hZ (BD _ _ zV _ _ rfl Zh)
 clear a x u B l z k;have N:((n:Int) !=0)=true:=bne_iff_ne.2 Zj;have O:((n:Int)==0)=false:=Qq.2 Zj;clear j;go_enter func26,ntmps26;go_upto_region 1 with(fail);change Code.wp _ _ _ _ (((w.alloc (nC #[h,c1,i,c3,c4,c5] 29)).alloc (nC #[nI nX o.kind,nG o.path,nG o.frm,nS c o.steps.length d] 42)).alloc (nC zV.toArray 29));rw[<-b];clear b;obtain⟨A,s⟩:=Ue w.heap.size
 obtain⟨P,v⟩:=Ue (w.heap.size+1);obtain⟨R,a⟩:=Ue (w.heap.size+2);have I:=UD (w.heap.size<=A/\A<P/\P<R) ⟨Zj,Zj,Zj⟩;rw[<-a]at r|-;rw[<-v]at q|-;rw[<-s]at p|-;clear s v a
 go_wp2_with(first
  |(refine uN q.o ?_)
  |(go_at_call 42;refine(H.o _ m.o).mono ?_;rintro e Q ⟨rfl,g⟩;have D:=hZ g;have G:=hZ (p.o.kept g);have L:=hZ (r.o.kept g);clear g)
  |(refine uN G.o ?_)
  |(refine uO L.o K.o ?_;intro S J E))
 refine bodyPost_ret (uR J.o) rfl ?_;exact⟨rfl,(m.o.trans D.o).fresh E.o (fun y M=>by have:=I.o;simp at M;omega)⟩
end
section
open Go Go.Shelf Go.RowKit Go.Lib Tree Ptr
variable{o:Bq}{cs d e f os xs ys:List Vl}{A L M P R X g:Nat}{F O:Nat->Prop}{t:Tr}{sv y:Vl}{w w':Wl}
theorem Chg.back{a b:Wl}(h:Chg a b [])(c:∀x,F x->x<a.heap.size):BZ F b a:=n7 fun x d=>(h.block x (c x d) Zh).symm
def tH(u:Tr)(y:Vl)(O:Nat->Prop)(w:Wl):Prop:=∃ys,As w y 6 (MW u).length ys/\SE O y/\Cr w O (MW u) ys
def sR(o:Bq)(y:Vl)(O:Nat->Prop)(w:Wl):Prop:=∃sv ys,y= nA #[nI nX o.kind,nG o.path,nG o.frm,sv]/\As w sv 6 o.steps.length ys/\SE O sv/\Cr w O o.steps ys
def qg(os:List Bq)(y:Vl)(O:Nat->Prop)(w:Wl):Prop:=∃xs,As w y 4 os.length xs/\SE O y/\Eh w O os xs
def sQ(F:Nat->Prop)(t:Tr)(y:Vl)(O:Nat->Prop)(w:Wl):Prop:=∃(G:Nat->Prop) (cs:List Vl),y= nA cs.toArray/\AL w G t cs/\∀b,G b->F b\/O b
def sS(F:Nat->Prop)(R:Nat)(t:Tr)(O:Nat->Prop)(w:Wl):Prop:=∃(G:Nat->Prop) (cs:List Vl),Ac w R cs 29/\AL w G t cs/\(∀b,G b->F b\/(O b/\b≠R))/\O R
theorem tH.same{u:Tr}(h:tH u y O w)(c:∀b,O b->w'.heap[b]? =w.heap[b]?):tH u y O w':=by
 obtain⟨ys,d,a,e⟩:=h;exact⟨ys,d.keptF a (n7 c),a,e.kept (n7 c) (fun _ h=>h)⟩
theorem sR.same(h:sR o y O w)(c:∀b,O b->w'.heap[b]? =w.heap[b]?):sR o y O w':=by
 obtain⟨sv,ys,e,d,a,f⟩:=h;exact⟨sv,ys,e,d.keptF a (n7 c),a,f.kept (n7 c) (fun _ h=>h)⟩
theorem qg.same{os:List Bq}(h:qg os y O w)(c:∀b,O b->w'.heap[b]? =w.heap[b]?):qg os y O w':=by
 obtain⟨xs,d,a,e⟩:=h;exact⟨xs,d.keptF a (n7 c),a,e.kept (n7 c) (fun _ h=>h)⟩
theorem sQ.same(h:sQ F t y O w)(f:∀b,O b->w'.heap[b]? =w.heap[b]?)(d:∀b,F b->w'.heap[b]? =w.heap[b]?):sQ F t y O w':=by
 obtain⟨G,cs,e,c,a⟩:=h;exact⟨G,cs,e,AL.kept (n7 fun b g=>(a b g).elim (d b) (f b)) (fun _ h=>h) _ _ c,a⟩
theorem sS.same(h:sS F R t O w)(d:∀b,O b->w'.heap[b]? =w.heap[b]?)(g:∀b,F b->w'.heap[b]? =w.heap[b]?):sS F R t O w':=by
 obtain⟨G,cs,e,f,a,c⟩:=h;exact⟨G,cs,e.sameB (d R c),AL.kept (n7 fun b i=>(a b i).elim (g b) (fun h=>d b h.1)) (fun _ h=>h) _ _ f,a,c⟩
theorem qg.one(h:As w sv 6 o.steps.length ys)(d:SE O sv)(j:Cr w O o.steps ys)(m:∀b,O b->b<w.heap.size)(l:Chg w w' [])(k:Ac w' g [nI nX o.kind,nG o.path,nG o.frm,sv] 42):
  qg [o] (nS (nM ⟨g,0,Option.none⟩) 1 1) (fun b=>b=g\/O b) w':=by
 have f:BZ O w w':=l.keepsF m
 exact⟨[nI nX o.kind,nG o.path,nG o.frm,sv],⟨_,_,rfl,Q8 _,Zh,fun i v p=>⟨g,0,rfl,by rw[Nat.zero_add,k.cell i];exact p⟩⟩,(fun b q n c e=>by injection e with e;injection e with e;injection e with e;exact .inl e.symm),
  ⟨sv,ys,[],by simp[BJ],h.keptF d f,d.mono (fun b a=> .inr a),j.kept f (fun b a=> .inr a),rfl⟩⟩
theorem qg.two{p:Bq}{d:Vl}{O':Nat->Prop}(r:As w sv 6 o.steps.length ys)(h:SE O sv)(s:Cr w O o.steps ys)(z:As w d 6 p.steps.length f)(m:SE O' d)(A:Cr w O' p.steps f)(u:∀b,O b->b<w.heap.size)(x:∀b,O' b->b<w.heap.size)(j:Chg w w' [])(t:Ac w' g [nI nX o.kind,nG o.path,nG o.frm,sv,nI nX p.kind,nG p.path,nG p.frm,d] 42):
  qg [o,p] (nS (nM ⟨g,0,Option.none⟩) 2 2) (fun b=>b=g\/O b\/O' b) w':=by
 have k:BZ O w w':=j.keepsF u;have l:BZ O' w w':=j.keepsF x
 exact⟨[nI nX o.kind,nG o.path,nG o.frm,sv,nI nX p.kind,nG p.path,nG p.frm,d],⟨_,_,rfl,Q8 _,Zh,fun i v y=>⟨g,0,rfl,by rw[Nat.zero_add,t.cell i];exact y⟩⟩,(fun b q n c e=>by injection e with e;injection e with e;injection e with e;exact .inl e.symm),
  ⟨sv,ys,[nI nX p.kind,nG p.path,nG p.frm,d],by simp[BJ],r.keptF h k,h.mono (fun b a=> .inr (.inl a)),s.kept k (fun b a=> .inr (.inl a)),
   ⟨d,f,[],by simp[BJ],z.keptF m l,m.mono (fun b a=> .inr (.inr a)),A.kept l (fun b a=> .inr (.inr a)),rfl⟩⟩⟩
structure uF(A P R X L M:Nat)(cs os xs ls ms:List Vl)(w:Wl):Prop where
 a:Ac w A cs 29
 p:Ac w P os 42
 r:Ac w R zV 29
 x:Ac w X xs 29
 l:Ac w L ls 29
 m:Ac w M ms 29
theorem uF.kept{bs:List Nat}(h:uF A P R X L M cs os xs d e w)(a:Chg w w' bs)(c:∀b,b∈[A,P,R,X,L,M]->b∉bs:=by simp):uF A P R X L M cs os xs d e w':=
 ⟨h.a.kept a (c _ Zh),h.p.kept a (c _ Zh),h.r.kept a (c _ Zh),h.x.kept a (c _ Zh),h.l.kept a (c _ Zh),h.m.kept a (c _ Zh)⟩
theorem uF.putX(h:uF A P R X L M cs os xs d e w)(a:Chg w w' [X])(g:Ac w' X f 29)(c:∀b,b∈[A,P,R,L,M]->b∉[X]):uF A P R X L M cs os f d e w':=
 ⟨h.a.kept a (c _ Zh),h.p.kept a (c _ Zh),h.r.kept a (c _ Zh),g,h.l.kept a (c _ Zh),h.m.kept a (c _ Zh)⟩
end
section
open _root_.Go.Proofs.Tryz
open Go Go.Shelf Go.RowKit Go.Lib Tree Ptr
variable{k:Int}{c cs:List Vl}{g j:Nat}{d:Nat->Bool}{F FB:Nat->Prop}{f:Nat->Vl}{V:Nat->Vl->Prop}{r:PV}{p q s:Tmp}{y:Vl}{n w w':Wl}
theorem rV{w0 d f:Wl}{u1 u2:List Bq}{v u:Vl}{m p:List Vl}{k G2:Nat->Prop}(i:EW w0 d u1 v m k)(j:EW w0 d u2 u p G2)(l:Chg d f [])(A:w0.heap.size<=d.heap.size)(q:Ba f y 42 4 (u1.length+u2.length) (m++p))(r:∀g,y.ownBlock=nM g->d.heap.size<=g):
  EW w0 f (u1++u2) y (m++p) (fun b=>(k b\/G2 b)\/y.ownBlock=nM b):=by
 have s:BZ k d f:=l.keepsF (fun b a=>(i.new b a).2);have t:BZ G2 d f:=l.keepsF (fun b a=>(j.new b a).2);have z:=l.size;refine⟨?_,fun b o n c e=> ?_, ?_,fun b a=> ?_⟩
 .rw[Qk];exact q.rowC (by rw[Qk,i.ops.length,j.ops.length];omega)
 .rw[e];exact .inr rfl
 .exact(Eh.kept s (fun _ h=> .inl (.inl h)) i.ops).append (Eh.kept t (fun _ h=> .inl (.inr h)) j.ops)
 .rcases a with(a|a)|a
  .have:=i.new b a;omega
  .have:=j.new b a;omega
  .have w:=r b a;have x:=q.lt a;omega
theorem pT{P:Program}{c:Func}{r:Tmp}{b:Ti}(h:c.results=#[.cell p b,.tmp q,.tmp r,.tmp s])(a:Array Vl)(w:Wl)(g:Nat)(T:Ti)(cs:List Vl)(d:TypeDesc)(i:a.getD p undef= nP (nM ⟨g,0,Option.none⟩))(e:Ac w g cs T)(l:P.underlying b=nM d)(f:(match d with| .struct _| .array _ _=>true|_=>false)=true)(hi:(P.info? b).map (·.size)=nM cs.length):
  (results c a).run P w= .ok (nT #[nA cs.toArray,a.getD q undef,a.getD r undef,a.getD s undef]) w:=by
 have j:a[p]?.getD undef= nP (nM ⟨g,0,Option.none⟩):=by simpa using i
 have k:=run_loadVar_row (P:=P) w g T b cs.toArray (0,0) d e l f (by simpa using hi);simp[results,h,j,asAddr,k]
theorem uT{b:Func}{r:Tmp}{a:Array Vl}{T:Ti}(d:Ac w g cs T)(h:b.results=#[.cell p T,.tmp q,.tmp r,.tmp s]:=by rfl)[c:Nonempty (vG T)](e:cs.length=vH T:=by rfl)(i:a.getD p undef= nP (nM ⟨g,0,nN⟩):=by rfl):(results b a).run prog w= .ok (nT #[nA cs.toArray,a.getD q undef,a.getD r undef,a.getD s undef]) w:=by
 obtain⟨⟨⟨f,j⟩,hi⟩⟩:=c;exact pT h a w g T cs _ i d j rfl (by rw[e];exact hi)
def uh(F FB:Nat->Prop)(d:List Vl)(r:PV)(cs:List Vl)(a:Vl)(k:Int)(w:Wl):Prop:=match r with
 | .no e=>cs=d/\a= nS Option.none 0 0/\k=e
 | .yes t u=>k=0/\∃(c G:Nat->Prop) (ys:List Vl),AL w c t cs/\(∀b,c b->F b\/FB b)/\As w a 4 (u.map CW.toI).length ys/\SE G a/\Eh w G (u.map CW.toI) ys/\∀b,G b->FB b
theorem uh.same{j:Vl}(h:uh F FB c r cs j k w)(i:∀b,F b\/FB b->w'.heap[b]? =w.heap[b]?):uh F FB c r cs j k w':=by
 cases r with
 |no e=>exact h
 |yes t u=>
  obtain⟨m,l,G,ys,n,d,o,f,p,g⟩:=h;have kG:BZ G w w':=n7 fun b a=>i b (.inr (g b a));exact⟨m,l,G,ys,AL.kept (n7 fun b a=>i b (d b a)) (fun _ h=>h) _ _ n,d,o.keptF f kG,f,p.kept kG (fun _ h=>h),g⟩
theorem sN.tell{a:List Vl}{e:Ending}(o:(∀u∈a,u.oneCell'=true)/\a.length=6)(h:sN F a r w e w'):∃cs f k,e= nR (nT #[nA cs.toArray,f,nI nX k])/\uh F (fun b=>w.heap.size<=b/\b<w'.heap.size) a r cs f k w'/\((∀u∈cs,u.oneCell'=true)/\cs.length=6)/\Chg w w' []:=by
 cases r with
 |no n=>obtain⟨rfl,g⟩:=h;exact⟨a,_,n,rfl,⟨rfl,rfl,rfl⟩,o,g⟩
 |yes t u=>
  obtain⟨l,m,f,ys,G,rfl,j,i,d,g⟩:=h;exact⟨m,f,0,rfl,⟨rfl,l,G,ys,j,fun b c=>(i b c).1.imp id (fun h=>⟨h,(i b c).2⟩),d.row,d.inn,d.ops,fun b c=>d.new b c⟩,E7 j,g⟩
def vg(V:Nat->Vl->Prop)(cs:List Vl)(a:Vl)(k:Int)(g:Nat)(j:Nat)(y:Vl):Prop:=match j with
 |0=>V 0 y
 |1=>V 1 y
 |2=>V 2 y
 |3=>V 3 y
 |4=>V 4 y
 |5=>y= nT #[nA cs.toArray,a,nI nX k]
 |6=>y= nT #[nA cs.toArray,a,nI nX k]
 |7=>y= nA cs.toArray
 |8=>y=a
 |9=>y= nI nX k
 |10=>y= nP (nM ⟨g,0,Option.none⟩)
 |12=>y=a
 |13=>y= nI nX k
 |_=>True
theorem vg.call{b:List Vl}{d e:Vl}{c:Int}(a:j<5\/j=10)(h:vg V cs d k g j y):vg V b e c g j y:=by
 rcases a with a|rfl
 .match j,a,h with
  |0,_,h=>exact h
  |1,_,h=>exact h
  |2,_,h=>exact h
  |3,_,h=>exact h
  |4,_,h=>exact h
 .exact h
theorem vg.box{a:Vl}{b:Nat}(c:j≠10)(h:vg V cs a k g j y):vg V cs a k b j y:=by
 unfold vg at*;split at h<;>first|exact h|(exact absurd rfl c)|skip
structure uC(w4:Wl)(F:Nat->Prop)(cs0:List Vl)(r:PV)(V:Nat->Vl->Prop)(cs:List Vl)(sl:Vl)(k:Int)(g:Nat)(FB:Nat->Prop)(d:Nat->Bool)(f:Nat->Vl)(w:Wl):Prop where
 chg:Chg w4 w []
 vals:∀j,d j=true->vg V cs sl k g j (f j)
 wait:∀j,d j=true->6<=j->j≠10->d 5=true
 call:d 5=true->uh F FB cs0 r cs sl k w/\((∀u∈cs,u.oneCell'=true)/\cs.length=6)/\∀b,FB b->w4.heap.size<=b/\b<w.heap.size
 bx0:d 10=true->w4.heap.size<=g/\g<w.heap.size
 bx1:d 10=true->d 11=false->Ac w g zV 29
 bx2:d 11=true->d 10=true/\Ac w g cs 29
 dif:d 5=true->d 10=true->¬FB g
theorem uC.start(a:Wl)(F:Nat->Prop)(b:List Vl)(r:PV)(V:Nat->Vl->Prop)(f:Nat->Vl)(h:Chg a w []):uC a F b r V [] .nilIface 0 0 (fun _=>False) (fun _=>false) f w:=
 ⟨h,fun _ h=>(by cases h),fun _ h=>(by cases h),fun h=>(by cases h),fun h=>(by cases h),fun h=>(by cases h),fun h=>(by cases h),fun h=>(by cases h)⟩
theorem uC.val{l:List Vl}{i:Vl}(h:uC n F l r V cs i k g FB d f w)(s:j≠5)(o:j≠10)(p:j≠11)(x:j<5\/d 5=true)(v:vg V cs i k g j y):
  uC n F l r V cs i k g FB (BA d j) (Eb f j y) w:=by
 have c:BA d j 5=d 5:=An d (Ne.symm s);have b:BA d j 10=d 10:=An d (Ne.symm o);have m:BA d j 11=d 11:=An d (Ne.symm p);refine⟨h.chg,fun q a=> ?_,fun q a t u=> ?_, ?_, ?_, ?_, ?_, ?_⟩
 .by_cases e:q=j
  .subst e;rw[Bf];exact v
  .rw[AA f y e];rw[An d e]at a;exact h.vals q a
 .rw[c];by_cases e:q=j
  .subst e;exact x.resolve_left Zj
  .rw[An d e]at a;exact h.wait q a t u
 .rw[c];exact h.call
 .rw[b];exact h.bx0
 .rw[b,m];exact h.bx1
 .rw[b,m];exact h.bx2
 .rw[c,b];exact h.dif
theorem uC.gave{x:Wl}{j:List Vl}{D p:Vl}{o:Int}(h:uC x F j r V cs D k g FB d f w)(B:d 5=false)(n:Chg w w' [])(A:uh F (fun b=>w.heap.size<=b/\b<w'.heap.size) j r c p o w')(y:(∀u∈c,u.oneCell'=true)/\c.length=6):
  uC x F j r V c p o g (fun b=>w.heap.size<=b/\b<w'.heap.size) (BA d 5) (Eb f 5 (nT #[nA c.toArray,p,nI nX o])) w':=by
 have no:∀q,6<=q->q≠10->d q=false:=fun q t v=>by
  cases e:d q with
  |false=>rfl
  |true=>have:=h.wait q e t v;rw[B]at this;cases this
 have C:BA d 5 11=false:=by rw[An d ZM];exact no 11 ZM ZM
 have l:BA d 5 10=d 10:=An d ZM;refine⟨h.chg.trans n,fun q i=> ?_,fun q i t v=>BG d 5,fun _=>⟨A,y,fun b m=>⟨Q7 h.chg.size m.1,m.2⟩⟩, ?_, ?_,fun a=>(by rw[C]at a;cases a), ?_⟩
 .by_cases e:q=5
  .subst e;rw[Bf];rfl
  .rw[AA f _ e];rw[An d e]at i;refine(h.vals q i).call ?_;by_cases s:q=10
   .exact .inr s
   .by_cases z:q<5
    .exact .inl z
    .rw[no q Zj s]at i;cases i
 .rw[l];intro a;exact⟨(h.bx0 a).1,Q6 (h.bx0 a).2 n.size⟩
 .rw[l];intro a _;exact(h.bx1 a (no 11 ZM ZM)).kept n
 .rw[l];intro _ a m;have:=(h.bx0 a).2;omega
theorem uC.box{o:List Vl}{t:Vl}(h:uC n F o r V cs t k g FB d f w)(z:∀b,F b->b<n.heap.size)(A:d 10=false):
  uC n F o r V cs t k w.heap.size FB (BA d 10) (Eb f 10 (nP (nM ⟨w.heap.size,0,Option.none⟩))) (w.alloc (nC zV.toArray 29)):=by
 have B:d 11=false:=by
  cases e:d 11 with
  |false=>rfl
  |true=>have:=(h.bx2 e).1;rw[A]at this;cases this
 have u:BA d 10 11=false:=by rw[An d ZM];exact B
 have j:BA d 10 5=d 5:=An d ZM;have p:Chg w (w.alloc (nC zV.toArray 29)) []:=(Chg.refl w []).alloc _;refine⟨h.chg.alloc _,fun q i=> ?_,fun q i y s=> ?_, ?_,fun _=>⟨h.chg.size,Zh⟩,fun _ _=>Ac.new _ _ _,fun c=>(by rw[u]at c;cases c), ?_⟩
 .by_cases e:q=10
  .subst e;rw[Bf];rfl
  .rw[AA f _ e];rw[An d e]at i;exact(h.vals q i).box e
 .rw[j];rw[An d s]at i;exact h.wait q i y s
 .rw[j];intro c;obtain⟨v,x,m⟩:=h.call c;exact⟨v.same fun b a=>p.block b (a.elim (fun l=>Q6 (z b l) h.chg.size) (fun l=>(m b l).2)) Zh,x,fun b a=>⟨(m b a).1,Q6 (m b a).2 p.size⟩⟩
 .rw[j];intro c _ a;have:=((h.call c).2.2 _ a).2;omega
theorem uC.sto{p:Wl}{s:List Vl}{x:Vl}(h:uC p F s r V cs x k g FB d f w)(u:∀b,F b->b<p.heap.size)(D:d 5=true)(m:d 10=true)(E:Ac w' g cs 29)(i:Chg w w' [g]):
  uC p F s r V cs x k g FB (BA d 11) (Eb f 11 y) w':=by
 have l:BA d 11 5=d 5:=An d ZM;have j:BA d 11 10=d 10:=An d ZM;obtain⟨t,A⟩:=h.bx0 m;have v:=h.chg.size;refine⟨h.chg.fresh i (fun z v=>by rw[List.mem_singleton.1 v];exact t),fun q o=> ?_,fun q o H I=> ?_, ?_, ?_,fun _ c=>(by rw[BG]at c;cases c),fun _=>⟨by rw[j];exact m,E⟩, ?_⟩
 .by_cases e:q=11
  .subst e;rw[Bf];trivial
  .rw[AA f _ e];rw[An d e]at o;exact h.vals q o
 .rw[l];exact D
 .rw[l];intro c;obtain⟨B,C,n⟩:=h.call c;refine⟨B.same fun b a=>i.block b ?_ ?_,C,fun b a=>⟨(n b a).1,Q6 (n b a).2 i.size⟩⟩
  .rcases a with a|a
   .have:=u b a;omega
   .exact(n b a).2
  .rintro G;rw[List.mem_singleton.1 G]at a;rcases a with a|a
   .have:=u g a;omega
   .exact h.dif c m a
 .rw[j];intro _;exact⟨t,Q6 A i.size⟩
 .rw[l,j];exact h.dif
def uo(c:Wl)(F:Nat->Prop)(a:List Vl)(r:PV)(V:Nat->Vl->Prop)(d:Nat->Bool)(f:Nat->Vl)(w:Wl):Prop:=∃cs b k g FB,uC c F a r V cs b k g FB d f w
def qh(s:BY):List BY:=(AD s).getD []
theorem pL(s:BY)(w:Wl)(l:s.size<=16777216):Cl prog 43 #[nG s] w fun e w'=>∃(pa:Option Addr) (g:Nat) (k y:Int),e= nR (nT #[nS pa (qh s).length g,nI nX k,nI nX y])/\As w' (nS pa (qh s).length g) 1 (qh s).length (Ad (qh s))/\Chg w w' []:=by
 refine(jm s w l).mono ?_;rintro e w' ⟨h,d⟩;unfold qh;cases f:AD s with
 |none=>
  rw[f]at h;obtain⟨k,y,_,rfl⟩:=h;exact⟨nN,0,k,y,rfl,⟨nN,0,rfl,Q8 _,rfl,fun i v m=>by simp[Ad]at m⟩,d⟩
 |some ts=>
  rw[f]at h;obtain⟨n,rfl,j,_⟩:=h;have b:=j.rowC;rw[Ao]at b;obtain⟨a,c,rfl,_⟩:=b.form;exact⟨a,c,0,0,rfl,b,d⟩
theorem qj(l:List Ap)(n:Vl)(xs:List Vl)(w:Wl)(r:As w n 6 l.length xs)(v:Az w l xs)(k:∀s∈l,Di s)(y:l.length<=4294967296):
  Cl prog 15 #[n] w fun e w'=>∃(Fx:Nat->Prop) (a c d f g i:Vl) (b:Bool),e= nR (nT #[nA #[a,c,d,f,g,i],.bool b])/\(∀u∈[a,c,d,f,g,i],u.oneCell'=true)/\(∀x,AS l=nM x->AL w' Fx x [a,c,d,f,g,i]/\(Ag x).within=true)/\(∀b,Fx b->w.heap.size<=b/\b<w'.heap.size)/\Chg w w' []:=by
 refine(Vq l n xs w r v k y).mono ?_;rintro e w' ⟨h,o⟩;cases p:AS l with
 |none=>
  rw[p]at h;obtain⟨a,c,d,f,g,i,q⟩:=kt (cs:=zV) rfl;refine⟨fun _=>False,a,c,d,f,g,i,false,by rw[h,q],by rw[<-q];exact qS,(fun x j=>by cases j),fun b k=>k.elim,o⟩
 |some t=>
  rw[p]at h;obtain⟨Fx,cs,rfl,m,z,A⟩:=h;obtain⟨a,c,d,f,g,i,rfl⟩:=kt (E7 m).2;exact⟨Fx,a,c,d,f,g,i,true,rfl,(E7 m).1,fun x j=>by injection j with j;rw[<-j];exact⟨m,A⟩,z,o⟩
end
end Go.Proofs.YtpdnhfkacgdocaaGreatDoor

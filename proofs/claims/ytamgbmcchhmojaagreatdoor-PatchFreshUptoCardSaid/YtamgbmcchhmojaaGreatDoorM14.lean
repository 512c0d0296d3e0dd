/- Part 14 of the proof of patchFresh_card. -/
import Derived.Test.YtamgbmcchhmojaaGreatDoorM13
set_option maxRecDepth 100000
set_option maxHeartbeats 32000000
set_option linter.all false
namespace Go.Proofs.YtamgbmcchhmojaaGreatDoor
open Go renaming Calls->Cl,TypeId->Ti,Value->Vl,World->Wl
open Go.Value renaming agg->nA,iface->nF,int->nI,pointer->nP,slice->nS,string->nG,tuple->nT
open Go.IntKind renaming i64->nX
open Go.Ending renaming returned->nR
open Go.Obj renaming cells->nC
open Option renaming none->nN,some->nM
section
open _root_.Go.Proofs.Tryz
open Go Go.RowKit Tree
variable{s:Ap}{l:List Tr}{cs xs:List Vl}{cap g:Nat}{F:Nat->Prop}{p:Prop}{q r:Tmp}{w:Wl}
theorem Aq.split(h:Aq w F l xs)(k:Nat):Aq w F (l.take k) (xs.take (6*k))/\Aq w F (l.drop k) (xs.drop (6*k)):=by
 induction l generalizing xs k with
 |nil=>simp only[Aq]at h;subst h;simp[Aq]
 |cons t l g=>
  simp only[Aq]at h;obtain⟨c,r,rfl,a,b⟩:=h;cases k with
  |zero=>simp only[List.take_zero,Nat.mul_zero,List.drop_zero,Aq];exact⟨trivial,c,r,rfl,a,b⟩
  |succ k=>
   have d:=a.length;obtain⟨e,f⟩:=g b k;simp only[List.take_succ_cons,List.drop_succ_cons,Aq];rw[List.take_append,List.drop_append,d,show 6*(k+1)-6=6*k from by omega,Qn (by omega:c.length<=6*(k+1)),List.drop_of_length_le (by omega:c.length<=6*(k+1)),List.nil_append];exact⟨⟨c,_,rfl,a,e⟩,f⟩
theorem Aq.append{m:List Tr}{ys:List Vl}(h:Aq w F l xs)(k:Aq w F m ys):Aq w F (l++m) (xs++ys):=by
 induction l generalizing xs with
 |nil=>simp only[Aq]at h;subst h;simpa using k
 |cons t l d=>
  simp only[Aq]at h;obtain⟨c,r,rfl,a,b⟩:=h;simp only[Qo,Aq];exact⟨c,r++ys,Zh,a,d b⟩
theorem AL.ones{t:Tr}(h:AL w F t cs):∀u∈cs,u.oneCell'=true:=by
 obtain⟨_,_,_,_,_,rfl,_⟩:=h.uni;intro u a;simp only[vC,Qh,List.not_mem_nil,or_false]at a;rcases a with rfl|rfl|rfl|rfl|rfl|rfl<;>rfl
theorem Aq.ones(h:Aq w F l xs):∀u∈xs,u.oneCell'=true:=by
 induction l generalizing xs with
 |nil=>simp only[Aq]at h;subst h;intro u a;cases a
 |cons t l e=>
  simp only[Aq]at h;obtain⟨c,r,rfl,b,d⟩:=h;intro u a;rcases Qf.1 a with a|a
  .exact b.ones u a
  .exact e d u a
theorem Z2(w:Wl)(e:Ti)(sz:Nat):Ba (w.alloc (nC #[] e)) (nS (nM ⟨w.heap.size,0,nN⟩) 0 0) e sz 0 []:=World.ownsRow_made w #[] 0 (Nat.zero_le _) (Nat.zero_le _) Zh
theorem Vd{b:Nat}(h:b<18446744073709551616):Tl b=Cg b:=by
 unfold Tl Cg Fl.A7;split<;>split<;>omega
theorem Ba.popK{a:Option Addr}{n sz:Nat}{e:Ti}(h:Ba w (nS a n cap) e sz n xs)(k:Nat)(p:k<=n):Ba w (nS a k cap) e sz k (xs.take (k*sz)):=by
 have v:k*sz<=n*sz:=Nat.mul_le_mul_right _ p;refine⟨by rw[Ql,h.1];omega, ?_⟩;rcases h.2 with⟨b,s⟩|⟨g,r,d,c,m,o,u,i,j,l⟩
 .injection b with b t f
  subst b;subst f;have:k=0:=Zj;subst this;exact .inl ⟨rfl,rfl⟩
 .injection c with c x q
  subst c;subst q;refine .inr ⟨g,cap,d,rfl,m,o,Zj,i,j, ?_⟩;rw[<-l,List.take_take]
  congr 1
  omega
def Y5(F:Nat->Prop)(f:List Tr)(d:Vl)(w:Wl)(e:Ending)(w':Wl):Prop:=
 (∃(a:Vl) (c:Nat->Prop),e= nR (nT #[a,nI nX 0])/\Zk w' c a f/\(∀g,a.ownBlock=nM g->d.ownBlock=nM g\/w.heap.size<=g)/\∀b,c b->F b\/w.heap.size<=b)/\Chg w w' d.ownBlock.toList
def GE(F:Nat->Prop)(l:List Tr)(s:Ap)(a:Vl)(w:Wl)(e:Ending)(w':Wl):Prop:=
 if Ds s l=true then Y5 F (NW l s) a w e w' else Wf w e w'
theorem Iy(f:EJ l)(r:l.length<=65536)(b:Di s)(i:Kw s=true)(t:Hn s<=l.length):
  (Ag (AF s l)).nodes<=1099511627776/\(Ag (AF s l)).bytes<=1152921504606846976/\(Ag (AF s l)).depth<=1099511627776:=by
 obtain⟨j,_,_,_,h⟩:=CU.1 i;have k:=Gw j;have m:=(f.drop (l.length-Hn s)).sum;have a:(l.drop (l.length-Hn s)).length<=65536:=by rw[Qm];omega
 have n:=b.text;have o:=b.sum;have p:(l.drop (l.length-Hn s)).length*65536<=65536*65536:=Nat.mul_le_mul_right _ a;have q:(l.drop (l.length-Hn s)).length*2097152<=65536*2097152:=Nat.mul_le_mul_right _ a;unfold AF CF;split
 .simp[Ag]
 .split
  .simp[Ag]
  .split
   .simp[Ag]
   .split
    .simp[Ag];omega
    .split
     .simp only[Ag,Sz.over];omega
     .rename_i c;have d:s.count=0:=Decidable.byContradiction fun g=>c (k.2.2.2.2.2.2.1 g);have e:s.keys.length=(l.drop (l.length-Hn s)).length:=by rw[Qm];unfold Hn at*;rw[d]at*;simp at*;omega
      rw[Kd h e];simp only[Sz.over];omega
theorem Kz{d:Vl}{w':Wl}{v:Vl}{k:Int}(c:¬Ds s l=true)(b:k≠0)(a:Chg w w' []):GE F l s d w (nR (nT #[v,nI nX k])) w':=by
 unfold GE;rw[Qs c];exact⟨⟨v,k,b,rfl⟩,a⟩
theorem IC{j:Nat->Prop}{d:Option Addr}{e D:Nat}{i r:Wl}(I:Ds s l=true)(E:Ba w (nS d l.length e) 29 6 l.length xs)(C:Aq w F l xs)(m:∀b,F b->b<w.heap.size)(k:∀g,(Vl.slice d l.length e).ownBlock=nM g->¬F g)(u:D=l.length-Hn s)(q:Chg w i [])(H:AL i j (AF s l) cs)(n:∀b,j b->b<i.heap.size)(o:∀b,j b->F b\/w.heap.size<=b)(B:Ba r (nS (nM ⟨g,0,nN⟩) (D+1) cap) 29 6 (D+1) (xs.take (D*6)++cs))(f:Chg i r (Vl.slice d D e).ownBlock.toList)(p:(Vl.slice d D e).ownBlock=nM g\/i.heap.size<=g):
  GE F l s (nS d l.length e) w (nR (nT #[nS (nM ⟨g,0,nN⟩) (D+1) cap,nI nX 0])) r:=by
 unfold GE;rw[Qr I];have y:(Vl.slice d D e).ownBlock=(Vl.slice d l.length e).ownBlock:=by cases d<;>rfl
 rw[y]at f p;have x:∀g,(Vl.slice d l.length e).ownBlock=nM g->g<w.heap.size:=fun g h=>E.lt h;have J:=q.size;have G:(NW l s).length=D+1:=by unfold NW;rw[Qk,Ql,List.length_singleton,<-u];omega
 refine⟨⟨_,fun b=>F b\/j b,rfl,⟨xs.take (D*6)++cs, ?_, ?_, ?_, ?_⟩, ?_,fun b a=>a.elim .inl (o b)⟩,(q.none _).trans f⟩
 .rw[G];exact B
 .unfold NW;rw[<-u];refine Aq.append ?_ ?_
  .have:=(C.split D).1;rw[show D*6=6*D from Nat.mul_comm _ _];exact Aq.kept (((q.none _).trans f).keepsF m fun b a=>k b (by simpa using a)) (fun _ h=> .inl h) _ _ this
  .simp only[Aq];refine⟨cs,[],Zh,AL.kept (f.keepsF n fun b a z=> ?_) (fun _ h=> .inr h) _ _ H,rfl⟩;have A:=x b (by simpa using a);rcases o b z with c|c
   .exact k b (by simpa using a) c
   .omega
 .intro b a;have:=f.size;rcases a with h|h
  .have:=m b h;omega
  .have:=n b h;omega
 .intro b a v;simp[Vl.ownBlock]at a;subst a;rcases p with h|h
  .have A:=x _ h;rcases v with c|c
   .exact k _ h c
   .rcases o _ c with t|t
    .exact k _ h t
    .omega
  .rcases v with c|c
   .have:=m _ c;omega
   .have:=n _ c;omega
 .intro b a;simp[Vl.ownBlock]at a;subst a;rcases p with h|h
  .exact .inl h
  .exact .inr Zj
theorem xL(h:p:=by go_wp2_with(first|(at_builtin;refine A1 rfl _ _ _ rfl 29 ti underlying26 cd _ 0 0 (Q8 _) ZN _ _ ZN ?_));go_meet;exact⟨_,_,[],F,rfl,⟨_,_,rfl,Nat.zero_le _,rfl,fun i v hv=>by simp at hv⟩,.inl rfl,by rw[bi.o];simp[Aq],fun b a=>by have:=S.o b a;have:=aJ;simp;omega,fun b a=> .inl a,(Chg.refl _ _).alloc _⟩):p:=h
theorem xQ(h:p:=by intro u G;simp only[vC,Qh,List.not_mem_nil,or_false]at G;rcases G with rfl|rfl|rfl|rfl|rfl|rfl<;>rfl):p:=h
theorem xR(h:p:=by simp only[AL];exact⟨nN,0,nN,0,rfl⟩):p:=h
theorem xS(h:p:=by exact cg cR):p:=h
theorem uQ(l:List Tr)(F:Nat->Prop)(rv:Vl)(s:Ap)(sk:Vl)(w:Wl)(hR:Zk w F rv l)(hK:As w sk 1 s.keys.length (Ad s.keys))(a:Di s)(hf:EJ l)(hl:l.length<=65536):
  Cl prog 61 #[rv,nA #[nI nX s.sort,.bool s.flag,nI .u64 s.bits,nG s.text,nI nX s.count,sk]] w (GE F l s rv w):=by
 obtain⟨xs,hX,hV,hF,hO⟩:=hR;have hr:=hX.form;obtain⟨ra,rc,rfl,di⟩:=hr;obtain⟨ka,kc,rfl,de,_⟩:=hK.form;have an:∀c,Chg w c []->As c (nS ka s.keys.length kc) 1 s.keys.length (Ad s.keys):=fun c h=>hK.kept h;obtain⟨J,A⟩:=Ue s.keys.length;rw[<-A]at an de|-;obtain⟨w0,ap⟩:=Ue (w.alloc (nC #[nI nX s.sort,.bool s.flag,nI .u64 s.bits,nG s.text,nI nX s.count,nS ka J kc] 106));have m:Hid (Chg w w0 []):=by rw[ap];exact hZ ((Chg.refl w []).alloc _)
 have bh:Hid (Ac w0 w.heap.size [nI nX s.sort,.bool s.flag,nI .u64 s.bits,nG s.text,nI nX s.count,nS ka J kc] 106):=by rw[ap];exact hZ (Ac.new w _ _)
 have cl:w0.heap.size=w.heap.size+1:=by rw[ap];simp
 obtain⟨z1,z2,z3,z4,z5,z6,z7,z8⟩:=Ac.cells6 bh.o;have dy:=a.count;obtain⟨bU,hU⟩:=Ue (Bs s.sort s.flag s.bits s.text s.count J);obtain⟨bF,aC⟩:=Ue (Fl.Fh s.bits);obtain⟨bT,hT⟩:=Ue (Utf.Al s.text);obtain⟨bK,ak⟩:=Ue (s.keys.all Utf.Al);obtain⟨bD,P⟩:=Ue (!decide s.keys.Nodup)
 have r:Hid (aI s ka J kc w0 w.heap.size bF bT bK bD):=Lib.hid
  {cells:=fun c h=>bh.o.kept h
   fin:=fun c=>by rw[aC];exact MM s.bits a.bits c
   text:=fun c=>by rw[hT];exact Ii s.text c a.text
   keys:=fun c h=>by rw[ak,A];exact Ov (fun _=>True) _ s.keys c (by rw[<-A];exact(an c (m.o.trans h)).rowAt) a.size (by have:=a.keys;omega)
   twice:=fun Z c h=>by rw[P,A];exact Ow s.keys _ c (by have:=an c (m.o.trans h);rwa[A]at this) (fun x hx=>⟨List.all_eq_true.1 (ak.symm.trans Z) x hx,a.size x hx⟩) (by have:=a.keys;omega)}
 have ad:=UD (Ds s l=true↔((bU=true/\(s.sort=3->bF=true)/\bT=true/\bK=true/\bD=false)/\Hn s<=l.length)/\(Ag (AF s l)).within=true) (by
  unfold Ds;rw[Bool.and_eq_true,Bool.and_eq_true,decide_eq_true_eq,CU,hU,aC,hT,ak,P,A]
  simp)
 have bt:=UD (bU=true->_) fun h=>Gw (s:=s) (by rw[<-A,<-hU];exact h);have HW:=hZ ap;have cI:=UD (Hn s=s.count.toNat+J) (by rw[A];rfl);have df:=a.keys;have HX:=hZ hX;have HV:=hZ hV;have S:=hZ hF;have HO:=hZ hO;have cD:=hZ an;have HB:=hZ a;have cA:=hZ hf;have HU:=hZ hU.symm;have U:=hZ A;have bk:=hZ ak;have bn:=hZ P;have cz:=hZ aC;have cP:=hZ hT;have cW:=hZ cl;have dk:xs.length=l.length*6:=by rw[hV.length];omega
 have dc:=hX.capLe;rw[<-A]at df;clear hX hV hF hO an a hf hU aC hT ak P ap hK di cl A;obtain⟨ti,cd,_⟩:=info_parts Dp;have cT:=UD (∀u∈xs,u.oneCell'=true) (Aq.ones HV.o);go_enter func61,ntmps61;go_upto_region 1 with(fail);rw[<-HW.o]
 go_upto_if 11 with(go_at_call 88;refine(CM s.sort s.flag s.bits s.text s.count ka J kc _).mono ?_;rintro e w1 ⟨rfl,d⟩;rw[HU.o];have au:=UD (Chg w0 w1 []) d;obtain⟨a1,a2,a3,a4,a5,a6,a7,a8⟩:=Ac.cells6 (r.o.cells _ d);clear d);cases bU
 .go_wp2_with fail;go_ret2;exact Kz (fun h=>by have:=ad.o.1 h;simp at this) ZM (m.o.trans au.o)
 obtain⟨b9,cc,bI,C,Y,E,bJ,bN⟩:=bt.o rfl;have t:=hZ (And.intro b9 (And.intro cc (And.intro C (And.intro Y (And.intro E (And.intro bJ bN))))));have aM:=hZ bI;clear b9 cc bI C Y E bJ bN bt;obtain⟨b2,bG⟩:=Ue ((s.sort==3&& !bF));have aK:=hZ bG;clear bG;go_upto_region 3 with fail;go_cut [21]from 9 (fun dm c=>dm= .bool b2/\Chg w0 c [])
 case first=>
  cases d3:(s.sort==3)
  all_goals
   go_wp2_with(go_at_call 89;refine(r.o.fin _).mono ?_;rintro e w2 ⟨rfl,a⟩;have bM:=au.o.trans a;obtain⟨b1,bv,b3,b4,b5,b6,b7,b8⟩:=Ac.cells6 (r.o.cells _ bM));go_meet;exact⟨by rw[aK.o,d3];rfl,by first|exact bM|exact au.o⟩
 case rest=>
  obtain⟨rfl,d⟩:=hcut;obtain⟨w2,ch⟩:=Ue wc;rw[<-ch]at d|-;have av:=hZ d;obtain⟨b1,bv,b3,b4,b5,b6,b7,b8⟩:=Ac.cells6 (r.o.cells _ d);clear ch d a1 a2 a3 a4 a5 a6 a7 a8 au;cases b2
  rotate_left
  .go_wp2_with fail;go_ret2
   exact Kz (fun h=>by
    have y:=aK.o.symm;simp only[Bool.and_eq_true,beq_iff_eq,Bool.not_eq_true']at y;have z:=(ad.o.1 h).1.1.2.1 y.1
    rw[y.2]at z;cases z) ZM (m.o.trans av.o)
  cases bT
  .go_wp2_with(go_at_call 90;refine(r.o.text _).mono ?_;rintro e w3 ⟨rfl,rfl⟩);go_ret2;exact Kz (fun h=>by have:=ad.o.1 h;simp at this) ZM (m.o.trans av.o)
  go_upto_if 32 with(first
   |(go_at_call 90;refine(r.o.text _).mono ?_;rintro e w3 ⟨rfl,rfl⟩)
   |(go_at_call 91;refine(r.o.keys _ av.o).mono ?_;rintro e w4 ⟨rfl,hc⟩;have aw:=hZ (av.o.trans hc);obtain⟨c1,c2,c3,c4,c5,c6,c7,c8⟩:=Ac.cells6 (r.o.cells _ aw.o);clear hc b1 bv b3 b4 b5 b6 b7 b8))
  cases bK
  .go_wp2_with fail;go_ret2;exact Kz (fun h=>by have:=ad.o.1 h;simp at this) ZM (m.o.trans aw.o)
  go_upto_if 36 with(go_at_call 92;refine(r.o.twice rfl _ aw.o).mono ?_;rintro e w5 ⟨rfl,hd⟩;have ag:=hZ (aw.o.trans hd);obtain⟨d1,d2,d3,d4,d5,d6,d7,d8⟩:=Ac.cells6 (r.o.cells _ ag.o);clear hd c1 c2 c3 c4 c5 c6 c7 c8);cases bD
  rotate_left
  .go_wp2_with fail;go_ret2;exact Kz (fun h=>by have:=ad.o.1 h;simp at this) ZM (m.o.trans ag.o)
  obtain⟨N,X⟩:=Ue (Hn s);have dx:s.count+(J:Int)=(N:Int):=by rw[X,cI.o];have:=aM.o;omega
  have db:N<=9223372036854775807:=by
   have y:=t.o.2.2.2.2.2.1;have z:=t.o.2.2.2.2.2.2;have n:=aM.o;by_cases g:s.count=0
   .omega
   .have:s.keys=[]:=Decidable.byContradiction fun g2=>by have:=y g;have:=z g2;omega
    have:=U.o;rw[‹s.keys=[]›]at this;simp only[List.length_nil]at this;omega
  have z9:IntKind.i64.wrap (N:Int)=(N:Int):=by rw[IntKind.wrap_i64];omega
  have HN:=hZ X;by_cases hn:¬N<=l.length
  .have dp:(l.length:Int)<(N:Int):=by omega
   have ax:=UD (¬Hn s<=l.length) (by rw[<-X];exact hn);clear X hn;go_wp2_with fail;go_ret2;exact Kz (fun h=>ax.o (ad.o.1 h).1.2) ZM (m.o.trans ag.o)
  have hn:N<=l.length:=Zj;obtain⟨D,P⟩:=Ue (l.length-N);have c0:l.length-D=N:=Zj;have dw:(l.length:Int)-(N:Int)=(D:Int):=Zj;have dr:=hZ P;have dZ:IntKind.i64.wrap (D:Int)=(D:Int):=IntWalk.i64_in _ Zj;have dp:(N:Int)<=(l.length:Int):=Zj;have dq:D<=l.length:=Zj;have eh:l.length<=rc:=dc.2;have eb:D<=rc:=Zj;have ed:(D:Int)<=(rc:Int):=Zj;have ef:(0:Int)<=(D:Int):=Zj
  have bo:=UD (Kw s=true) (CU.2 ⟨by rw[<-U.o];exact HU.o,fun h=>by
   have z:=aK.o;rw[h]at z;rw[<-cz.o]
   simpa using z.symm,cP.o.symm,bk.o.symm,by simpa using bn.o.symm⟩)
  have aN:=UD (D=l.length-Hn s) (by rw[P,X]);have ax:=UD (Hn s<=l.length) (by rw[<-X];exact hn);have bj:=UD (Ds s l=(Ag (AF s l)).within) (by unfold Ds;rw[bo.o,decide_eq_true ax.o];rfl);clear X hn P db;go_upto_region 13 with(fail);obtain⟨wq,aq⟩:=Ue (w5.alloc (nC #[nI nX s.sort,.bool s.flag,nI .u64 0,nG s.text,nS nN 0 0,nS nN 0 0] 29))
  have HQ:Hid (Ac wq w5.heap.size (vC s.sort s.flag 0 s.text (nS nN 0 0) (nS nN 0 0)) 29):=by rw[aq];exact hZ (Ac.new w5 _ _)
  have aO:Hid (Chg w0 wq []):=by rw[aq];exact hZ (ag.o.alloc _)
  have aG:wq.heap.size=w5.heap.size+1:=by rw[aq];simp
  have ba:w0.heap.size<=w5.heap.size:=ag.o.size;rw[<-aq];obtain⟨q,hq⟩:=Ue w5.heap.size;rw[<-hq]at HQ aG ba|-;have cM:=hZ aG;have ay:=hZ ba;obtain⟨q1,q2,cm,cn,co,cp,cq,cr⟩:=Ac.cells6 HQ.o;obtain⟨s1,s2,cs,ct,cu,cv,cw,cx⟩:=Ac.cells6 (r.o.cells _ aO.o);clear aq hq aG ba;obtain⟨O,bH⟩:=Ue ((if s.sort=3 then(Cg s.bits:Int)else 0):Int);have ae:=hZ bH;clear bH;go_upto_if 58 with fail;go_cut [8]from 9 (fun _ c=>Ac c q (vC s.sort s.flag O s.text (nS nN 0 0) (nS nN 0 0)) 29/\Chg w0 c [])
  case first=>
   by_cases n:s.sort=3
   .have d3:(s.sort==3)=true:=by simp[n]
    have HE:=UD (vC 3 false (Cg s.bits) ⟨#[]⟩ (nS nN 0 0) (nS nN 0 0)=vC s.sort s.flag O s.text (nS nN 0 0) (nS nN 0 0)) (by
     have y:=t.o.2.2.1;have z:=t.o.2.2.2.2.1
     have hf:s.flag=false:=by cases h:s.flag with
      |false=>rfl
      |true=>have:=y h;omega
     have ht:s.text=Dz:=Decidable.byContradiction fun h=>by have:=z h;omega
     rw[ae.o,Qr n,n,hf,ht];rfl)
    clear n
    go_wp2_with(first
     |(go_at_call 93;refine(YM s.bits _).mono ?_;rintro e w6 ⟨rfl,a0⟩;rw[Vd HB.o.bits];have cB:=hZ a0;have cK:=hZ (HQ.o.kept a0);clear a0)
     |(refine uO (ds:=vC 3 false (Cg s.bits) ⟨#[]⟩ (nS nN 0 0) (nS nN 0 0)) cK.o xQ ?_;intro p aL af))
    go_meet;exact⟨by rw[<-HE.o];exact aL.o,(aO.o.trans cB.o).step af.o (fun i hi aE=>by simp at hi;have:=ay.o;omega)⟩
   .have d3:(s.sort==3)=false:=by simp[n]
    have HE:=UD (O=0) (by rw[ae.o,Qs n]);clear n;go_wp2_with fail;go_meet;exact⟨by rw[HE.o];exact HQ.o,aO.o⟩
  case rest=>
   obtain⟨hq,d⟩:=hcut;obtain⟨p,cj⟩:=Ue wc;rw[<-cj]at hq d|-;have aS:=hZ hq;have ab:=hZ d;clear hq d cj q1 q2 cm cn co cp cq cr s1 s2 cs ct cu cv cw cx HQ;have aG:q<p.heap.size:=aS.o.lt;obtain⟨q1,q2,cm,cn,co,cp,cq,cr⟩:=Ac.cells6 aS.o;obtain⟨s1,s2,cs,ct,cu,cv,cw,cx⟩:=Ac.cells6 (r.o.cells _ ab.o);go_upto_region 15 with(fail);go_cut [8]from 9 (fun s8 c=>∃(K:Option Addr) (R:Nat) (us:List Vl) (o:Nat->Prop),s8= nS K N R/\As c (nS K N R) 6 N us/\LP c o K us/\Aq c o (l.drop D) us/\(∀b,o b->b<c.heap.size)/\(∀b,o b->F b\/p.heap.size<=b)/\Chg p c [])
   case first=>
    have cf:=Aq.kept ((m.o.trans ab.o).keepsF S.o) (fun _ h=>h) _ _ (HV.o.split D).2;have cQ:=hZ cf;have aJ:w.heap.size<=p.heap.size:=(m.o.trans ab.o).size;have bu:=hZ (HX.o.kept (m.o.trans ab.o));clear cf;by_cases aF:N=0
    .have bL:l.drop D=[]:=List.drop_of_length_le Zj;have bi:=hZ bL;have cZ:D=l.length:=Zj;clear bL;subst aF;subst cZ;have ej:l.length-l.length=0:=Zj;rcases Decidable.em (rc=l.length)with b0|b0
     .subst b0;exact xL
     .skip
      exact xL
    .have dg:0<N:=by omega
     obtain⟨a',c',e',bE⟩:=bu.o.form;injection e' with e1 _ e3
     subst e1;subst e3;obtain⟨g,rfl⟩:=bE Zj;have ce:(xs.drop (D*6)).length=N*6:=by rw[Qm,dk];omega
     have bY:∀u∈xs.drop (D*6),u.oneCell'=true:=fun u G=>cT.o u (List.mem_of_mem_drop G);have cS:=UD (∀j v,(xs.drop (D*6))[j]? =nM v->(p.alloc (nC #[] 29)).cell? ⟨g,D*6+j,nN⟩=nM v) fun j v hv=>((Chg.refl p []).alloc _).keeps (bu.o.cell rfl _ v (by rw[<-List.getElem?_drop];exact hv));have aT:=hZ ce;have cJ:=hZ bY;have ek:¬rc=D:=Zj;clear bE ce bY aF
     go_wp2_with(first
      |(at_builtin;go_loud(refine Er rfl _ _ _ rfl 29 NP 6 88 ZM underlying26 Dp rfl _ 0 [] ZN (by exact Z2 p _ 6) g (D*6) N (rc-D) (xs.drop (D*6)) ZN dg aT.o cS.o cJ.o Zj Zj ?_;intro g3 cX w3 bA cY c9)))
     go_meet
     have dz:p.heap.size<=g3:=by
      rcases c9 with h|h
      .have:p.heap.size=g3:=(by injection h);omega
      .simp at h;omega
     have aZ:Chg p w3 []:=Chg.own (sv:= nS nN 0 0) ((Chg.refl p []).alloc _) cY (fun g d=>by cases d) (fun g d=> .inr (by have:p.heap.size=g:=(by injection d);omega));rw[List.nil_append]at bA;have aU:Ba w3 (nS (nM ⟨g3,0,nN⟩) N cX) 29 6 N (xs.drop (D*6)):=by simpa using bA
     refine⟨_,_,xs.drop (D*6),fun b=>F b\/b=g3,Zh,aU.rowC aT.o,aU.rowN aT.o (fun g d=>by simp[Vl.ownBlock]at d;exact .inr d.symm), ?_, ?_, ?_,aZ⟩
     .have:=Aq.kept (aZ.keepsF (fun b a=>Q6 (S.o b a) aJ)) (fun b a=>(.inl a:F b\/b=g3)) _ _ cQ.o;rwa[Nat.mul_comm]at this
     .rintro b (a|a)
      .have:=S.o b a;have:=aZ.size;omega
      .subst a;exact aU.lt rfl
     .rintro b (a|a)
      .exact .inl a
      .exact .inr Zj
   case rest=>
    obtain⟨K,R,us,o,rfl,aX,aW,aY,aV,bC,al⟩:=hcut;obtain⟨L,bc⟩:=Ue wc;rw[<-bc]at aX aW aY aV al|-;have az:=hZ (aS.o.kept al);have ah:=hZ (ab.o.trans al);obtain⟨dl,dI,dC,dD,dE,dF,dG,dH⟩:=Ac.cells6 az.o;obtain⟨dJ,dQ,dK,dL,dM,dN,dO,dP⟩:=Ac.cells6 (r.o.cells _ ah.o);have bq:=hZ aX;have cO:=hZ aW;have br:=hZ aY;have ai:=hZ aV;have aA:=hZ bC;have cN:=hZ al
    have bZ:¬o q:=fun h=>by
     have y:=cM.o;have z:=ay.o;have n:=cW.o;rcases aA.o q h with h4|h4
     .have:=S.o q h4;omega
     .omega
    have bp:=hZ bZ;have aJ:w.heap.size<=p.heap.size:=(m.o.trans ab.o).size;clear aX aW aY aV bC al bc bZ;have dj:s.sort=5\/s.sort=6\/s.sort≠5/\s.sort≠6:=Zj;rcases dj with I|W|⟨I,W⟩
    focus
     have n:¬s.sort=3:=Zj;have da:s.keys=[]:=Decidable.byContradiction fun g=>by have:=t.o.2.2.2.2.2.2 g;omega
     have C:s.flag=false:=by
      cases h:s.flag with
      |false=>rfl
      |true=>have:=t.o.2.2.1 h;omega
     have E:s.text=Dz:=Decidable.byContradiction fun h=>by have:=t.o.2.2.2.2.1 h;omega
     have V:Hid (AF s l= .list (l.drop D)/\s.sort=5/\s.flag=false/\s.text=Dz/\O=0):=by
      unfold Hid AF CF;rw[<-aN.o,Qs Zj,Qs Zj,Qs n,Qs Zj,Qr I];exact⟨rfl,I,C,E,by rw[ae.o,Qs n]⟩
     have d5:(s.sort==5)=true:=by simp[I]
     have d6:(s.sort==6)=false:=by simp[I]
     clear I n da C E;go_upto_region 20 with(fail);obtain⟨f,Q⟩:=Ue (L.setCell ⟨q,4,nN⟩ (nS K N R))
     rw[<-Q];have aD:Chg L f [q]:=by rw[Q];exact(Chg.refl _ _).setCell _ _ Zh
     have T:=UD (Chg w0 f []) (ah.o.step aD (fun i hi aE=>by simp at hi;have:=ay.o;omega));have M:Hid (Ac f q (vC s.sort s.flag O s.text (nS K N R) (nS nN 0 0)) 29):=by rw[Q];exact hZ ((az.o.set 4 _).eq rfl)
     have aa:=UD (∀b,o b->b<f.heap.size) fun b a=>Q6 (ai.o b a) aD.size;have ar:=UD (∀b,o b->F b\/w.heap.size<=b) fun b a=>(aA.o b a).imp_right fun h=>Zj
     have B:Hid (AL f o (AF s l) (vC s.sort s.flag O s.text (nS K N R) (nS nN 0 0))):=by
      have Z:BZ o L f:=aD.keepsF ai.o (fun b a h=>by simp at a;subst a;exact bp.o h);unfold Hid;rw[V.o.1,V.o.2.1,V.o.2.2.1,V.o.2.2.2.1,V.o.2.2.2.2];simp only[AL];refine⟨K,R,nN,0,us, ?_,cO.o.kept Z (fun _ h=>h),Aq.kept Z (fun _ h=>h) _ _ br.o,by obtain⟨_,_,e,z,_⟩:=bq.o.form;injection e with _ _ e;rw[Qm];omega⟩;rw[Qm,show l.length-D=N from c0]
     clear Q aD;obtain⟨H,aj⟩:=Ue o;rw[<-aj]at aa ar B
    rotate_left
    focus
     have n:¬s.sort=3:=Zj;have dd:s.count=0:=Decidable.byContradiction fun g=>by have:=t.o.2.2.2.2.2.1 g;omega
     have cG:Hid (AF s l=D1 s.keys (l.drop D)):=by
      unfold Hid AF CF;rw[<-aN.o,Qs Zj,Qs Zj,Qs n,Qs Zj,Qs Zj]
     have aR:=UD (N=J) (by have:=aM.o;omega);have d5:(s.sort==5)=false:=by simp[W]
     have d6:(s.sort==6)=true:=by simp[W]
     clear W n dd
     have cH:=UD (∀c,Chg L c []->Cl prog 94 #[nS ka J kc,nS K N R] c (PR o s.keys (l.drop D) c)) fun c h=>by
      have bO:s.keys.length=(l.drop D).length:=by rw[Qm,<-U.o];have:=aR.o;omega
      refine Xz o s.keys (l.drop D) _ _ us c ?_ ?_ (Aq.kept (h.keepsF ai.o) (fun _ h=>h) _ _ br.o) (fun b a=>Q6 (ai.o b a) h.size) (fun k Z=>⟨List.all_eq_true.1 bk.o.symm k Z,HB.o.size k Z⟩) (by simpa using bn.o.symm) bO (by rw[<-U.o];have:=aR.o;omega)
      .rw[<-U.o];exact cD.o c ((m.o.trans ah.o).trans h)
      .rw[<-bO,<-U.o,<-aR.o];exact bq.o.kept h
     go_upto_region 20 with(first
      |(go_at_call 94;refine(cH.o _ cR).mono ?_;rintro e wm ⟨H,dv,rfl,bP,bQ,bR,ao,a9⟩;unfold D1 at ao;have bS:=ao;simp only[AL]at bS;obtain⟨bf,bg,bd,be,dR,rfl,_⟩:=bS;obtain⟨n1,bW⟩:=Ue ((LA s.keys (l.drop D)).length);obtain⟨n2,bX⟩:=Ue ((AY s.keys).length);rw[<-bW,<-bX]at ao|-;rw[Jy];clear bW bX;have dt:=hZ bP;have bl:=hZ bQ;have bm:=hZ bR;have cF:=hZ ao;have V:=hZ a9;have cL:=hZ (az.o.kept a9);clear bP bQ bR ao a9)
      |(refine uO (ds:=vC 6 false 0 Dz (nS bf n1 bg) (nS bd n2 be)) cL.o xQ ?_;intro f aL af))
     have T:=UD (Chg w0 f []) ((ah.o.trans V.o).step af.o (fun i hi aE=>by simp at hi;have:=ay.o;omega));have M:=UD (Ac f q (vC 6 false 0 ⟨#[]⟩ (nS bf n1 bg) (nS bd n2 be)) 29) (aL.o.eq rfl);have dh:q<L.heap.size:=dl;have aa:=UD (∀b,H b->b<f.heap.size) fun b a=>Q6 (bm.o b a) af.o.size;have bc:p.heap.size<=L.heap.size:=cN.o.size
     have ar:=UD (∀b,H b->F b\/w.heap.size<=b) fun b a=>by
      by_cases aE:b<L.heap.size
      .exact(aA.o b (bl.o b a aE)).imp_right fun h=>Zj
      .exact .inr Zj
     have B:Hid (AL f H (AF s l) (vC 6 false 0 ⟨#[]⟩ (nS bf n1 bg) (nS bd n2 be))):=by
      unfold Hid;rw[cG.o];exact AL.kept (af.o.keepsF bm.o (fun b a h=>by simp at a;subst a;exact bp.o (bl.o _ h dh))) (fun _ h=>h) _ _ cF.o
    rotate_left
    focus
     have h8:s.count=0:=Decidable.byContradiction fun g=>I (t.o.2.2.2.2.2.1 g);have h9:s.keys=[]:=Decidable.byContradiction fun g=>W (t.o.2.2.2.2.2.2 g);have aF:N=0:=by have y:=U.o;rw[h9]at y;simp only[List.length_nil]at y;omega
     have Y:s.sort≠3->O=0:=fun g=>by rw[ae.o,Qs g]
     have C:s.sort≠2->s.flag=false:=fun g=>by cases h:s.flag with
      |false=>rfl
      |true=>exact absurd (t.o.2.2.1 h) g
     have E:s.sort≠4->s.text=Dz:=fun g=>Decidable.byContradiction fun h=>g (t.o.2.2.2.2.1 h);have bw:s.sort=1\/s.sort=2\/s.sort=3\/s.sort=4:=by have:=t.o;omega
     have B:Hid (AL L o (AF s l) (vC s.sort s.flag O s.text (nS nN 0 0) (nS nN 0 0))):=by
      unfold Hid AF CF;rcases bw with g|g|g|g
      .rw[Qr g,g,C Zj,Y Zj,E Zj];exact xR
      .rw[Qs Zj,Qr g,g,Y Zj,E Zj];exact xR
      .rw[Qs Zj,Qs Zj,Qr g,ae.o,Qr g,g,C Zj,E Zj];exact xR
      .rw[Qs Zj,Qs Zj,Qs Zj,Qr g,g,C Zj,Y Zj];exact xR
     have d5:(s.sort==5)=false:=by simp[I]
     have d6:(s.sort==6)=false:=by simp[W]
     clear h8 h9 aF Y C E bw I W;go_upto_region 20 with(fail);obtain⟨f,Q⟩:=Ue L
     obtain⟨H,aj⟩:=Ue o;have aa:=UD (∀b,H b->b<f.heap.size) (by rw[Q,aj];exact ai.o);have ar:=UD (∀b,H b->F b\/w.heap.size<=b) (by rw[aj];exact fun b a=>(aA.o b a).imp_right fun h=>Zj);have T:=ah;have M:=az;rw[<-Q]at T M B|-;rw[<-aj]at B;clear Q
    rotate_left
    all_goals
     obtain⟨so,fl,bb,tx,sa,na,ca,sb,nb,cb,M,B⟩:∃so fl bb tx sa na ca sb nb cb,Hid (Ac f q (vC so fl bb tx (nS sa na ca) (nS sb nb cb)) 29)/\Hid (AL f H (AF s l) (vC so fl bb tx (nS sa na ca) (nS sb nb cb))):=⟨_,_,_,_,_,_,_,_,_,_,M,B⟩;unfold vC at M B;have bV:=Iy (s:=s) cA.o hl HB.o bo.o ax.o;have aQ:=hZ bV;have dA:w0.heap.size<=f.heap.size:=T.o.size;have ck:=(HX.o.popK D dq).kept (m.o.trans T.o);have cU:=hZ ck
     have aB:=UD (∀c,Chg f c []->Cl prog 95 #[nA ([nI nX so,.bool fl,nI .u64 bb,nG tx,nS sa na ca,nS sb nb cb]:List Vl).toArray] c fun e w'=>e= nR (.bool (Ag (AF s l)).within)/\Chg c w' []) fun c h=>
      Ex (AF s l) H _ c aQ.o.1 aQ.o.2.1 aQ.o.2.2 (AL.kept (h.keepsF aa.o) (fun _ h=>h) _ _ B.o) (fun b a=>Q6 (aa.o b a) h.size)
     obtain⟨y1,y2,dS,dT,dU,dV,dW,dX⟩:=Ac.cells6 M.o;clear bV ck;by_cases aH:(Ag (AF s l)).within=true
     .rw[aH]at aB;go_upto_region 22 with(first|(go_at_call 95;refine(aB.o _ xS).mono ?_;rintro e wz ⟨rfl,am⟩;have aP:=hZ am;have cV:=hZ (M.o.kept am);obtain⟨dY,ei,d0,d9,ea,ec,ee,eg⟩:=Ac.cells6 cV.o;clear am))
      go_region_law(first
       |(go_loud(refine Bw rfl _ _ _ rfl 29 NP 6 88 ZM underlying26 Dp rfl (nS ra D rc) D (xs.take (D*6)) ZN (by exact(cU.o.kept aP.o).kept (bs:=[]) xS Zh) wz.heap.size [nI nX so,.bool fl,nI .u64 bb,nG tx,nS sa na ca,nS sb nb cb] ZN ZN (by exact Cm _ _ _) (by intro u G;simp only[Qh,List.not_mem_nil,or_false]at G;rcases G with rfl|rfl|rfl|rfl|rfl|rfl<;>rfl) Zj Zj ?_;intro g8 du w8 bB bx bz;have cE:=hZ bB;have cy:=hZ bx;have cC:=hZ bz;clear bB bx bz)))
      all_goals
       go_wp2_with fail;go_ret2;have dB:=aP.o.size
       exact IC (bj.o.trans aH) HX.o HV.o S.o HO.o aN.o (m.o.trans T.o) B.o aa.o ar.o cE.o (((aP.o.alloc _).drew.none _).trans cy.o) (by
        rcases cC.o with h|h
        .exact .inl h
        .simp at h;exact .inr Zj)
     .have ci:(Ag (AF s l)).within=false:=by simpa using aH
      rw[ci]at aB;clear aH;go_wp2_with(first|(go_at_call 95;refine(aB.o _ xS).mono ?_;rintro e wz ⟨rfl,am⟩));go_ret2;exact Kz (by rw[bj.o,ci];decide) ZM ((m.o.trans T.o).trans am)
theorem xO(h:p:=by
 have j:a[p]?.getD undef= nP (nM ⟨g,0,nN⟩):=by simpa using i
 have k:=run_loadVar_row (P:=P) w g T b cs.toArray (0,0) d e l f (by simpa using hi);simp[results,h,j,asAddr,k]):p:=h
theorem DN{P:Program}{c:Func}{p:Tmp}{b:Ti}(h:c.results=#[.cell p b,.tmp q,.tmp r])(a:Array Vl)(w:Wl)(g:Nat)(T:Ti)(cs:List Vl)(d:TypeDesc)(i:a.getD p undef= nP (nM ⟨g,0,nN⟩))(e:Ac w g cs T)(l:P.underlying b=nM d)(f:(match d with| .struct _| .array _ _=>true|_=>false)=true)(hi:(P.info? b).map (·.size)=nM cs.length):
  (results c a).run P w= .ok (nT #[nA cs.toArray,a.getD q undef,a.getD r undef]) w:=by
 exact xO
theorem uR{b:Func}{p:Tmp}{a:Array Vl}{T:Ti}(d:Ac w g cs T)(h:b.results=#[.cell p T,.tmp q,.tmp r]:=by rfl)[c:Nonempty (vG T)](e:cs.length=vH T:=by rfl)(i:a.getD p undef= nP (nM ⟨g,0,nN⟩):=by rfl):(results b a).run prog w= .ok (nT #[nA cs.toArray,a.getD q undef,a.getD r undef]) w:=by
 obtain⟨⟨⟨f,j⟩,hi⟩⟩:=c;exact DN h a w g T cs _ i d j rfl (by rw[e];exact hi)
def zV:List Vl:=[nI nX 0,.bool false,nI .u64 0,nG ⟨#[]⟩,nS nN 0 0,nS nN 0 0]
def Eu(l:List Ap)(w:Wl)(e:Ending)(w':Wl):Prop:=
 (match(if l.length<=65536 then CA l else nN)with
  |some t=>∃(F:Nat->Prop) (cs:List Vl),e= nR (nT #[nA cs.toArray,nI nX 0,nI nX 0])/\AL w' F t cs/\(∀b,F b->w.heap.size<=b/\b<w'.heap.size)/\(Ag t).within=true
  |none=>∃(k a:Int),k≠0/\e= nR (nT #[nA zV.toArray,nI nX k,nI nX a]))/\Chg w w' []
theorem xM(h:p:=by intro u n;simp only[zV,Qh,List.not_mem_nil,or_false]at n;rcases n with rfl|rfl|rfl|rfl|rfl|rfl<;>rfl):p:=h
theorem Vo(l:List Ap)(sl:Vl)(xs:List Vl)(w:Wl)(Z:As w sl 6 l.length xs)(hS:Az w l xs)(q:∀s∈l,Di s)(hl:l.length<=4294967296):
  Cl prog 37 #[sl] w (Eu l w):=by
 obtain⟨a,c,rfl,aW,_⟩:=Z.form;have HR:=hZ Z;have HS:=hZ hS;have HB:=hZ q;obtain⟨w0,L⟩:=Ue (w.alloc (nC #[nI nX 0,.bool false,nI .u64 0,nG ⟨#[]⟩,nS nN 0 0,nS nN 0 0] 29));have U:Hid (Ac w0 w.heap.size zV 29):=by rw[L];exact hZ (Ac.new w _ _)
 have G:Hid (Chg w w0 []):=by rw[L];exact hZ ((Chg.refl w []).alloc _)
 have aC:w0.heap.size=w.heap.size+1:=by rw[L];simp
 have HZ:=hZ aC;have HW:=hZ L;clear Z hS q L aC;by_cases K:l.length<=65536
 .go_enter func37,ntmps37;go_wp2_with fail;rw[<-HW.o];go_loopw [5,6] (fun v5 v6 wr=>∃(i:Nat) (row:List Tr) (F:Nat->Prop),i<=l.length/\v6= nI nX i/\DS [] (l.take i)=nM row/\Zk wr F v5 row/\Chg w0 wr []/\(∀g,v5.ownBlock=nM g->w0.heap.size<=g)/\∀b,F b->w0.heap.size<=b) (fun _ v6 _=>l.length-(intOf v6).toNat)
  case atStart=>exact⟨0,[],fun _=>False,Zj,rfl,by simp[DS],⟨[],Ba.nil _ _ _,by simp[Aq],fun _ h=>h.elim,fun g m=>by cases m⟩,Chg.refl _ _,fun g m=>(by cases m),fun _ h=>h.elim⟩
  case round=>
   obtain⟨B,rfl⟩:=Ue wr;obtain⟨i,row,F,hi,rfl,y,ax,m,ho,aq⟩:=hrel;have T:=hZ aq;have ab:=Jq (row:=[]) (fun _ h=>by cases h) y;have af:row.length<=65536:=by have:=ab.2;rw[Ql]at this;simp at this;omega
   have z:=hZ m;have X:=hZ y;have W:=hZ ax;have HO:=hZ ho;have S:=hZ ab.1;have Y:=U.o.kept m;have V:=hZ Y;obtain⟨x1,x2,aP,aQ,aR,aS,aT,aU⟩:=Ac.cells6 Y;obtain⟨xr,A,_,_,_⟩:=ax;obtain⟨ra,rc,rfl,_⟩:=A.form;have aM:=A.capLe.2;clear y m ho ab A Y aq;by_cases ar:i<l.length
   .obtain⟨s,J⟩:∃s,l[i]? =nM s:=⟨_,Q9 ar⟩;have O:s∈l:=Qi J;obtain⟨sk,ah,ag⟩:=HS.o.get i s J;obtain⟨b,o,rfl,aa⟩:=HR.o.base Zj ZM
    have d:∀j v,(AI s sk)[j]? =nM v->B.cell? ⟨b,o+i*6+j,nN⟩=nM v:=fun j v hv=>by
     rw[Nat.add_assoc];exact(G.o.trans z.o).keeps (aa _ v (ag j v hv))
    have c0:=d 0 _ rfl;have c1:=d 1 _ rfl;have c2:=d 2 _ rfl;have c3:=d 3 _ rfl;have c4:=d 4 _ rfl;have c5:=d 5 _ rfl;rw[Nat.add_zero]at c0;have N:=ah.kept (G.o.trans z.o);by_cases I:Ds s row=true
    .have ae:=KE X.o J;rw[Qr I]at ae;have R:=UD (Cl prog 61 #[nS ra row.length rc,nA #[nI nX s.sort,.bool s.flag,nI .u64 s.bits,nG s.text,nI nX s.count,sk]] B (Y5 F (NW row s) (nS ra row.length rc) B)) ((uQ row F _ s sk B W.o N (HB.o s O) S.o af).mono fun e w' h=>by unfold GE at h;rwa[Qr I]at h);have aG:=hZ ae;clear ae I J O ah ag aa d N;go_wp2_with(first|(go_at_call 61;refine R.o.mono ?_;rintro e w3 ⟨⟨aZ,F3,rfl,al,ak,aj⟩,H⟩;have aD:=hZ aj;have aJ:=hZ al;have aH:=hZ ak;have Q:=hZ H;clear al ak H aj));go_roundw
     case rel=>
      refine⟨i+1,NW row s,F3,Zj,by go_num,aG.o,aJ.o,z.o.step Q.o (fun k x ar=>by have:=HO.o k (by simpa using x);omega),fun g m=> ?_,fun g m=> ?_⟩
      .rcases aH.o g m with h|h
       .exact HO.o g h
       .exact Q7 z.o.size h
      .exact(aD.o g m).elim (T.o g) (fun h=>Q7 z.o.size h)
     case measure=>simp[intOf];omega
    .have ao:Ds s row=false:=by simpa using I
     have aw:=Oz X.o J ao;have f:(if l.length<=65536 then CA l else nN)=nN:=by rw[Qr K];unfold CA;rw[aw]
     have C:=hZ f;have R:=UD (Cl prog 61 #[nS ra row.length rc,nA #[nI nX s.sort,.bool s.flag,nI .u64 s.bits,nG s.text,nI nX s.count,sk]] B (Wf B)) ((uQ row F _ s sk B W.o N (HB.o s O) S.o af).mono fun e w' h=>by unfold GE at h;rwa[Qs I]at h);clear aw f I ao J O ah ag aa d N
     go_wp2_with(first
      |(go_at_call 61;refine R.o.mono ?_;rintro e w3 ⟨⟨v3,k3,ad,rfl⟩,H⟩;have aF:=hZ ad;have aY:(k3==0)=false:=(by rw[Qq];exact ad);have aI:=hZ (V.o.kept H);have Q:=hZ H;clear H ad)
      |(refine Ae rfl _ _ _ rfl w.heap.size zV ZN ZN _ _ aI.o A9 rfl xM ?_;intro w9 E D p;clear E))
     refine bodyPost_ret (uR D) rfl ?_;unfold Eu;rw[C.o];exact⟨⟨_,_,aF.o,rfl⟩,((G.o.trans z.o).trans Q.o).fresh p (fun k x=>by simp at x;omega)⟩
   .obtain rfl:i=l.length:=by omega
    have y:=X.o;rw[Qn (Q8 _)]at y;by_cases M:row.length=1
    .obtain⟨t,rfl⟩:∃t,row=[t]:=by
      match row,M with
      |[t],_=>exact⟨t,rfl⟩
     have f:(if l.length<=65536 then CA l else nN)=nM t:=by rw[Qr K];unfold CA;rw[y]
     have C:=hZ f;obtain⟨xr,A,aB,aA,aO⟩:=W.o;obtain⟨a',c',e',am⟩:=A.form;injection e' with e1 _ e3
     subst e1;subst e3;obtain⟨g,rfl⟩:=am Zh;simp only[Aq]at aB;obtain⟨cs,r,rfl,P,rfl⟩:=aB;have aN:=P.uni;obtain⟨la,lc,ka,kc,a0,rfl,_⟩:=aN;obtain⟨so,ay⟩:=Ue (((Aa t).sort:Int));obtain⟨fl,ap⟩:=Ue ((Aa t).flag);obtain⟨bi,an⟩:=Ue (((Aa t).bits:Int));obtain⟨tx,az⟩:=Ue ((Aa t).text);obtain⟨n1,au⟩:=Ue ((Ab t).length);obtain⟨n2,av⟩:=Ue ((Aa t).keys.length);rw[<-ay,<-ap,<-an,<-az,<-au,<-av]at A P;have d:∀j v,(vC so fl bi tx (nS la n1 lc) (nS ka n2 kc))[j]? =nM v->B.cell? ⟨g,j,nN⟩=nM v:=fun j v hv=>A.cell rfl j v (by rw[List.append_nil];exact hv);have c0:=d 0 _ rfl;have c1:=d 1 _ rfl;have c2:=d 2 _ rfl;have c3:=d 3 _ rfl;have c4:=d 4 _ rfl;have c5:=d 5 _ rfl;have aK:=hZ P;have ai:=hZ aA;have aE:Hid ((Ag t).within=true):=S.o t Zh;simp only[Qj,List.length_nil]at aM af|-;clear d A P aA aO am ay ap an az au av M y f
     go_wp2_with(first
      |(refine Ae rfl _ _ _ rfl w.heap.size (vC so fl bi tx (nS la n1 lc) (nS ka n2 kc)) ZN ZN _ _ V.o A9 rfl (by intro u n;simp only[vC,Qh,List.not_mem_nil,or_false]at n;rcases n with rfl|rfl|rfl|rfl|rfl|rfl<;>rfl) ?_;intro w9 E D p;clear E))
     refine bodyPost_ret (uR D) rfl ?_;unfold Eu;rw[C.o]
     have aL:∀b,F b->b≠w.heap.size:=fun b q=>by
      have:=T.o b q;have:=HZ.o;omega
     exact⟨⟨F,_,rfl,AL.kept (p.keepsF ai.o (fun b q h=>aL b h (by simpa using q))) (fun _ h=>h) _ _ aK.o,fun b q=>⟨by have:=T.o b q;have:=HZ.o;omega,Q6 (ai.o b q) p.size⟩,aE.o⟩,(G.o.trans z.o).fresh p (fun k x=>by simp at x;omega)⟩
    .have f:(if l.length<=65536 then CA l else nN)=nN:=by
      rw[Qr K];unfold CA;rw[y];match row,M with
      |[],_=>rfl
      |[t],h=>exact absurd rfl h
      |_::_::_,_=>rfl
     have C:=hZ f;have aV:((row.length:Int)==1)=false:=by rw[Qq];omega
     clear f y M
     go_wp2_with(first
      |(refine Ae rfl _ _ _ rfl w.heap.size zV ZN ZN _ _ V.o A9 rfl xM ?_;intro w9 E D p;clear E))
     refine bodyPost_ret (uR D) rfl ?_;unfold Eu;rw[C.o];exact⟨⟨_,_,ZM,rfl⟩,(G.o.trans z.o).fresh p (fun k x=>by simp at x;omega)⟩
 .have f:(if l.length<=65536 then CA l else nN)=nN:=Qs K;have C:=hZ f;have aX:(65536:Int)<(l.length:Int):=Zj;obtain⟨x1,x2,aP,aQ,aR,aS,aT,aU⟩:=Ac.cells6 U.o;clear f K;go_enter func37,ntmps37;go_upto_region 1 with(fail);rw[<-HW.o]
  go_wp2_with(first
   |(refine Ae rfl _ _ _ rfl w.heap.size zV ZN ZN _ _ U.o A9 rfl xM ?_;intro w9 E D p;clear E))
  refine bodyPost_ret (uR D) rfl ?_;unfold Eu;rw[C.o];exact⟨⟨_,_,ZM,rfl⟩,G.o.fresh p (fun k x=>by simp at x;omega)⟩
end
section
open _root_.Go.Proofs.Tryz
open Go Go.RowKit Tree Ptr
theorem Zx{ks:List BY}{k:BY}(h:k∈ks):k.size<=Ay ks:=by
 obtain⟨i,hi⟩:=List.mem_iff_getElem?.1 h;have:=IW hi;omega
theorem Z4:Dz.size=0:=rfl
theorem Ez{t:Tr}(h:Av t)(d:(Ag t).within=true):Di (Aa t).toI:=by
 have c:=Ar d;have hi:=Bj t;cases t with
 |num b=>simp only[Av]at h;exact⟨h.1,by show(0:Nat)<=_;omega,by simp[Aa,Aw.toI],by simp[Aa,Aw.toI],by simp[Aa,Aw.toI,Ay],by simp[Aa,Aw.toI]⟩
 |text s=>simp only[Av]at h;exact⟨by simp[Aa,Aw.toI],by simp only[Aa,Aw.toI];omega,by simp[Aa,Aw.toI],by simp[Aa,Aw.toI],by simp[Aa,Aw.toI,Ay],by simp[Aa,Aw.toI]⟩
 |obj ks l=>
  simp only[Av]at h;simp only[Ab]at hi;have e:Ay ks<=2097152:=by simp only[Ag,Sz.over]at c;omega
  refine⟨by simp[Aa,Aw.toI],by show(0:Nat)<=_;omega,by simp only[Aa,Aw.toI];omega,fun k a=> ?_,by simp only[Aa,Aw.toI];omega,by simp[Aa,Aw.toI]⟩;have:=Zx a;simp only[Aa,Aw.toI]at a this|-;omega
 |list l=>
  simp only[Ab]at hi;exact⟨by simp[Aa,Aw.toI],by show(0:Nat)<=_;omega,by simp[Aa,Aw.toI],by simp[Aa,Aw.toI],by simp[Aa,Aw.toI,Ay],by simp only[Aa,Aw.toI];omega⟩
 |flag b=>exact⟨by simp[Aa,Aw.toI],by show(0:Nat)<=_;omega,by simp[Aa,Aw.toI],by simp[Aa,Aw.toI],by simp[Aa,Aw.toI,Ay],by simp[Aa,Aw.toI]⟩
 |null=>exact⟨by simp[Aa,Aw.toI],by show(0:Nat)<=_;omega,by simp[Aa,Aw.toI],by simp[Aa,Aw.toI],by simp[Aa,Aw.toI,Ay],by simp[Aa,Aw.toI]⟩
mutual
theorem xN{p:Prop}(h:p:=by simp only[Ai,List.mem_singleton]at hs;subst hs;exact Ez h hw):p:=h
theorem xP{p:Prop}(h:p:=by
 simp only[Ai,Qf,List.mem_singleton]at hs;rcases hs with hs|hs
 .exact PG l (fun u hu=>⟨h.items u hu,C8 hw hu⟩) s hs
 .subst hs;exact Ez h hw):p:=h
theorem Uy:∀(t:Tr),Av t->(Ag t).within=true->∀s∈Ai t,Di s.toI
 | .null,h,hw,s,hs=>xN
 | .flag _,h,hw,s,hs=>xN
 | .num _,h,hw,s,hs=>xN
 | .text _,h,hw,s,hs=>xN
 | .list l,h,hw,s,hs=>by
  exact xP
 | .obj ks l,h,hw,s,hs=>by
  exact xP
theorem PG:∀(l:List Tr),(∀u∈l,Av u/\(Ag u).within=true)->∀s∈BI l,Di s.toI
 |[],_,s,hs=>by simp[BI]at hs
 |t::l,h,s,hs=>by
  simp only[BI,Qf]at hs;rcases hs with hs|hs
  .exact Uy t (h t Zh).1 (h t Zh).2 s hs
  .exact PG l (fun u hu=>h u (by simp[hu])) s hs
end
variable{t:Tr}{w:Wl}
theorem KI(h:Bt t):∀s∈MW t,Di s:=fun s a=>by
 unfold MW at a;obtain⟨p,b,rfl⟩:=List.mem_map.1 a;exact Uy t h.good h.fits p b
theorem Ju(t:Tr):(MW t).length=(Ag t).nodes:=by unfold MW;rw[List.length_map,BL]
def F9(t:Tr)(w:Wl)(e:Ending)(w':Wl):Prop:=
 ∃(F:Nat->Prop) (a:Nat),e= nR (nT #[nP (nM ⟨a,0,nN⟩),.nilIface])/\CG w' F a t/\(∀b,F b->b<w'.heap.size)/\Chg w w' []/\(∀b,F b->w.heap.size<=b)/\w.heap.size<=a
theorem BO.steps(h:Bt t){w':Wl}{e:Ending}(a:BO (MW t) w e w'):F9 t w e w':=by
 unfold BO at a;have b:=FE h.good h.fits;unfold AS at b;have j:MW t=(Ai t).map Aw.toI:=rfl;rw[j,b]at a;obtain⟨⟨F,k,c,d,f,_,i⟩,g⟩:=a;exact⟨F,k,c,d,f,g,i⟩
theorem ZC{v:Vl}{bs:List Nat}(h:Bt t)(d:AP w t v bs):Cl prog 24 #[v] w (F9 t w):=by
 obtain⟨u,x,rfl⟩:=d.iface;have l:=UD (∀a,Chg w a []->∃f args,(callMethod (nF u x) EB #[nS nN 0 0]).run prog a= .ok (.enter f args) a/\Cl prog f args a fun e w'=>∃sv,e= nR sv/\LN t a sv w') fun a J=>Le h.good h.fits (d.chg J Zh);obtain⟨f,args,o,n⟩:=l.o w cR;have z:=hZ n;have B:=hZ o;have L:=hZ h;have M:=(Ar h.fits).1;have k:=Ju t
 have y:=UD (∀(a:Wl) (sv:Vl) (xs:List Vl),Ba a sv 55 6 (Ag t).nodes xs->Az a (MW t) xs->Cl prog 16 #[sv] a (F9 t a)) fun a sv xs g c=>
  (Fk (MW t) sv xs a (by rw[k];exact g.rowC (by rw[c.length,k])) c (KI h) (by rw[k];omega)).mono fun e w' d=>BO.steps h d
 clear n o d h l;go_enter func24,ntmps24
 go_wp2_with(first
  |(refine Ft rfl _ _ _ _ rfl (nF u x) (nS nN 0 0) ZN ZN f args B.o _ z.o ?_;rintro e N ⟨sv,rfl,j⟩;refine⟨_,rfl, ?_⟩;obtain⟨G,xs,g,c,_⟩:=j.ex;have A:=hZ g;have C:=hZ c;have i:=hZ j.chg;clear j g c)
  |(go_at_call 16;refine(y.o _ sv xs A.o C.o.toR).mono ?_;rintro e w2 ⟨F,K,rfl,p,q,r,s⟩;have D:=hZ p;have E:=hZ q;have H:=hZ r;have m:=hZ s;clear p q r s))
 refine bodyPost_ret (results_tmp2 rfl _ _ _) rfl ⟨F,K,Zh,D.o,E.o,(by exact cg (i.o.trans H.o)),fun b I=>Q7 i.o.size (m.o.1 b I),Q7 i.o.size m.o.2⟩
end
section
open _root_.Go.Proofs.Tryz
open Go Go.Shelf Go.RowKit Go.Lib Tree Ptr
variable{p q:Tmp}
theorem Gn{P:Program}{c:Func}{b:Ti}(h:c.results=#[.cell p b,.tmp q])(a:Array Vl)(w:Wl)(g:Nat)(T:Ti)(cs:List Vl)(d:TypeDesc)(i:a.getD p undef= nP (nM ⟨g,0,nN⟩))(e:Ac w g cs T)(l:P.underlying b=nM d)(f:(match d with| .struct _| .array _ _=>true|_=>false)=true)(hi:(P.info? b).map (·.size)=nM cs.length):
  (results c a).run P w= .ok (nT #[nA cs.toArray,a.getD q undef]) w:=by
 exact xO
theorem uS{b:Func}{a:Array Vl}{w:Wl}{g:Nat}{T:Ti}{cs:List Vl}(d:Ac w g cs T)(h:b.results=#[.cell p T,.tmp q]:=by rfl)[c:Nonempty (vG T)](e:cs.length=vH T:=by rfl)(i:a.getD p undef= nP (nM ⟨g,0,nN⟩):=by rfl):(results b a).run prog w= .ok (nT #[nA cs.toArray,a.getD q undef]) w:=by
 obtain⟨⟨⟨f,j⟩,hi⟩⟩:=c;exact Gn h a w g T cs _ i d j rfl (by rw[e];exact hi)
def ZY(r:Option Tr)(w:Wl)(e:Ending)(w':Wl):Prop:=(match r with
 |some t=>∃(F:Nat->Prop) (cs:List Vl),e= nR (nT #[nA cs.toArray,.bool true])/\AL w' F t cs/\(∀b,F b->w.heap.size<=b/\b<w'.heap.size)/\(Ag t).within=true
 |none=>e= nR (nT #[nA zV.toArray,.bool false]))/\Chg w w' []
theorem XX{xs us:List Vl}{i:Nat}(b:us.length=6)(h:∀j v,us[j]? =nM v->xs[i*6+j]? =nM v):xs.take ((i+1)*6)=xs.take (i*6)++us:=by
 rw[show(i+1)*6=i*6+6 from by omega,List.take_add]
 congr 1
 apply List.ext_getElem?;intro j;rw[List.getElem?_take,List.getElem?_drop];by_cases a:j<6
 .rw[Qr a,Q9 (by omega:j<us.length)];exact h j _ (Q9 Zj)
 .rw[Qs a,List.getElem?_eq_none Zj]
theorem Mz(h:Int)(g:Bool)(f:Int)(i:BY)(a b:Option Addr)(n c m d:Nat):∀u∈vC h g f i (nS a n c) (nS b m d),u.oneCell'=true:=by
 intro u e;simp only[vC,Qh,List.not_mem_nil,or_false]at e;rcases e with rfl|rfl|rfl|rfl|rfl|rfl<;>rfl
theorem Vq(l:List Ap)(sl:Vl)(xs:List Vl)(w:Wl)(T:As w sl 6 l.length xs)(hS:Az w l xs)(c:∀s∈l,Di s)(J:l.length<=4294967296):
  Cl prog 15 #[sl] w (ZY (AS l) w):=by
 obtain⟨sa,sc,rfl,aA,ao⟩:=T.form;have HR:=hZ T;have HS:=hZ hS;have ar:=hZ c;have aa:=hZ ao;obtain⟨n,X⟩:=Ue l.length;have A:=hZ X;have aw:=hZ J;rw[<-X]at J|-;clear T hS c X ao aA;go_enter func15,ntmps15;go_wp2_with fail;obtain⟨w0,K⟩:=Ue (w.alloc (nC #[nI nX 0,.bool false,nI .u64 0,nG ⟨#[]⟩,nS nN 0 0,nS nN 0 0] 29));have H0:Hid (Chg w w0 []):=by rw[K];exact hZ ((Chg.refl w []).alloc _)
 have aq:Hid (Ac w0 w.heap.size zV 29):=by rw[K];exact hZ (Ac.new w zV _)
 rw[<-K];clear K;go_loopw [5,4] (fun v5 v4 wr=>∃(i:Nat) (q:Option Addr) (cap:Nat),i<=n/\v5= nI nX i/\v4= nS q i cap/\Ba wr v4 106 6 i (xs.take (i*6))/\Ac wr w.heap.size zV 29/\Chg w wr []/\(∀g,v4.ownBlock=nM g->w.heap.size<g)) (fun v5 _ _=>n-(intOf v5).toNat)
 case atStart=>exact⟨0,nN,0,Zj,rfl,rfl,by rw[Nat.zero_mul,List.take_zero];exact Ba.nil _ _ _,aq.o,H0.o,fun g p=>by cases p⟩
 case round=>
  obtain⟨i,q,cap,hi,rfl,rfl,hL,U,hc,am⟩:=hrel;have HL:=hZ hL;have O:=hZ U;have z:=hZ hc;have R:=hZ am;have lR:w.heap.size<wr.heap.size:=U.lt;clear hL U hc am;by_cases aD:i<n
  .obtain⟨s,hs⟩:∃s,l[i]? =nM s:=⟨_,Q9 (by have:=A.o;omega)⟩;obtain⟨b,o,rfl,ai⟩:=HR.o.base (by have:=A.o;omega) ZM;obtain⟨sk,an,Z⟩:=Az.get HS.o i s hs;obtain⟨x,y,rfl,_⟩:=an.form;have m:∀j v,(AI s (nS x s.keys.length y))[j]? =nM v->wr.cell? ⟨b,o+i*6+j,nN⟩=nM v:=fun j v r=>z.o.keeps (by rw[Nat.add_assoc];exact ai _ v (Z j v r));have c0:=m 0 _ rfl;have c1:=m 1 _ rfl;have c2:=m 2 _ rfl;have c3:=m 3 _ rfl;have c4:=m 4 _ rfl;have c5:=m 5 _ rfl;rw[Nat.add_zero]at c0;have ay:=hZ (XX (xs:=xs) (i:=i) (us:=AI s (nS x s.keys.length y)) rfl Z);clear hs an Z m ai;go_wp2_with((at_builtin;go_loud(refine Bg rfl _ _ _ rfl 106 Iq 6 72 ZM underlying104 GO rfl (nS q i cap) i (xs.take (i*6)) ZN (by exact HL.o.kept (bs:=[]) xS Zh) (wr.heap.size+1) (AI s (nS x s.keys.length y)) ZN rfl (by intro j v r;exact((BD _ _ (AI s (nS x s.keys.length y)) 106 _ rfl Zh).cell j).trans r) (C0 _ _ _ _) Zj Zj ?_);intro g aB w7 ag af ah;have av:=hZ ag;have au:=hZ af;have ax:=hZ ah;clear ag af ah));go_roundw
   case rel=>
    have aj:Chg wr w7 (Vl.slice q i cap).ownBlock.toList:=Chg.step (b:=_) (bs:=(Vl.slice q i cap).ownBlock.toList) xS au.o (fun i hi J=>hi);refine⟨i+1,_,_,Zj,by go_num,rfl,by rw[ay.o];exact av.o,O.o.kept aj (fun W=> ?_),z.o.fresh aj (fun g p=>Nat.le_of_lt (R.o g (by simpa using p))),fun g2 G=> ?_⟩
    .have:=R.o _ (by simpa using W);omega
    .simp[Vl.ownBlock]at G;subst G;rcases ax.o with h|h
     .exact R.o _ h
     .rw[h];simp;omega
   case measure=>simp[intOf];omega
  .obtain rfl:i=n:=by omega
   have ap:xs.take (i*6)=xs:=Qn (by have:=aa.o;have:=A.o;omega);have S:=HL.o;rw[ap]at S;have Y:=S.rowC (by have:=aa.o;have:=A.o;omega);rw[A.o]at Y;have d:=Vo l _ xs wr Y (Az.kept z.o HS.o) ar.o aw.o;have e0:(if l.length<=65536 then CA l else nN)=AS l:=rfl;unfold Eu at d;rw[e0,<-A.o]at d;clear S Y ap e0;cases C:AS l with
   |none=>
    rw[C]at d;have N:=hZ d;have P:=hZ C;clear d C;go_wp2_with fail;refine N.o.mono ?_;rintro e H ⟨⟨k,a,hk,rfl⟩,B⟩;have D:=hZ B;have aC:(k==0)=false:=by simpa using hk
    clear B
    go_wp2_with(first
     |(refine kM H (Mz 0 false 0 ⟨#[]⟩ nN nN 0 0 0 0) ?_;intro w2 L f)
     |(refine uN L.o ?_)
     |(refine uO ((O.o.kept D.o).kept f.o) (Mz 0 false 0 ⟨#[]⟩ nN nN 0 0 0 0) ?_;intro w3 M E))
    refine bodyPost_ret (uS M.o) rfl ?_;rw[P.o];exact⟨rfl,(z.o.trans (D.o.trans f.o)).fresh E.o (fun g p=>by simp at p;omega)⟩
   |some t=>
    rw[C]at d;have N:=hZ d;have P:=hZ C;clear d C
    go_wp2_with(first
     |(go_at_call 37;refine N.o.mono ?_;rintro e H ⟨⟨F,cs,rfl,r,hF,hw⟩,B⟩;have D:=hZ B;have Q:=hZ hF;have az:=hZ hw;have HV:=hZ r;obtain⟨la,lc,x,y,ys,rfl,_⟩:=r.uni;have I:(prog.info? 29).map (·.size)=nM (vC (Aa t).sort (Aa t).flag (Aa t).bits (Aa t).text (nS la (Ab t).length lc) (nS x (Aa t).keys.length y)).length:=A9;generalize V:vC (Aa t).sort (Aa t).flag (Aa t).bits (Aa t).text (nS la (Ab t).length lc) (nS x (Aa t).keys.length y)=cs at*;have ab:∀u∈cs,u.oneCell'=true:=(by rw[<-V];exact Mz _ _ _ _ _ _ _ _ _ _);have al:cs.length=6:=(by rw[<-V];rfl);clear B V r hF hw)
     |(refine Ae rfl _ _ _ rfl H.heap.size cs ZN ZN 29 zV (BD _ _ zV _ _ rfl rfl) I (by rw[al];rfl) ab ?_;intro w2 aE ad G;have L:=hZ ad;have f:=UD (Chg H w2 []) (Chg.step (b:=_) xS G (fun i hi J=>by simp at hi;omega));clear ad G)
     |(refine Bp rfl _ _ rfl H.heap.size ZN 29 cs (by exact L.o) _ underlying29 rfl I ?_)
     |(refine Ae rfl _ _ _ rfl w.heap.size cs ZN ZN 29 zV ((O.o.kept D.o).kept f.o) I (by rw[al];rfl) ab ?_;intro w3 aF ae ak;have M:=hZ ae;have E:=hZ ak;clear ae ak))
    refine bodyPost_ret (Gn rfl _ _ w.heap.size 29 cs _ rfl M.o underlying29 rfl I) rfl ?_;rw[P.o];have hz:=z.o.size;refine⟨⟨F,cs,rfl,AL.kept (((f.o.none [w.heap.size]).trans E.o).keepsF (fun b c=>(Q.o b c).2) (fun b c W=> ?_)) (fun _ h=>h) _ _ HV.o,fun b c=> ?_,az.o⟩,(z.o.trans (D.o.trans f.o)).fresh E.o (fun g p=>by simp at p;omega)⟩
    .simp at c;subst c;have:=(Q.o _ W).1;omega
    .have B:=Q.o b c;have h2:=f.o.size;have h3:=E.o.size;omega
end
end Go.Proofs.YtamgbmcchhmojaaGreatDoor

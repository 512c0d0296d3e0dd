/- Part 18 of the proof of coreBase. -/
import Derived.Test.YtkfnkppdhcaeoaaGreatDoorM17
set_option maxRecDepth 100000
set_option maxHeartbeats 32000000
set_option linter.all false
namespace Go.Proofs.YtkfnkppdhcaeoaaGreatDoor
open Go renaming Calls->Cl,TypeId->Ti,Value->Vl,World->Wl
open Go.Value renaming agg->nA,iface->nF,int->nI,pointer->nP,slice->nS,string->nG,tuple->nT
open Go.IntKind renaming i64->nX
open Go.Ending renaming returned->nR
open Go.Obj renaming cells->nC
open Option renaming none->nN,some->nM
section
open _root_.Go.Proofs.Tryz
open Go Go.RowKit Tree
theorem Aq.split{w:Wl}{F:Nat->Prop}{l:List Tr}{xs:List Vl}(h:Aq w F l xs)(k:Nat):Aq w F (l.take k) (xs.take (6*k))/\Aq w F (l.drop k) (xs.drop (6*k)):=by
 induction l generalizing xs k with
 |nil=>simp only[Aq]at h;subst h;simp[Aq]
 |cons t l g=>
  simp only[Aq]at h;obtain⟨c,r,rfl,a,b⟩:=h
  cases k with
  |zero=>simp only[List.take_zero,Nat.mul_zero,List.drop_zero,Aq];exact⟨trivial,c,r,rfl,a,b⟩
  |succ k=>
   have d:=a.length;obtain⟨e,f⟩:=g b k;simp only[List.take_succ_cons,List.drop_succ_cons,Aq];rw[List.take_append,List.drop_append,d,show 6*(k+1)-6=6*k from by omega,Qn (by omega:c.length<=6*(k+1)),List.drop_of_length_le (by omega:c.length<=6*(k+1)),List.nil_append];exact⟨⟨c,_,rfl,a,e⟩,f⟩
theorem Aq.append{w:Wl}{F:Nat->Prop}{l m:List Tr}{xs ys:List Vl}(h:Aq w F l xs)(k:Aq w F m ys):Aq w F (l++m) (xs++ys):=by
 induction l generalizing xs with
 |nil=>simp only[Aq]at h;subst h;simpa using k
 |cons t l d=>
  simp only[Aq]at h;obtain⟨c,r,rfl,a,b⟩:=h;simp only[Qo,Aq];exact⟨c,r++ys,Zh,a,d b⟩
theorem AL.ones{w:Wl}{F:Nat->Prop}{t:Tr}{cs:List Vl}(h:AL w F t cs):∀u∈cs,u.oneCell'=true:=by
 obtain⟨_,_,_,_,_,rfl,_⟩:=h.uni;intro u a;simp only[vC,Qh,List.not_mem_nil,or_false]at a
 rcases a with rfl|rfl|rfl|rfl|rfl|rfl<;>rfl
theorem Aq.ones{w:Wl}{F:Nat->Prop}{l:List Tr}{xs:List Vl}(h:Aq w F l xs):∀u∈xs,u.oneCell'=true:=by
 induction l generalizing xs with
 |nil=>simp only[Aq]at h;subst h;intro u a;cases a
 |cons t l e=>
  simp only[Aq]at h;obtain⟨c,r,rfl,b,d⟩:=h;intro u a
  rcases Qf.1 a with a|a
  .exact b.ones u a
  .exact e d u a
theorem Z2(w:Wl)(e:Ti)(sz:Nat):Ba (w.alloc (nC #[] e)) (nS (nM ⟨w.heap.size,0,nN⟩) 0 0) e sz 0 []:=World.ownsRow_made w #[] 0 (Nat.zero_le _) (Nat.zero_le _) Zh
theorem Vd{b:Nat}(h:b<18446744073709551616):Tl b=Cg b:=by
 unfold Tl Cg Fl.A7;split<;>split<;>omega
theorem Ba.popK{w:Wl}{a:Option Addr}{n b sz:Nat}{e:Ti}{xs:List Vl}(h:Ba w (nS a n b) e sz n xs)(k:Nat)(q:k<=n):Ba w (nS a k b) e sz k (xs.take (k*sz)):=by
 have x:k*sz<=n*sz:=Nat.mul_le_mul_right _ q;refine⟨by rw[Ql,h.1];omega, ?_⟩
 rcases h.2 with⟨c,t⟩|⟨g,s,f,d,o,p,v,j,l,m⟩
 .injection c with c u i
  subst c;subst i;have:k=0:=Zj
  subst this;exact .inl ⟨rfl,rfl⟩
 .injection d with d y r
  subst d;subst r;refine .inr ⟨g,b,f,rfl,o,p,Zj,j,l, ?_⟩;rw[<-m,List.take_take]
  congr 1
  omega
def Y5(F:Nat->Prop)(f:List Tr)(d:Vl)(w:Wl)(e:Ending)(w':Wl):Prop:=
 (∃(a:Vl) (c:Nat->Prop),e= nR (nT #[a,nI nX 0])/\Zk w' c a f/\(∀g,a.ownBlock=nM g->d.ownBlock=nM g\/w.heap.size<=g)/\∀b,c b->F b\/w.heap.size<=b)/\Chg w w' d.ownBlock.toList
def GE(F:Nat->Prop)(l:List Tr)(s:Ap)(a:Vl)(w:Wl)(e:Ending)(w':Wl):Prop:=
 if(Ag (AF s l)).within=true then Y5 F (NW l s) a w e w' else Wf w e w'
theorem Iy{l:List Tr}{s:Ap}(f:EJ l)(r:l.length<=65536)(b:Di s)(i:Kw s=true)(t:Hn s<=l.length):
  (Ag (AF s l)).nodes<=1099511627776/\(Ag (AF s l)).bytes<=1152921504606846976/\(Ag (AF s l)).depth<=1099511627776:=by
 obtain⟨j,_,_,_,h⟩:=CU.1 i;have k:=Gw j;have m:=(f.drop (l.length-Hn s)).sum;have a:(l.drop (l.length-Hn s)).length<=65536:=by rw[Qm];omega
 have n:=b.text;have o:=b.sum;have p:(l.drop (l.length-Hn s)).length*65536<=65536*65536:=Nat.mul_le_mul_right _ a;have q:(l.drop (l.length-Hn s)).length*2097152<=65536*2097152:=Nat.mul_le_mul_right _ a;unfold AF CF;split
 .simp[Ag]
 .split
  .simp[Ag]
  .split
   .simp[Ag]
   .split
    .simp[Ag];omega
    .split
     .simp only[Ag,Sz.over];omega
     .rename_i c
      have d:s.count=0:=Decidable.byContradiction fun g=>c (k.2.2.2.2.2.2.1 g)
      have e:s.keys.length=(l.drop (l.length-Hn s)).length:=by rw[Qm];unfold Hn at*;rw[d]at*;simp at*;omega
      rw[Kd h e];simp only[Sz.over];omega
theorem Kz{F:Nat->Prop}{l:List Tr}{s:Ap}{d:Vl}{w w':Wl}{v:Vl}{k:Int}(c:(Ag (AF s l)).within=false)(b:k≠0)(a:Chg w w' []):GE F l s d w (nR (nT #[v,nI nX k])) w':=by
 unfold GE;rw[Qs (by simp[c])];exact⟨⟨v,k,b,rfl⟩,a⟩
theorem IC{l:List Tr}{s:Ap}{F j:Nat->Prop}{d:Option Addr}{e D g t:Nat}{xs cs:List Vl}{w i r:Wl}(J:(Ag (AF s l)).within=true)(G:Ba w (nS d l.length e) 29 6 l.length xs)(E:Aq w F l xs)(m:∀b,F b->b<w.heap.size)(k:∀g,(Vl.slice d l.length e).ownBlock=nM g->¬F g)(v:D=l.length-Hn s)(q:Chg w i [])(I:AL i j (AF s l) cs)(n:∀b,j b->b<i.heap.size)(o:∀b,j b->F b\/w.heap.size<=b)(C:Ba r (nS (nM ⟨g,0,nN⟩) (D+1) t) 29 6 (D+1) (xs.take (D*6)++cs))(f:Chg i r (Vl.slice d D e).ownBlock.toList)(p:(Vl.slice d D e).ownBlock=nM g\/i.heap.size<=g):
  GE F l s (nS d l.length e) w (nR (nT #[nS (nM ⟨g,0,nN⟩) (D+1) t,nI nX 0])) r:=by
 unfold GE;rw[Qr J];have z:(Vl.slice d D e).ownBlock=(Vl.slice d l.length e).ownBlock:=by cases d<;>rfl
 rw[z]at f p;have y:∀g,(Vl.slice d l.length e).ownBlock=nM g->g<w.heap.size:=fun g h=>G.lt h
 have K:=q.size;have H:(NW l s).length=D+1:=by unfold NW;rw[Qk,Ql,List.length_singleton,<-v];omega
 refine⟨⟨_,fun b=>F b\/j b,rfl,⟨xs.take (D*6)++cs, ?_, ?_, ?_, ?_⟩, ?_,fun b a=>a.elim .inl (o b)⟩,(q.none _).trans f⟩
 .rw[H];exact C
 .unfold NW
  rw[<-v];refine Aq.append ?_ ?_
  .have:=(E.split D).1
   rw[show D*6=6*D from Nat.mul_comm _ _];exact Aq.kept (((q.none _).trans f).keepsF m fun b a=>k b (by simpa using a)) (fun _ h=> .inl h) _ _ this
  .simp only[Aq]
   refine⟨cs,[],Zh,AL.kept (f.keepsF n fun b a A=> ?_) (fun _ h=> .inr h) _ _ I,rfl⟩;have B:=y b (by simpa using a)
   rcases o b A with c|c
   .exact k b (by simpa using a) c
   .omega
 .intro b a
  have:=f.size
  rcases a with h|h
  .have:=m b h;omega
  .have:=n b h;omega
 .intro b a x
  simp[Vl.ownBlock]at a;subst a
  rcases p with h|h
  .have B:=y _ h
   rcases x with c|c
   .exact k _ h c
   .rcases o _ c with u|u
    .exact k _ h u
    .omega
  .rcases x with c|c
   .have:=m _ c;omega
   .have:=n _ c;omega
 .intro b a
  simp[Vl.ownBlock]at a;subst a
  rcases p with h|h
  .exact .inl h
  .exact .inr Zj
theorem Ou(l:List Tr)(F:Nat->Prop)(rv:Vl)(s:Ap)(sk:Vl)(w:Wl)(hR:Zk w F rv l)(hK:As w sk 1 s.keys.length (Ad s.keys))(a:Di s)(hf:EJ l)(hl:l.length<=65536)(cq:Kw s=true)(hn:Hn s<=l.length):
  Cl prog 126 #[rv,nA #[nI nX s.sort,.bool s.flag,nI .u64 s.bits,nG s.text,nI nX s.count,sk]] w (GE F l s rv w):=by
 obtain⟨xs,hX,hV,hF,hO⟩:=hR;have hr:=hX.form;obtain⟨ra,rc,rfl,dw⟩:=hr;obtain⟨ka,kc,rfl,dr,_⟩:=hK.form;have bJ:∀c,Chg w c []->As c (nS ka s.keys.length kc) 1 s.keys.length (Ad s.keys):=fun c h=>hK.kept h
 obtain⟨w0,bj⟩:=Ue (w.alloc (nC #[nI nX s.sort,.bool s.flag,nI .u64 s.bits,nG s.text,nI nX s.count,nS ka s.keys.length kc] 158))
 have r:Hid (Chg w w0 []):=by rw[bj];exact hZ ((Chg.refl w []).alloc _)
 have bZ:Hid (Ac w0 w.heap.size [nI nX s.sort,.bool s.flag,nI .u64 s.bits,nG s.text,nI nX s.count,nS ka s.keys.length kc] 158):=by rw[bj];exact hZ (Ac.new w _ _)
 obtain⟨z1,z2,z3,z4,z5,z6,z7,z8⟩:=Ac.cells6 bZ.o;have dE:=a.count
 have m:Hid (aI s ka s.keys.length kc w0 w.heap.size (Fl.Fh s.bits) (Utf.Al s.text) (s.keys.all Utf.Al) (!decide s.keys.Nodup)):=Lib.hid
  {cells:=fun c h=>bZ.o.kept h
   fin:=fun c=>MM s.bits a.bits c
   text:=fun c=>Ii s.text c a.text
   keys:=fun c h=>Ov (fun _=>True) _ s.keys c (bJ c (r.o.trans h)).rowAt a.size (by have:=a.keys;omega)
   twice:=fun hk c h=>Ow s.keys _ c (bJ c (r.o.trans h)) (fun x hx=>⟨List.all_eq_true.1 hk x hx,a.size x hx⟩) (by have:=a.keys;omega)}
 have HW:=hZ bj;have ds:=a.keys;have du:=cq;have dt:=CU.1 cq;obtain⟨p,cK,ao,cm,co⟩:=dt;have cr:=Gw p;have cU:xs.length=l.length*6:=by rw[hV.length];omega
 have cI:=hX.capLe;rw[show Fl.Fh s.bits=(if s.sort=3 then true else Fl.Fh s.bits)from by split;(rename_i h;exact cK h);rfl,ao,cm,show(!decide s.keys.Nodup)=false from by simp[co]]at m;obtain⟨kn,bI⟩:=Ue s.keys.length
 obtain⟨N,hN⟩:=Ue (Hn s)
 have dD:s.count+(kn:Int)=(N:Int):=by rw[hN,bI];unfold Hn;have:=cr.2.2.1;omega
 rw[<-hN]at hn;obtain⟨D,hD⟩:=Ue (l.length-N)
 have dp:l.length-D=N:=Zj
 have dB:(l.length:Int)-(N:Int)=(D:Int):=Zj
 have HU:=hZ p;have HX:=hZ hX;have HV:=hZ hV;have L:=hZ hF;have HO:=hZ hO;have de:=hZ bJ;have HB:=hZ a;have af:=hZ cr;have aE:=hZ hf;have df:=hZ cm;have dj:=hZ co;have aR:=hZ bI;have HN:=hZ hN;have b9:=hZ hD;rw[<-bI]at m HU HW bZ z8 ds dr|-;have z9:IntKind.i64.wrap (N:Int)=(N:Int):=IntWalk.i64_in _ Zj;have dG:IntKind.i64.wrap (D:Int)=(D:Int):=IntWalk.i64_in _ Zj;have dH:(N:Int)<=(l.length:Int):=Zj
 have aO:D<=l.length:=Zj
 have dI:D<=rc:=Zj
 have dJ:(D:Int)<=(rc:Int):=Zj
 have dK:(0:Int)<=(D:Int):=Zj
 have dL:l.length<=rc:=cI.2;have cV:w0.heap.size=w.heap.size+1:=by rw[bj];simp
 have cG:=hZ cV;clear hX hV hF hO bJ a cr hf cm co bI hN p cK ao cq bj hK cI dw hD cV;have aK:=hZ du;have aD:Hid (D=l.length-Hn s):=by unfold Hid;rw[<-HN.o];exact b9.o
 have aJ:Hid (Hn s<=l.length):=by unfold Hid;rw[<-HN.o];exact hn
 obtain⟨ti,au,_⟩:=info_parts Dp;have cF:=UD (∀u∈xs,u.oneCell'=true) (Aq.ones HV.o);by_cases h5:s.sort=5
 .skip
  have h6:¬s.sort=6:=Zj
  have H:¬s.sort=3:=Zj
  have h9:s.keys=[]:=Decidable.byContradiction fun g=>h6 (af.o.2.2.2.2.2.2.2 g)
  have ar:s.bits=0:=Decidable.byContradiction fun h=>H (af.o.2.2.2.2.1 h)
  have aM:s.flag=false:=by
   cases h:s.flag with
   |false=>rfl
   |true=>have:=af.o.2.2.2.1 h;omega
  have ao:s.text=Dz:=Decidable.byContradiction fun h=>by have:=af.o.2.2.2.2.2.1 h;omega
  have aH:Hid (AF s l= .list (l.drop D)/\s.sort=5/\s.flag=false/\s.text=Dz):=by
   unfold Hid AF CF;rw[<-HN.o,<-b9.o,Qs Zj,Qs Zj,Qs H,Qs Zj,Qr h5];exact⟨rfl,h5,aM,ao⟩
  have d3:(s.sort==3)=false:=by simp[H]
  have d5:(s.sort==5)=true:=by simp[h5]
  have d6:(s.sort==6)=false:=by simp[h6]
  rw[Qs H]at m;clear h5 h6 H h9 ar aM ao;go_enter func126,ntmps126
  go_upto_region 1 with(fail)
  rw[<-HW.o]
  go_upto_region 12 with((first
     |(go_at_call 160;refine(CM s.sort s.flag s.bits s.text s.count ka kn kc _).mono ?_;rintro e w1 ⟨rfl,K⟩;rw[HU.o];obtain⟨a1,a2,a3,a4,a5,a6,a7,a8⟩:=Ac.cells6 (m.o.cells _ K))
     |(go_at_call 161;refine(m.o.fin _).mono ?_;rintro e w2 ⟨rfl,a⟩;have Z:=K.trans a;obtain⟨b1,b2,b3,b4,b5,b6,b7,b8⟩:=Ac.cells6 (m.o.cells _ Z))
     |(go_at_call 162;refine(m.o.text _).mono ?_;rintro e w3 ⟨rfl,rfl⟩)
     |(go_at_call 163;refine(m.o.keys _ (by first|exact Z|exact K)).mono ?_;rintro e w4 ⟨rfl,hc⟩;have aa:Chg w0 w4 []:=(by first|exact Z.trans hc|exact K.trans hc);obtain⟨c1,c2,c3,c4,c5,c6,c7,c8⟩:=Ac.cells6 (m.o.cells _ aa))
     |(go_at_call 164;refine(m.o.twice rfl _ aa).mono ?_;rintro e A ⟨rfl,hd⟩;have ab:=aa.trans hd;obtain⟨d1,d2,d3,d4,d5,d6,d7,d8⟩:=Ac.cells6 (m.o.cells _ ab))))
  go_upto_region 13 with(fail)
  obtain⟨n,I⟩:=Ue (A.alloc (nC #[nI nX s.sort,.bool s.flag,nI .u64 0,nG s.text,nS nN 0 0,nS nN 0 0] 29))
  have W:Hid (Ac n A.heap.size (vC s.sort s.flag 0 s.text (nS nN 0 0) (nS nN 0 0)) 29):=by rw[I];exact hZ (Ac.new A _ _)
  have J:Hid (Chg w0 n []):=by rw[I];exact hZ (ab.alloc _)
  have ae:n.heap.size=A.heap.size+1:=by rw[I];simp
  have ad:w0.heap.size<=A.heap.size:=ab.size;rw[<-I];obtain⟨q,hq⟩:=Ue A.heap.size
  rw[<-hq]at W ae ad|-;have aU:=hZ ae;have aq:=hZ ad;obtain⟨q1,q2,bN,bO,bP,bQ,bR,bS⟩:=Ac.cells6 W.o;obtain⟨s1,s2,bT,bU,bV,bW,bX,bY⟩:=Ac.cells6 (m.o.cells _ J.o);clear I hq ae ad
  go_upto_region 15 with(fail)
  go_cut [8]from 8 (fun s8 c=>∃(X:Option Addr) (tc:Nat) (us:List Vl) (d:Nat->Prop),s8= nS X N tc/\As c (nS X N tc) 6 N us/\LP c d X us/\Aq c d (l.drop D) us/\(∀b,d b->b<c.heap.size)/\(∀b,d b->F b\/n.heap.size<=b)/\Chg n c [])
  case first=>
   have bi:=Aq.kept ((r.o.trans J.o).keepsF L.o) (fun _ h=>h) _ _ (HV.o.split D).2;have ce:=hZ bi;have ap:w.heap.size<=n.heap.size:=(r.o.trans J.o).size;have aX:=hZ (HX.o.kept (r.o.trans J.o));clear bi;by_cases aC:N=0
   .have bd:l.drop D=[]:=List.drop_of_length_le Zj
    have aQ:=hZ bd;have a9:D=l.length:=Zj
    clear bd;subst aC;subst a9;have dc:l.length-l.length=0:=Zj
    rcases Decidable.em (rc=l.length)with an|an
    .subst an
     go_wp2_with(first|(at_builtin;refine A1 rfl _ _ _ rfl 29 ti underlying26 au _ 0 0 (Q8 _) ZN _ _ ZN ?_))
     go_meet
     exact⟨_,_,[],F,rfl,⟨_,_,rfl,Nat.zero_le _,rfl,fun i v hv=>by simp at hv⟩,.inl rfl,by rw[aQ.o];simp[Aq],fun b a=>by have:=L.o b a;have:=ap;simp;omega,fun b a=> .inl a,(Chg.refl _ _).alloc _⟩
    .skip
     go_wp2_with(first|(at_builtin;refine A1 rfl _ _ _ rfl 29 ti underlying26 au _ 0 0 (Q8 _) ZN _ _ ZN ?_))
     go_meet
     exact⟨_,_,[],F,rfl,⟨_,_,rfl,Nat.zero_le _,rfl,fun i v hv=>by simp at hv⟩,.inl rfl,by rw[aQ.o];simp[Aq],fun b a=>by have:=L.o b a;have:=ap;simp;omega,fun b a=> .inl a,(Chg.refl _ _).alloc _⟩
   .have cp:0<N:=by omega
    obtain⟨a',c',e',bc⟩:=aX.o.form
    injection e' with e1 _ e3
    subst e1;subst e3;obtain⟨g,rfl⟩:=bc Zj;have bh:(xs.drop (D*6)).length=N*6:=by rw[Qm,cU];omega
    have bf:∀u∈xs.drop (D*6),u.oneCell'=true:=fun u p=>cF.o u (List.mem_of_mem_drop p)
    have cf:=UD (∀j v,(xs.drop (D*6))[j]? =nM v->(n.alloc (nC #[] 29)).cell? ⟨g,D*6+j,nN⟩=nM v) fun j v hv=>((Chg.refl n []).alloc _).keeps (aX.o.cell rfl _ v (by rw[<-List.getElem?_drop];exact hv))
    have av:=hZ bh;have cb:=hZ bf;have dx:¬rc=D:=Zj
    clear bc bh bf aC
    go_wp2_with(first
     |(at_builtin;go_loud(refine Er rfl _ _ _ rfl 29 NP 6 88 ZM underlying26 Dp rfl _ 0 [] ZN (by exact Z2 n _ 6) g (D*6) N (rc-D) (xs.drop (D*6)) ZN cp av.o cf.o cb.o Zj Zj ?_;intro g3 ch w3 ba cj ck)))
    go_meet
    have dq:n.heap.size<=g3:=by
     rcases ck with h|h
     .have:n.heap.size=g3:=(by injection h)
      omega
     .simp at h;omega
    have aB:Chg n w3 []:=Chg.own (sv:= nS nN 0 0) ((Chg.refl n []).alloc _) cj (fun g hg=>by cases hg) (fun g hg=> .inr (by have:n.heap.size=g:=(by injection hg);omega));rw[List.nil_append]at ba;have aw:Ba w3 (nS (nM ⟨g3,0,nN⟩) N ch) 29 6 N (xs.drop (D*6)):=by simpa using ba
    refine⟨_,_,xs.drop (D*6),fun b=>F b\/b=g3,Zh,aw.rowC av.o,aw.rowN av.o (fun g hg=>by simp[Vl.ownBlock]at hg;exact .inr hg.symm), ?_, ?_, ?_,aB⟩
    .have:=Aq.kept (aB.keepsF (fun b a=>Q6 (L.o b a) ap)) (fun b a=>(.inl a:F b\/b=g3)) _ _ ce.o
     rwa[Nat.mul_comm]at this
    .rintro b (a|a)
     .have:=L.o b a;have:=aB.size;omega
     .subst a;exact aw.lt rfl
    .rintro b (a|a)
     .exact .inl a
     .exact .inr Zj
  case rest=>
   obtain⟨X,tc,us,d,rfl,az,ay,aA,ax,bb,am⟩:=hcut;obtain⟨wt,aN⟩:=Ue wc
   rw[<-aN]at az ay aA ax am|-;have aT:=hZ (W.o.kept am);have aF:=hZ (J.o.trans am);obtain⟨bM,cz,ct,cu,cv,cw,cx,cy⟩:=Ac.cells6 aT.o;obtain⟨cW,db,cX,cY,cZ,c0,c9,da⟩:=Ac.cells6 (m.o.cells _ aF.o);have cE:=hZ az;have cD:=hZ ay;have cd:=hZ aA;have aV:=hZ ax;have aW:=hZ bb;have cC:=hZ am
   have bg:¬d q:=fun h=>by
    have h1:=aU.o;have h2:=aq.o;have H:=cG.o
    rcases aW.o q h with h4|h4
    .have:=L.o q h4;omega
    .omega
   have cc:=hZ bg;have ap:w.heap.size<=n.heap.size:=(r.o.trans J.o).size;clear az ay aA ax bb am aN bg
   go_upto_region 20 with(fail)
   obtain⟨f,B⟩:=Ue (wt.setCell ⟨q,4,nN⟩ (nS X N tc))
   rw[<-B];have bG:Chg wt f [q]:=by rw[B];exact(Chg.refl _ _).setCell _ _ Zh
   have t:=UD (Chg w0 f []) (aF.o.step bG (fun i hi bK=>by simp at hi;have:=aq.o;omega));have O:Hid (Ac f q [nI nX s.sort,.bool s.flag,nI .u64 0,nG s.text,nS X N tc,nS nN 0 0] 29):=by rw[B];exact hZ ((aT.o.set 4 _).eq rfl)
   have C:=UD (∀b,d b->b<f.heap.size) fun b a=>Q6 (aV.o b a) bG.size
   have ah:=UD (∀b,d b->F b\/w.heap.size<=b) fun b a=>(aW.o b a).imp_right fun h=>Zj
   have M:Hid (AL f d (AF s l) [nI nX s.sort,.bool s.flag,nI .u64 0,nG s.text,nS X N tc,nS nN 0 0]):=by
    have hk:BZ d wt f:=bG.keepsF aV.o (fun b a h=>by simp at a;subst a;exact cc.o h);unfold Hid;rw[aH.o.1,aH.o.2.1,aH.o.2.2.1,aH.o.2.2.2];simp only[AL];refine⟨X,tc,nN,0,us, ?_,cD.o.kept hk (fun _ h=>h),Aq.kept hk (fun _ h=>h) _ _ cd.o⟩;rw[Qm,show l.length-D=N from dp];rfl
   clear B bG;have S:=Iy (s:=s) aE.o hl HB.o aK.o aJ.o;have G:=hZ S;have bk:w0.heap.size<=f.heap.size:=t.o.size;have U:=(HX.o.popK D aO).kept (r.o.trans t.o);have ak:=hZ U
   have y:=UD (∀c,Chg f c []->Cl prog 56 #[nA ([nI nX s.sort,.bool s.flag,nI .u64 0,nG s.text,nS X N tc,nS nN 0 0]:List Vl).toArray] c fun e w'=>e= nR (.bool (Ag (AF s l)).within)/\Chg c w' []) fun c h=>
    Ex (AF s l) d _ c G.o.1 G.o.2.1 G.o.2.2 (AL.kept (h.keepsF C.o) (fun _ h=>h) _ _ M.o) (fun b a=>Q6 (C.o b a) h.size)
   obtain⟨y1,y2,bq,br,bt,bu,bv,bw⟩:=Ac.cells6 O.o;clear S U;by_cases z:(Ag (AF s l)).within=true
   .rw[z]at y
    go_upto_region 22 with(first|(go_at_call 56;refine(y.o _ (by exact cg cR)).mono ?_;rintro e V ⟨rfl,o⟩;have E:=hZ o;have al:=hZ (O.o.kept o);obtain⟨bx,bF,bz,bA,bB,bC,bD,bE⟩:=Ac.cells6 al.o;clear o))
    go_region_law(first
     |(go_loud(refine Bw rfl _ _ _ rfl 29 NP 6 88 ZM underlying26 Dp rfl (nS ra D rc) D (xs.take (D*6)) ZN (by exact(ak.o.kept E.o).kept (bs:=[]) (by exact cg cR) Zh) V.heap.size [nI nX s.sort,.bool s.flag,nI .u64 0,nG s.text,nS X N tc,nS nN 0 0] ZN ZN (by exact Cm _ _ _) (by intro u p;simp only[Qh,List.not_mem_nil,or_false]at p;rcases p with rfl|rfl|rfl|rfl|rfl|rfl<;>rfl) Zj Zj ?_;intro g8 aY w8 R P Q;have aj:=hZ R;have ag:=hZ P;have ai:=hZ Q;clear R P Q)))
    all_goals
     go_wp2_with fail
     go_ret2
     have bl:=E.o.size
     exact IC z HX.o HV.o L.o HO.o aD.o (r.o.trans t.o) M.o C.o ah.o aj.o (((E.o.alloc _).drew.none _).trans ag.o) (by
      rcases ai.o with h|h
      .exact .inl h
      .simp at h;exact .inr Zj)
   .have T:(Ag (AF s l)).within=false:=by simpa using z
    rw[T]at y;clear z;go_wp2_with(first|(go_at_call 56;refine(y.o _ (by exact cg cR)).mono ?_;rintro e V ⟨rfl,o⟩))
    go_ret2
    exact Kz T ZM ((r.o.trans t.o).trans o)
 .by_cases h6:s.sort=6
  .skip
   have H:¬s.sort=3:=Zj
   have cJ:s.count=0:=Decidable.byContradiction fun g=>h5 (af.o.2.2.2.2.2.2.1 g)
   have dh:Hid (AF s l=D1 s.keys (l.drop D)):=by
    unfold Hid AF CF;rw[<-HN.o,<-b9.o,Qs Zj,Qs Zj,Qs H,Qs Zj,Qs h5]
   have cH:N=kn:=by rw[HN.o];unfold Hn;rw[cJ,aR.o];simp
   have d3:(s.sort==3)=false:=by simp[H]
   have d5:(s.sort==5)=false:=by simp[h5]
   have d6:(s.sort==6)=true:=by simp[h6]
   rw[Qs H]at m;have ca:=hZ cH;clear h5 h6 H cJ cH;go_enter func126,ntmps126
   go_upto_region 1 with(fail)
   rw[<-HW.o]
   go_upto_region 12 with((first
      |(go_at_call 160;refine(CM s.sort s.flag s.bits s.text s.count ka kn kc _).mono ?_;rintro e w1 ⟨rfl,K⟩;rw[HU.o];obtain⟨a1,a2,a3,a4,a5,a6,a7,a8⟩:=Ac.cells6 (m.o.cells _ K))
      |(go_at_call 161;refine(m.o.fin _).mono ?_;rintro e w2 ⟨rfl,a⟩;have Z:=K.trans a;obtain⟨b1,b2,b3,b4,b5,b6,b7,b8⟩:=Ac.cells6 (m.o.cells _ Z))
      |(go_at_call 162;refine(m.o.text _).mono ?_;rintro e w3 ⟨rfl,rfl⟩)
      |(go_at_call 163;refine(m.o.keys _ (by first|exact Z|exact K)).mono ?_;rintro e w4 ⟨rfl,hc⟩;have aa:Chg w0 w4 []:=(by first|exact Z.trans hc|exact K.trans hc);obtain⟨c1,c2,c3,c4,c5,c6,c7,c8⟩:=Ac.cells6 (m.o.cells _ aa))
      |(go_at_call 164;refine(m.o.twice rfl _ aa).mono ?_;rintro e A ⟨rfl,hd⟩;have ab:=aa.trans hd;obtain⟨d1,d2,d3,d4,d5,d6,d7,d8⟩:=Ac.cells6 (m.o.cells _ ab))))
   go_upto_region 13 with(fail)
   obtain⟨n,I⟩:=Ue (A.alloc (nC #[nI nX s.sort,.bool s.flag,nI .u64 0,nG s.text,nS nN 0 0,nS nN 0 0] 29))
   have W:Hid (Ac n A.heap.size (vC s.sort s.flag 0 s.text (nS nN 0 0) (nS nN 0 0)) 29):=by rw[I];exact hZ (Ac.new A _ _)
   have J:Hid (Chg w0 n []):=by rw[I];exact hZ (ab.alloc _)
   have ae:n.heap.size=A.heap.size+1:=by rw[I];simp
   have ad:w0.heap.size<=A.heap.size:=ab.size;rw[<-I];obtain⟨q,hq⟩:=Ue A.heap.size
   rw[<-hq]at W ae ad|-;have aU:=hZ ae;have aq:=hZ ad;obtain⟨q1,q2,bN,bO,bP,bQ,bR,bS⟩:=Ac.cells6 W.o;obtain⟨s1,s2,bT,bU,bV,bW,bX,bY⟩:=Ac.cells6 (m.o.cells _ J.o);clear I hq ae ad
   go_upto_region 15 with(fail)
   go_cut [8]from 8 (fun s8 c=>∃(X:Option Addr) (tc:Nat) (us:List Vl) (d:Nat->Prop),s8= nS X N tc/\As c (nS X N tc) 6 N us/\LP c d X us/\Aq c d (l.drop D) us/\(∀b,d b->b<c.heap.size)/\(∀b,d b->F b\/n.heap.size<=b)/\Chg n c [])
   case first=>
    have bi:=Aq.kept ((r.o.trans J.o).keepsF L.o) (fun _ h=>h) _ _ (HV.o.split D).2;have ce:=hZ bi;have ap:w.heap.size<=n.heap.size:=(r.o.trans J.o).size;have aX:=hZ (HX.o.kept (r.o.trans J.o));clear bi;by_cases aC:N=0
    .have bd:l.drop D=[]:=List.drop_of_length_le Zj
     have aQ:=hZ bd;have a9:D=l.length:=Zj
     clear bd;subst aC;subst a9;have dc:l.length-l.length=0:=Zj
     rcases Decidable.em (rc=l.length)with an|an
     .subst an
      go_wp2_with(first|(at_builtin;refine A1 rfl _ _ _ rfl 29 ti underlying26 au _ 0 0 (Q8 _) ZN _ _ ZN ?_))
      go_meet
      exact⟨_,_,[],F,rfl,⟨_,_,rfl,Nat.zero_le _,rfl,fun i v hv=>by simp at hv⟩,.inl rfl,by rw[aQ.o];simp[Aq],fun b a=>by have:=L.o b a;have:=ap;simp;omega,fun b a=> .inl a,(Chg.refl _ _).alloc _⟩
     .skip
      go_wp2_with(first|(at_builtin;refine A1 rfl _ _ _ rfl 29 ti underlying26 au _ 0 0 (Q8 _) ZN _ _ ZN ?_))
      go_meet
      exact⟨_,_,[],F,rfl,⟨_,_,rfl,Nat.zero_le _,rfl,fun i v hv=>by simp at hv⟩,.inl rfl,by rw[aQ.o];simp[Aq],fun b a=>by have:=L.o b a;have:=ap;simp;omega,fun b a=> .inl a,(Chg.refl _ _).alloc _⟩
    .have cp:0<N:=by omega
     obtain⟨a',c',e',bc⟩:=aX.o.form
     injection e' with e1 _ e3
     subst e1;subst e3;obtain⟨g,rfl⟩:=bc Zj;have bh:(xs.drop (D*6)).length=N*6:=by rw[Qm,cU];omega
     have bf:∀u∈xs.drop (D*6),u.oneCell'=true:=fun u p=>cF.o u (List.mem_of_mem_drop p)
     have cf:=UD (∀j v,(xs.drop (D*6))[j]? =nM v->(n.alloc (nC #[] 29)).cell? ⟨g,D*6+j,nN⟩=nM v) fun j v hv=>((Chg.refl n []).alloc _).keeps (aX.o.cell rfl _ v (by rw[<-List.getElem?_drop];exact hv))
     have av:=hZ bh;have cb:=hZ bf;have dx:¬rc=D:=Zj
     clear bc bh bf aC
     go_wp2_with(first
      |(at_builtin;go_loud(refine Er rfl _ _ _ rfl 29 NP 6 88 ZM underlying26 Dp rfl _ 0 [] ZN (by exact Z2 n _ 6) g (D*6) N (rc-D) (xs.drop (D*6)) ZN cp av.o cf.o cb.o Zj Zj ?_;intro g3 ch w3 ba cj ck)))
     go_meet
     have dq:n.heap.size<=g3:=by
      rcases ck with h|h
      .have:n.heap.size=g3:=(by injection h)
       omega
      .simp at h;omega
     have aB:Chg n w3 []:=Chg.own (sv:= nS nN 0 0) ((Chg.refl n []).alloc _) cj (fun g hg=>by cases hg) (fun g hg=> .inr (by have:n.heap.size=g:=(by injection hg);omega));rw[List.nil_append]at ba;have aw:Ba w3 (nS (nM ⟨g3,0,nN⟩) N ch) 29 6 N (xs.drop (D*6)):=by simpa using ba
     refine⟨_,_,xs.drop (D*6),fun b=>F b\/b=g3,Zh,aw.rowC av.o,aw.rowN av.o (fun g hg=>by simp[Vl.ownBlock]at hg;exact .inr hg.symm), ?_, ?_, ?_,aB⟩
     .have:=Aq.kept (aB.keepsF (fun b a=>Q6 (L.o b a) ap)) (fun b a=>(.inl a:F b\/b=g3)) _ _ ce.o
      rwa[Nat.mul_comm]at this
     .rintro b (a|a)
      .have:=L.o b a;have:=aB.size;omega
      .subst a;exact aw.lt rfl
     .rintro b (a|a)
      .exact .inl a
      .exact .inr Zj
   case rest=>
    obtain⟨X,tc,us,d,rfl,az,ay,aA,ax,bb,am⟩:=hcut;obtain⟨wt,aN⟩:=Ue wc
    rw[<-aN]at az ay aA ax am|-;have aT:=hZ (W.o.kept am);have aF:=hZ (J.o.trans am);obtain⟨bM,cz,ct,cu,cv,cw,cx,cy⟩:=Ac.cells6 aT.o;obtain⟨cW,db,cX,cY,cZ,c0,c9,da⟩:=Ac.cells6 (m.o.cells _ aF.o);have cE:=hZ az;have cD:=hZ ay;have cd:=hZ aA;have aV:=hZ ax;have aW:=hZ bb;have cC:=hZ am
    have bg:¬d q:=fun h=>by
     have h1:=aU.o;have h2:=aq.o;have H:=cG.o
     rcases aW.o q h with h4|h4
     .have:=L.o q h4;omega
     .omega
    have cc:=hZ bg;have ap:w.heap.size<=n.heap.size:=(r.o.trans J.o).size;clear az ay aA ax bb am aN bg
    have di:=UD (∀c,Chg wt c []->Cl prog 94 #[nS ka kn kc,nS X N tc] c (PR d s.keys (l.drop D) c)) fun c h=>by
     have cL:s.keys.length=(l.drop D).length:=by rw[Qm,<-aR.o];have:=ca.o;omega
     refine Xz d s.keys (l.drop D) _ _ us c ?_ ?_ (Aq.kept (h.keepsF aV.o) (fun _ h=>h) _ _ cd.o) (fun b a=>Q6 (aV.o b a) h.size) (fun k hk=>⟨List.all_eq_true.1 df.o k hk,HB.o.size k hk⟩) dj.o cL (by rw[<-aR.o];have:=ca.o;omega)
     .have:=de.o c ((r.o.trans aF.o).trans h)
      rw[<-aR.o]at this|-;exact this
     .rw[<-cL,<-aR.o,<-ca.o];exact cE.o.kept h
    go_upto_region 20 with(first
     |(go_at_call 94;refine(di.o _ cR).mono ?_;rintro e wm ⟨F3,dA,rfl,cM,cN,cO,be,cn⟩;unfold D1 at be;have cP:=be;simp only[AL]at cP;obtain⟨bo,bp,bm,bn,dF,rfl,_⟩:=cP;obtain⟨n1,cQ⟩:=Ue ((LA s.keys (l.drop D)).length);obtain⟨n2,cS⟩:=Ue ((AY s.keys).length);rw[<-cQ,<-cS]at be|-;rw[Jy];clear cQ cS;have dz:=hZ cM;have cA:=hZ cN;have cB:=hZ cO;have dg:=hZ be;have aH:=hZ cn;have dl:=hZ (aT.o.kept cn);clear cM cN cO be cn)
     |(refine Ae rfl _ _ _ rfl q (vC 6 false 0 Dz (nS bo n1 bp) (nS bm n2 bn)) ZN ZN _ _ dl.o A9 rfl (by intro u p;simp only[vC,Qh,List.not_mem_nil,or_false]at p;rcases p with rfl|rfl|rfl|rfl|rfl|rfl<;>rfl) ?_;intro f cs aZ a0;have b0:=hZ aZ;have aP:=hZ a0;clear aZ a0 cs))
    have t:=UD (Chg w0 f []) ((aF.o.trans aH.o).step aP.o (fun i hi bK=>by simp at hi;have:=aq.o;omega));have O:=UD (Ac f q [nI nX 6,.bool false,nI .u64 0,nG ⟨#[]⟩,nS bo n1 bp,nS bm n2 bn] 29) (b0.o.eq rfl);have dv:q<wt.heap.size:=bM;have C:=UD (∀b,F3 b->b<f.heap.size) fun b a=>Q6 (cB.o b a) aP.o.size
    have aN:n.heap.size<=wt.heap.size:=cC.o.size
    have ah:=UD (∀b,F3 b->F b\/w.heap.size<=b) fun b a=>by
     by_cases bK:b<wt.heap.size
     .exact(aW.o b (cA.o b a bK)).imp_right fun h=>Zj
     .exact .inr Zj
    have M:Hid (AL f F3 (AF s l) [nI nX 6,.bool false,nI .u64 0,nG ⟨#[]⟩,nS bo n1 bp,nS bm n2 bn]):=by
     unfold Hid;rw[dh.o];exact AL.kept (aP.o.keepsF cB.o (fun b a h=>by simp at a;subst a;exact cc.o (cA.o _ h dv))) (fun _ h=>h) _ _ dg.o
    obtain⟨dy,dC⟩:=Ue F3
    clear bM cz ct cu cv cw cx cy;have S:=Iy (s:=s) aE.o hl HB.o aK.o aJ.o;have G:=hZ S;have bk:w0.heap.size<=f.heap.size:=t.o.size;have U:=(HX.o.popK D aO).kept (r.o.trans t.o);have ak:=hZ U
    have y:=UD (∀c,Chg f c []->Cl prog 56 #[nA ([nI nX 6,.bool false,nI .u64 0,nG ⟨#[]⟩,nS bo n1 bp,nS bm n2 bn]:List Vl).toArray] c fun e w'=>e= nR (.bool (Ag (AF s l)).within)/\Chg c w' []) fun c h=>
     Ex (AF s l) F3 _ c G.o.1 G.o.2.1 G.o.2.2 (AL.kept (h.keepsF C.o) (fun _ h=>h) _ _ M.o) (fun b a=>Q6 (C.o b a) h.size)
    obtain⟨y1,y2,bq,br,bt,bu,bv,bw⟩:=Ac.cells6 O.o;clear S U;by_cases z:(Ag (AF s l)).within=true
    .rw[z]at y
     go_upto_region 22 with(first|(go_at_call 56;refine(y.o _ (by exact cg cR)).mono ?_;rintro e V ⟨rfl,o⟩;have E:=hZ o;have al:=hZ (O.o.kept o);obtain⟨bx,bF,bz,bA,bB,bC,bD,bE⟩:=Ac.cells6 al.o;clear o))
     go_region_law(first
      |(go_loud(refine Bw rfl _ _ _ rfl 29 NP 6 88 ZM underlying26 Dp rfl (nS ra D rc) D (xs.take (D*6)) ZN (by exact(ak.o.kept E.o).kept (bs:=[]) (by exact cg cR) Zh) V.heap.size [nI nX 6,.bool false,nI .u64 0,nG ⟨#[]⟩,nS bo n1 bp,nS bm n2 bn] ZN ZN (by exact Cm _ _ _) (by intro u p;simp only[Qh,List.not_mem_nil,or_false]at p;rcases p with rfl|rfl|rfl|rfl|rfl|rfl<;>rfl) Zj Zj ?_;intro g8 aY w8 R P Q;have aj:=hZ R;have ag:=hZ P;have ai:=hZ Q;clear R P Q)))
     all_goals
      go_wp2_with fail
      go_ret2
      have bl:=E.o.size
      exact IC z HX.o HV.o L.o HO.o aD.o (r.o.trans t.o) M.o C.o ah.o aj.o (((E.o.alloc _).drew.none _).trans ag.o) (by
       rcases ai.o with h|h
       .exact .inl h
       .simp at h;exact .inr Zj)
    .have T:(Ag (AF s l)).within=false:=by simpa using z
     rw[T]at y;clear z;go_wp2_with(first|(go_at_call 56;refine(y.o _ (by exact cg cR)).mono ?_;rintro e V ⟨rfl,o⟩))
     go_ret2
     exact Kz T ZM ((r.o.trans t.o).trans o)
  .have ci:s.sort=1\/s.sort=2\/s.sort=3\/s.sort=4:=by have:=af.o;omega
   have h7:=af.o.2.2.2.2.2.2;have h8:s.count=0:=Decidable.byContradiction fun g=>h5 (h7.1 g)
   have h9:s.keys=[]:=Decidable.byContradiction fun g=>h6 (h7.2 g)
   have aC:N=0:=by rw[HN.o];unfold Hn;rw[h8,h9];rfl
   have ar:s.sort≠3->Cg s.bits=0:=fun g=>by
    have:s.bits=0:=Decidable.byContradiction fun h=>g (af.o.2.2.2.2.1 h)
    rw[this];rfl
   have bL:∀(c:Wl) (d:Nat->Prop),AL c d (AF s l) [nI nX s.sort,.bool s.flag,nI .u64 (Cg s.bits),nG s.text,nS nN 0 0,nS nN 0 0]:=fun c d=>by
    have aM:s.sort≠2->s.flag=false:=fun g=>by cases h:s.flag with
     |false=>rfl
     |true=>exact absurd (af.o.2.2.2.1 h) g
    have ao:s.sort≠4->s.text=Dz:=fun g=>Decidable.byContradiction fun h=>g (af.o.2.2.2.2.2.1 h)
    unfold AF CF
    rcases ci with g|g|g|g
    .rw[Qr g,g,aM Zj,ar Zj,ao Zj];simp only[AL];exact⟨nN,0,nN,0,rfl⟩
    .rw[Qs Zj,Qr g,g,ar Zj,ao Zj];simp only[AL];exact⟨nN,0,nN,0,rfl⟩
    .rw[Qs Zj,Qs Zj,Qr g,g,aM Zj,ao Zj];simp only[AL];exact⟨nN,0,nN,0,rfl⟩
    .rw[Qs Zj,Qs Zj,Qs Zj,Qr g,g,aM Zj,ar Zj];simp only[AL];exact⟨nN,0,nN,0,rfl⟩
   have bH:s.sort=3->s.flag=false/\s.text=Dz:=fun g=>by
    refine⟨?_,Decidable.byContradiction fun h=>by have:=af.o.2.2.2.2.2.1 h;omega⟩
    cases h:s.flag with
    |false=>rfl
    |true=>have:=af.o.2.2.2.1 h;omega
   have d5:(s.sort==5)=false:=by simp[h5]
   have d6:(s.sort==6)=false:=by simp[h6]
   have a9:D=l.length:=Zj
   subst aC;subst a9;have dc:l.length-l.length=0:=Zj
   by_cases H:s.sort=3
   .have d3:(s.sort==3)=true:=by simp[H]
    rw[Qr H]at m;have dm:=UD (vC 3 false (Cg s.bits) ⟨#[]⟩ (nS nN 0 0) (nS nN 0 0)=[nI nX s.sort,.bool s.flag,nI .u64 (Cg s.bits),nG s.text,nS nN 0 0,nS nN 0 0]) (by rw[H,(bH H).1,(bH H).2];rfl);have aS:=hZ bL;clear H bH bL ar h7 h8 h9 ci h5 h6;go_enter func126,ntmps126
    go_upto_region 1 with(fail)
    rw[<-HW.o]
    go_upto_region 12 with((first
       |(go_at_call 160;refine(CM s.sort s.flag s.bits s.text s.count ka kn kc _).mono ?_;rintro e w1 ⟨rfl,K⟩;rw[HU.o];obtain⟨a1,a2,a3,a4,a5,a6,a7,a8⟩:=Ac.cells6 (m.o.cells _ K))
       |(go_at_call 161;refine(m.o.fin _).mono ?_;rintro e w2 ⟨rfl,a⟩;have Z:=K.trans a;obtain⟨b1,b2,b3,b4,b5,b6,b7,b8⟩:=Ac.cells6 (m.o.cells _ Z))
       |(go_at_call 162;refine(m.o.text _).mono ?_;rintro e w3 ⟨rfl,rfl⟩)
       |(go_at_call 163;refine(m.o.keys _ (by first|exact Z|exact K)).mono ?_;rintro e w4 ⟨rfl,hc⟩;have aa:Chg w0 w4 []:=(by first|exact Z.trans hc|exact K.trans hc);obtain⟨c1,c2,c3,c4,c5,c6,c7,c8⟩:=Ac.cells6 (m.o.cells _ aa))
       |(go_at_call 164;refine(m.o.twice rfl _ aa).mono ?_;rintro e A ⟨rfl,hd⟩;have ab:=aa.trans hd;obtain⟨d1,d2,d3,d4,d5,d6,d7,d8⟩:=Ac.cells6 (m.o.cells _ ab))))
    go_upto_region 13 with(fail)
    obtain⟨n,I⟩:=Ue (A.alloc (nC #[nI nX s.sort,.bool s.flag,nI .u64 0,nG s.text,nS nN 0 0,nS nN 0 0] 29))
    have W:Hid (Ac n A.heap.size (vC s.sort s.flag 0 s.text (nS nN 0 0) (nS nN 0 0)) 29):=by rw[I];exact hZ (Ac.new A _ _)
    have J:Hid (Chg w0 n []):=by rw[I];exact hZ (ab.alloc _)
    have ae:n.heap.size=A.heap.size+1:=by rw[I];simp
    have ad:w0.heap.size<=A.heap.size:=ab.size;rw[<-I];obtain⟨q,hq⟩:=Ue A.heap.size
    rw[<-hq]at W ae ad|-;have aU:=hZ ae;have aq:=hZ ad;obtain⟨q1,q2,bN,bO,bP,bQ,bR,bS⟩:=Ac.cells6 W.o;obtain⟨s1,s2,bT,bU,bV,bW,bX,bY⟩:=Ac.cells6 (m.o.cells _ J.o);clear I hq ae ad
    go_upto_region 15 with(first
     |(go_at_call 165;refine(YM s.bits _).mono ?_;rintro e w6 ⟨rfl,cl⟩;rw[Vd HB.o.bits];have dd:=hZ cl;have dk:=hZ (W.o.kept cl);clear cl)
     |(refine Ae rfl _ _ _ rfl q (vC 3 false (Cg s.bits) ⟨#[]⟩ (nS nN 0 0) (nS nN 0 0)) ZN ZN _ _ dk.o A9 rfl (by intro u p;simp only[vC,Qh,List.not_mem_nil,or_false]at p;rcases p with rfl|rfl|rfl|rfl|rfl|rfl<;>rfl) ?_;intro wv cs aZ a0;have b0:=hZ aZ;have aP:=hZ a0;clear aZ a0 cs))
    have aG:=UD (Chg w0 wv []) ((J.o.trans dd.o).step aP.o (fun i hi bK=>by simp at hi;have:=aq.o;omega));have aL:=UD (Ac wv q [nI nX s.sort,.bool s.flag,nI .u64 (Cg s.bits),nG s.text,nS nN 0 0,nS nN 0 0] 29) (b0.o.eq dm.o);obtain⟨cW,db,cX,cY,cZ,c0,c9,da⟩:=Ac.cells6 (m.o.cells _ aG.o);obtain⟨bM,cz,ct,cu,cv,cw,cx,cy⟩:=Ac.cells6 aL.o
    rcases Decidable.em (rc=l.length)with an|an
    .subst an
     go_upto_region 20 with(first|(at_builtin;refine A1 rfl _ _ _ rfl 29 ti underlying26 au _ 0 0 (Q8 _) ZN _ _ ZN ?_))
     obtain⟨f,B⟩:=Ue (wv.alloc (nC #[] 29))
     rw[<-B];have t:Hid (Chg w0 f []):=by rw[B];exact hZ (aG.o.alloc _)
     have O:Hid (Ac f q [nI nX s.sort,.bool s.flag,nI .u64 (Cg s.bits),nG s.text,nS nN 0 0,nS nN 0 0] 29):=by rw[B];exact hZ (aL.o.alloc _)
     obtain⟨d,Y⟩:=Ue (fun _=>False:Nat->Prop)
     have C:=UD (∀b,d b->b<f.heap.size) (by rw[Y];exact fun _ h=>h.elim);have ah:=UD (∀b,d b->F b\/w.heap.size<=b) (by rw[Y];exact fun _ h=>h.elim);have M:=UD (AL f d (AF s l) [nI nX s.sort,.bool s.flag,nI .u64 (Cg s.bits),nG s.text,nS nN 0 0,nS nN 0 0]) (aS.o f d);clear B Y;have S:=Iy (s:=s) aE.o hl HB.o aK.o aJ.o;have G:=hZ S;have bk:w0.heap.size<=f.heap.size:=t.o.size;have U:=(HX.o.popK l.length aO).kept (r.o.trans t.o);have ak:=hZ U
     have y:=UD (∀c,Chg f c []->Cl prog 56 #[nA ([nI nX s.sort,.bool s.flag,nI .u64 (Cg s.bits),nG s.text,nS nN 0 0,nS nN 0 0]:List Vl).toArray] c fun e w'=>e= nR (.bool (Ag (AF s l)).within)/\Chg c w' []) fun c h=>
      Ex (AF s l) d _ c G.o.1 G.o.2.1 G.o.2.2 (AL.kept (h.keepsF C.o) (fun _ h=>h) _ _ M.o) (fun b a=>Q6 (C.o b a) h.size)
     obtain⟨y1,y2,bq,br,bt,bu,bv,bw⟩:=Ac.cells6 O.o;clear S U;by_cases z:(Ag (AF s l)).within=true
     .rw[z]at y
      go_upto_region 22 with(first|(go_at_call 56;refine(y.o _ (by exact cg cR)).mono ?_;rintro e V ⟨rfl,o⟩;have E:=hZ o;have al:=hZ (O.o.kept o);obtain⟨bx,bF,bz,bA,bB,bC,bD,bE⟩:=Ac.cells6 al.o;clear o))
      go_region_law(first
       |(go_loud(refine Bw rfl _ _ _ rfl 29 NP 6 88 ZM underlying26 Dp rfl (nS ra l.length l.length) l.length (xs.take (l.length*6)) ZN (by exact(ak.o.kept E.o).kept (bs:=[]) (by exact cg cR) Zh) V.heap.size [nI nX s.sort,.bool s.flag,nI .u64 (Cg s.bits),nG s.text,nS nN 0 0,nS nN 0 0] ZN ZN (by exact Cm _ _ _) (by intro u p;simp only[Qh,List.not_mem_nil,or_false]at p;rcases p with rfl|rfl|rfl|rfl|rfl|rfl<;>rfl) Zj Zj ?_;intro g8 aY w8 R P Q;have aj:=hZ R;have ag:=hZ P;have ai:=hZ Q;clear R P Q)))
      all_goals
       go_wp2_with fail
       go_ret2
       have bl:=E.o.size
       exact IC z HX.o HV.o L.o HO.o aD.o (r.o.trans t.o) M.o C.o ah.o aj.o (((E.o.alloc _).drew.none _).trans ag.o) (by
        rcases ai.o with h|h
        .exact .inl h
        .simp at h;exact .inr Zj)
     .have T:(Ag (AF s l)).within=false:=by simpa using z
      rw[T]at y;clear z;go_wp2_with(first|(go_at_call 56;refine(y.o _ (by exact cg cR)).mono ?_;rintro e V ⟨rfl,o⟩))
      go_ret2
      exact Kz T ZM ((r.o.trans t.o).trans o)
    .skip
     go_upto_region 20 with(first|(at_builtin;refine A1 rfl _ _ _ rfl 29 ti underlying26 au _ 0 0 (Q8 _) ZN _ _ ZN ?_))
     obtain⟨f,B⟩:=Ue (wv.alloc (nC #[] 29))
     rw[<-B];have t:Hid (Chg w0 f []):=by rw[B];exact hZ (aG.o.alloc _)
     have O:Hid (Ac f q [nI nX s.sort,.bool s.flag,nI .u64 (Cg s.bits),nG s.text,nS nN 0 0,nS nN 0 0] 29):=by rw[B];exact hZ (aL.o.alloc _)
     obtain⟨d,Y⟩:=Ue (fun _=>False:Nat->Prop)
     have C:=UD (∀b,d b->b<f.heap.size) (by rw[Y];exact fun _ h=>h.elim);have ah:=UD (∀b,d b->F b\/w.heap.size<=b) (by rw[Y];exact fun _ h=>h.elim);have M:=UD (AL f d (AF s l) [nI nX s.sort,.bool s.flag,nI .u64 (Cg s.bits),nG s.text,nS nN 0 0,nS nN 0 0]) (aS.o f d);clear B Y;have S:=Iy (s:=s) aE.o hl HB.o aK.o aJ.o;have G:=hZ S;have bk:w0.heap.size<=f.heap.size:=t.o.size;have U:=(HX.o.popK l.length aO).kept (r.o.trans t.o);have ak:=hZ U
     have y:=UD (∀c,Chg f c []->Cl prog 56 #[nA ([nI nX s.sort,.bool s.flag,nI .u64 (Cg s.bits),nG s.text,nS nN 0 0,nS nN 0 0]:List Vl).toArray] c fun e w'=>e= nR (.bool (Ag (AF s l)).within)/\Chg c w' []) fun c h=>
      Ex (AF s l) d _ c G.o.1 G.o.2.1 G.o.2.2 (AL.kept (h.keepsF C.o) (fun _ h=>h) _ _ M.o) (fun b a=>Q6 (C.o b a) h.size)
     obtain⟨y1,y2,bq,br,bt,bu,bv,bw⟩:=Ac.cells6 O.o;clear S U;by_cases z:(Ag (AF s l)).within=true
     .rw[z]at y
      go_upto_region 22 with(first|(go_at_call 56;refine(y.o _ (by exact cg cR)).mono ?_;rintro e V ⟨rfl,o⟩;have E:=hZ o;have al:=hZ (O.o.kept o);obtain⟨bx,bF,bz,bA,bB,bC,bD,bE⟩:=Ac.cells6 al.o;clear o))
      go_region_law(first
       |(go_loud(refine Bw rfl _ _ _ rfl 29 NP 6 88 ZM underlying26 Dp rfl (nS ra l.length rc) l.length (xs.take (l.length*6)) ZN (by exact(ak.o.kept E.o).kept (bs:=[]) (by exact cg cR) Zh) V.heap.size [nI nX s.sort,.bool s.flag,nI .u64 (Cg s.bits),nG s.text,nS nN 0 0,nS nN 0 0] ZN ZN (by exact Cm _ _ _) (by intro u p;simp only[Qh,List.not_mem_nil,or_false]at p;rcases p with rfl|rfl|rfl|rfl|rfl|rfl<;>rfl) Zj Zj ?_;intro g8 aY w8 R P Q;have aj:=hZ R;have ag:=hZ P;have ai:=hZ Q;clear R P Q)))
      all_goals
       go_wp2_with fail
       go_ret2
       have bl:=E.o.size
       exact IC z HX.o HV.o L.o HO.o aD.o (r.o.trans t.o) M.o C.o ah.o aj.o (((E.o.alloc _).drew.none _).trans ag.o) (by
        rcases ai.o with h|h
        .exact .inl h
        .simp at h;exact .inr Zj)
     .have T:(Ag (AF s l)).within=false:=by simpa using z
      rw[T]at y;clear z;go_wp2_with(first|(go_at_call 56;refine(y.o _ (by exact cg cR)).mono ?_;rintro e V ⟨rfl,o⟩))
      go_ret2
      exact Kz T ZM ((r.o.trans t.o).trans o)
   .have d3:(s.sort==3)=false:=by simp[H]
    rw[Qs H]at m;have aS:=UD (∀(c:Wl) (d:Nat->Prop),AL c d (AF s l) [nI nX s.sort,.bool s.flag,nI .u64 0,nG s.text,nS nN 0 0,nS nN 0 0]) fun c d=>by have:=bL c d;rw[ar H]at this;exact this
    clear H bH bL ar h7 h8 h9 ci h5 h6;go_enter func126,ntmps126
    go_upto_region 1 with(fail)
    rw[<-HW.o]
    go_upto_region 12 with((first
       |(go_at_call 160;refine(CM s.sort s.flag s.bits s.text s.count ka kn kc _).mono ?_;rintro e w1 ⟨rfl,K⟩;rw[HU.o];obtain⟨a1,a2,a3,a4,a5,a6,a7,a8⟩:=Ac.cells6 (m.o.cells _ K))
       |(go_at_call 161;refine(m.o.fin _).mono ?_;rintro e w2 ⟨rfl,a⟩;have Z:=K.trans a;obtain⟨b1,b2,b3,b4,b5,b6,b7,b8⟩:=Ac.cells6 (m.o.cells _ Z))
       |(go_at_call 162;refine(m.o.text _).mono ?_;rintro e w3 ⟨rfl,rfl⟩)
       |(go_at_call 163;refine(m.o.keys _ (by first|exact Z|exact K)).mono ?_;rintro e w4 ⟨rfl,hc⟩;have aa:Chg w0 w4 []:=(by first|exact Z.trans hc|exact K.trans hc);obtain⟨c1,c2,c3,c4,c5,c6,c7,c8⟩:=Ac.cells6 (m.o.cells _ aa))
       |(go_at_call 164;refine(m.o.twice rfl _ aa).mono ?_;rintro e A ⟨rfl,hd⟩;have ab:=aa.trans hd;obtain⟨d1,d2,d3,d4,d5,d6,d7,d8⟩:=Ac.cells6 (m.o.cells _ ab))))
    go_upto_region 13 with(fail)
    obtain⟨n,I⟩:=Ue (A.alloc (nC #[nI nX s.sort,.bool s.flag,nI .u64 0,nG s.text,nS nN 0 0,nS nN 0 0] 29))
    have W:Hid (Ac n A.heap.size (vC s.sort s.flag 0 s.text (nS nN 0 0) (nS nN 0 0)) 29):=by rw[I];exact hZ (Ac.new A _ _)
    have J:Hid (Chg w0 n []):=by rw[I];exact hZ (ab.alloc _)
    have ae:n.heap.size=A.heap.size+1:=by rw[I];simp
    have ad:w0.heap.size<=A.heap.size:=ab.size;rw[<-I];obtain⟨q,hq⟩:=Ue A.heap.size
    rw[<-hq]at W ae ad|-;have aU:=hZ ae;have aq:=hZ ad;obtain⟨q1,q2,bN,bO,bP,bQ,bR,bS⟩:=Ac.cells6 W.o;obtain⟨s1,s2,bT,bU,bV,bW,bX,bY⟩:=Ac.cells6 (m.o.cells _ J.o);clear I hq ae ad;obtain⟨wv,cT⟩:=Ue n
    rw[<-cT]at J W q1 q2 bN bO bP bQ bR bS s1 s2 bT bU bV bW bX bY|-;have aG:=J;have aL:Hid (Ac wv q [nI nX s.sort,.bool s.flag,nI .u64 0,nG s.text,nS nN 0 0,nS nN 0 0] 29):=W;clear cT
    rcases Decidable.em (rc=l.length)with an|an
    .subst an
     go_upto_region 20 with(first|(at_builtin;refine A1 rfl _ _ _ rfl 29 ti underlying26 au _ 0 0 (Q8 _) ZN _ _ ZN ?_))
     obtain⟨f,B⟩:=Ue (wv.alloc (nC #[] 29))
     rw[<-B];have t:Hid (Chg w0 f []):=by rw[B];exact hZ (aG.o.alloc _)
     have O:Hid (Ac f q [nI nX s.sort,.bool s.flag,nI .u64 0,nG s.text,nS nN 0 0,nS nN 0 0] 29):=by rw[B];exact hZ (aL.o.alloc _)
     obtain⟨d,Y⟩:=Ue (fun _=>False:Nat->Prop)
     have C:=UD (∀b,d b->b<f.heap.size) (by rw[Y];exact fun _ h=>h.elim);have ah:=UD (∀b,d b->F b\/w.heap.size<=b) (by rw[Y];exact fun _ h=>h.elim);have M:=UD (AL f d (AF s l) [nI nX s.sort,.bool s.flag,nI .u64 0,nG s.text,nS nN 0 0,nS nN 0 0]) (aS.o f d);clear B Y;have S:=Iy (s:=s) aE.o hl HB.o aK.o aJ.o;have G:=hZ S;have bk:w0.heap.size<=f.heap.size:=t.o.size;have U:=(HX.o.popK l.length aO).kept (r.o.trans t.o);have ak:=hZ U
     have y:=UD (∀c,Chg f c []->Cl prog 56 #[nA ([nI nX s.sort,.bool s.flag,nI .u64 0,nG s.text,nS nN 0 0,nS nN 0 0]:List Vl).toArray] c fun e w'=>e= nR (.bool (Ag (AF s l)).within)/\Chg c w' []) fun c h=>
      Ex (AF s l) d _ c G.o.1 G.o.2.1 G.o.2.2 (AL.kept (h.keepsF C.o) (fun _ h=>h) _ _ M.o) (fun b a=>Q6 (C.o b a) h.size)
     obtain⟨y1,y2,bq,br,bt,bu,bv,bw⟩:=Ac.cells6 O.o;clear S U;by_cases z:(Ag (AF s l)).within=true
     .rw[z]at y
      go_upto_region 22 with(first|(go_at_call 56;refine(y.o _ (by exact cg cR)).mono ?_;rintro e V ⟨rfl,o⟩;have E:=hZ o;have al:=hZ (O.o.kept o);obtain⟨bx,bF,bz,bA,bB,bC,bD,bE⟩:=Ac.cells6 al.o;clear o))
      go_region_law(first
       |(go_loud(refine Bw rfl _ _ _ rfl 29 NP 6 88 ZM underlying26 Dp rfl (nS ra l.length l.length) l.length (xs.take (l.length*6)) ZN (by exact(ak.o.kept E.o).kept (bs:=[]) (by exact cg cR) Zh) V.heap.size [nI nX s.sort,.bool s.flag,nI .u64 0,nG s.text,nS nN 0 0,nS nN 0 0] ZN ZN (by exact Cm _ _ _) (by intro u p;simp only[Qh,List.not_mem_nil,or_false]at p;rcases p with rfl|rfl|rfl|rfl|rfl|rfl<;>rfl) Zj Zj ?_;intro g8 aY w8 R P Q;have aj:=hZ R;have ag:=hZ P;have ai:=hZ Q;clear R P Q)))
      all_goals
       go_wp2_with fail
       go_ret2
       have bl:=E.o.size
       exact IC z HX.o HV.o L.o HO.o aD.o (r.o.trans t.o) M.o C.o ah.o aj.o (((E.o.alloc _).drew.none _).trans ag.o) (by
        rcases ai.o with h|h
        .exact .inl h
        .simp at h;exact .inr Zj)
     .have T:(Ag (AF s l)).within=false:=by simpa using z
      rw[T]at y;clear z;go_wp2_with(first|(go_at_call 56;refine(y.o _ (by exact cg cR)).mono ?_;rintro e V ⟨rfl,o⟩))
      go_ret2
      exact Kz T ZM ((r.o.trans t.o).trans o)
    .skip
     go_upto_region 20 with(first|(at_builtin;refine A1 rfl _ _ _ rfl 29 ti underlying26 au _ 0 0 (Q8 _) ZN _ _ ZN ?_))
     obtain⟨f,B⟩:=Ue (wv.alloc (nC #[] 29))
     rw[<-B];have t:Hid (Chg w0 f []):=by rw[B];exact hZ (aG.o.alloc _)
     have O:Hid (Ac f q [nI nX s.sort,.bool s.flag,nI .u64 0,nG s.text,nS nN 0 0,nS nN 0 0] 29):=by rw[B];exact hZ (aL.o.alloc _)
     obtain⟨d,Y⟩:=Ue (fun _=>False:Nat->Prop)
     have C:=UD (∀b,d b->b<f.heap.size) (by rw[Y];exact fun _ h=>h.elim);have ah:=UD (∀b,d b->F b\/w.heap.size<=b) (by rw[Y];exact fun _ h=>h.elim);have M:=UD (AL f d (AF s l) [nI nX s.sort,.bool s.flag,nI .u64 0,nG s.text,nS nN 0 0,nS nN 0 0]) (aS.o f d);clear B Y;have S:=Iy (s:=s) aE.o hl HB.o aK.o aJ.o;have G:=hZ S;have bk:w0.heap.size<=f.heap.size:=t.o.size;have U:=(HX.o.popK l.length aO).kept (r.o.trans t.o);have ak:=hZ U
     have y:=UD (∀c,Chg f c []->Cl prog 56 #[nA ([nI nX s.sort,.bool s.flag,nI .u64 0,nG s.text,nS nN 0 0,nS nN 0 0]:List Vl).toArray] c fun e w'=>e= nR (.bool (Ag (AF s l)).within)/\Chg c w' []) fun c h=>
      Ex (AF s l) d _ c G.o.1 G.o.2.1 G.o.2.2 (AL.kept (h.keepsF C.o) (fun _ h=>h) _ _ M.o) (fun b a=>Q6 (C.o b a) h.size)
     obtain⟨y1,y2,bq,br,bt,bu,bv,bw⟩:=Ac.cells6 O.o;clear S U;by_cases z:(Ag (AF s l)).within=true
     .rw[z]at y
      go_upto_region 22 with(first|(go_at_call 56;refine(y.o _ (by exact cg cR)).mono ?_;rintro e V ⟨rfl,o⟩;have E:=hZ o;have al:=hZ (O.o.kept o);obtain⟨bx,bF,bz,bA,bB,bC,bD,bE⟩:=Ac.cells6 al.o;clear o))
      go_region_law(first
       |(go_loud(refine Bw rfl _ _ _ rfl 29 NP 6 88 ZM underlying26 Dp rfl (nS ra l.length rc) l.length (xs.take (l.length*6)) ZN (by exact(ak.o.kept E.o).kept (bs:=[]) (by exact cg cR) Zh) V.heap.size [nI nX s.sort,.bool s.flag,nI .u64 0,nG s.text,nS nN 0 0,nS nN 0 0] ZN ZN (by exact Cm _ _ _) (by intro u p;simp only[Qh,List.not_mem_nil,or_false]at p;rcases p with rfl|rfl|rfl|rfl|rfl|rfl<;>rfl) Zj Zj ?_;intro g8 aY w8 R P Q;have aj:=hZ R;have ag:=hZ P;have ai:=hZ Q;clear R P Q)))
      all_goals
       go_wp2_with fail
       go_ret2
       have bl:=E.o.size
       exact IC z HX.o HV.o L.o HO.o aD.o (r.o.trans t.o) M.o C.o ah.o aj.o (((E.o.alloc _).drew.none _).trans ag.o) (by
        rcases ai.o with h|h
        .exact .inl h
        .simp at h;exact .inr Zj)
     .have T:(Ag (AF s l)).within=false:=by simpa using z
      rw[T]at y;clear z;go_wp2_with(first|(go_at_call 56;refine(y.o _ (by exact cg cR)).mono ?_;rintro e V ⟨rfl,o⟩))
      go_ret2
      exact Kz T ZM ((r.o.trans t.o).trans o)
theorem DN{P:Program}{c:Func}{p q r:Tmp}{b:Ti}(h:c.results=#[.cell p b,.tmp q,.tmp r])(a:Array Vl)(w:Wl)(g:Nat)(T:Ti)(cs:List Vl)(d:TypeDesc)(i:a.getD p undef= nP (nM ⟨g,0,nN⟩))(e:Ac w g cs T)(l:P.underlying b=nM d)(f:(match d with| .struct _| .array _ _=>true|_=>false)=true)(hi:(P.info? b).map (·.size)=nM cs.length):
  (results c a).run P w= .ok (nT #[nA cs.toArray,a.getD q undef,a.getD r undef]) w:=by
 have j:a[p]?.getD undef= nP (nM ⟨g,0,nN⟩):=by simpa using i
 have k:=run_loadVar_row (P:=P) w g T b cs.toArray (0,0) d e l f (by simpa using hi);simp[results,h,j,asAddr,k]
def zV:List Vl:=[nI nX 0,.bool false,nI .u64 0,nG ⟨#[]⟩,nS nN 0 0,nS nN 0 0]
def Eu(l:List Ap)(w:Wl)(e:Ending)(w':Wl):Prop:=
 (match(if l.length<=65536 then CA l else nN)with
  |some t=>∃(F:Nat->Prop) (cs:List Vl),e= nR (nT #[nA cs.toArray,nI nX 0,nI nX 0])/\AL w' F t cs/\(∀b,F b->w.heap.size<=b/\b<w'.heap.size)/\(Ag t).within=true
  |none=>∃(k a:Int),k≠0/\e= nR (nT #[nA zV.toArray,nI nX k,nI nX a]))/\Chg w w' []
theorem Vo(l:List Ap)(sl:Vl)(xs:List Vl)(w:Wl)(hR:As w sl 6 l.length xs)(hS:Az w l xs)(q:∀s∈l,Di s)(hl:l.length<=4294967296):
  Cl prog 75 #[sl] w (Eu l w):=by
 obtain⟨a,c,rfl,aZ,_⟩:=hR.form;have HR:=hZ hR;have HS:=hZ hS;have S:=hZ q;obtain⟨w0,O⟩:=Ue (w.alloc (nC #[nI nX 0,.bool false,nI .u64 0,nG ⟨#[]⟩,nS nN 0 0,nS nN 0 0] 29))
 have X:Hid (Ac w0 w.heap.size zV 29):=by rw[O];exact hZ (Ac.new w _ _)
 have H:Hid (Chg w w0 []):=by rw[O];exact hZ ((Chg.refl w []).alloc _)
 have aF:w0.heap.size=w.heap.size+1:=by rw[O];simp
 have HZ:=hZ aF;have HW:=hZ O;clear hR hS q O aF;by_cases M:l.length<=65536
 .go_enter func75,ntmps75
  go_wp2_with fail
  rw[<-HW.o];go_loopw [5,6] (fun v5 v6 wr=>∃(i:Nat) (row:List Tr) (F:Nat->Prop),i<=l.length/\v6= nI nX i/\DS [] (l.take i)=nM row/\Zk wr F v5 row/\Chg w0 wr []/\(∀g,v5.ownBlock=nM g->w0.heap.size<=g)/\∀b,F b->w0.heap.size<=b) (fun _ v6 _=>l.length-(intOf v6).toNat)
  case atStart=>exact⟨0,[],fun _=>False,Zj,rfl,by simp[DS],⟨[],Ba.nil _ _ _,by simp[Aq],fun _ h=>h.elim,fun g m=>by cases m⟩,Chg.refl _ _,fun g m=>(by cases m),fun _ h=>h.elim⟩
  case round=>
   obtain⟨z,rfl⟩:=Ue wr
   obtain⟨i,row,F,hi,rfl,y,aA,m,ho,au⟩:=hrel;have W:=hZ au;have ae:=Jq (row:=[]) (fun _ h=>by cases h) y;have ah:row.length<=65536:=by have:=ae.2;rw[Ql]at this;simp at this;omega
   have A:=hZ m;have aa:=hZ y;have Z:=hZ aA;have HO:=hZ ho;have V:=hZ ae.1;have hP:=X.o.kept m;have Y:=hZ hP;obtain⟨x1,x2,aS,aT,aU,aV,aW,aX⟩:=Ac.cells6 hP;obtain⟨xr,C,_,_,_⟩:=aA;obtain⟨ra,rc,rfl,_⟩:=C.form;have aP:=C.capLe.2;clear y m ho ae C hP au;by_cases av:i<l.length
   .obtain⟨s,K⟩:∃s,l[i]? =nM s:=⟨_,Q9 av⟩
    have N:s∈l:=Qi K;obtain⟨sk,aj,ai⟩:=HS.o.get i s K;obtain⟨b,o,rfl,ab⟩:=HR.o.base Zj ZM
    have d:∀j v,(AI s sk)[j]? =nM v->z.cell? ⟨b,o+i*6+j,nN⟩=nM v:=fun j v hv=>by
     rw[Nat.add_assoc];exact(H.o.trans A.o).keeps (ab _ v (ai j v hv))
    have c0:=d 0 _ rfl;have c1:=d 1 _ rfl;have c2:=d 2 _ rfl;have c3:=d 3 _ rfl;have c4:=d 4 _ rfl;have c5:=d 5 _ rfl;rw[Nat.add_zero]at c0;have L:=aj.kept (H.o.trans A.o);by_cases J:Ds s row=true
    .have ag:=KE aa.o K
     rw[Qr J]at ag;have ad:=J;unfold Ds at ad;simp only[Bool.and_eq_true,decide_eq_true_eq]at ad;obtain⟨⟨B,ay⟩,R⟩:=ad;have U:=UD (Cl prog 126 #[nS ra row.length rc,nA #[nI nX s.sort,.bool s.flag,nI .u64 s.bits,nG s.text,nI nX s.count,sk]] z (Y5 F (NW row s) (nS ra row.length rc) z)) ((Ou row F _ s sk z Z.o L (S.o s N) V.o ah B ay).mono fun e w' h=>by unfold GE at h;rwa[Qr R]at h);have aJ:=hZ ag;clear ag B ay R J K N aj ai ab d L;go_wp2_with(first|(go_at_call 126;refine U.o.mono ?_;rintro e w3 ⟨⟨a2,F3,rfl,an,am,al⟩,I⟩;have aG:=hZ al;have aM:=hZ an;have aK:=hZ am;have T:=hZ I;clear an am I al))
     go_roundw
     case rel=>
      refine⟨i+1,NW row s,F3,Zj,by go_num,aJ.o,aM.o,A.o.step T.o (fun k x av=>by have:=HO.o k (by simpa using x);omega),fun g m=> ?_,fun g m=> ?_⟩
      .rcases aK.o g m with h|h
       .exact HO.o g h
       .exact Q7 A.o.size h
      .exact(aG.o g m).elim (W.o g) (fun h=>Q7 A.o.size h)
     case measure=>simp[intOf];omega
    .have aq:Ds s row=false:=by simpa using J
     have az:=Oz aa.o K aq;have f:(if l.length<=65536 then CA l else nN)=nN:=by rw[Qr M];unfold CA;rw[az]
     have D:=hZ f
     have U:Hid (Cl prog 126 #[nS ra row.length rc,nA #[nI nX s.sort,.bool s.flag,nI .u64 s.bits,nG s.text,nI nX s.count,sk]] z (Wf z)):=by
      by_cases B:Kw s=true/\Hn s<=row.length
      .have R:¬(Ag (AF s row)).within=true:=fun h=>J (by unfold Ds;simp only[Bool.and_eq_true,decide_eq_true_eq];exact⟨⟨B.1,B.2⟩,h⟩)
       exact hZ ((Ou row F _ s sk z Z.o L (S.o s N) V.o ah B.1 B.2).mono fun e w' h=>by unfold GE at h;rwa[Qs R]at h)
      .refine hZ (Vp row _ s sk z ⟨_,_,rfl⟩ L (S.o s N) Zj ?_)
       by_cases h:Kw s=true
       .exact .inr (by have:¬Hn s<=row.length:=fun g=>B ⟨h,g⟩;omega)
       .exact .inl (by simpa using h)
     clear az f J aq K N aj ai ab d L
     go_wp2_with(first
      |(go_at_call 126;refine U.o.mono ?_;rintro e w3 ⟨⟨v3,k3,af,rfl⟩,I⟩;have aI:=hZ af;have a1:(k3==0)=false:=(by rw[Qq];exact af);have aL:=hZ (Y.o.kept I);have T:=hZ I;clear I af)
      |(refine Ae rfl _ _ _ rfl w.heap.size zV ZN ZN _ _ aL.o A9 rfl (by intro u n;simp only[zV,Qh,List.not_mem_nil,or_false]at n;rcases n with rfl|rfl|rfl|rfl|rfl|rfl<;>rfl) ?_;intro w9 G E p;clear G))
     refine bodyPost_ret (DN rfl _ _ w.heap.size 29 zV _ rfl E underlying29 rfl A9) rfl ?_;unfold Eu;rw[D.o];exact⟨⟨_,_,aI.o,rfl⟩,((H.o.trans A.o).trans T.o).fresh p (fun k x=>by simp at x;omega)⟩
   .obtain rfl:i=l.length:=by omega
    have y:=aa.o;rw[Qn (Q8 _)]at y;by_cases P:row.length=1
    .obtain⟨t,rfl⟩:∃t,row=[t]:=by
      match row,P with
      |[t],_=>exact⟨t,rfl⟩
     have f:(if l.length<=65536 then CA l else nN)=nM t:=by rw[Qr M];unfold CA;rw[y]
     have D:=hZ f;obtain⟨xr,C,aE,aD,aR⟩:=Z.o;obtain⟨a',c',e',ao⟩:=C.form
     injection e' with e1 _ e3
     subst e1;subst e3;obtain⟨g,rfl⟩:=ao Zh;simp only[Aq]at aE;obtain⟨cs,r,rfl,Q,rfl⟩:=aE;have aQ:=Q.uni;obtain⟨la,lc,ka,kc,a3,rfl,_⟩:=aQ;obtain⟨so,aB⟩:=Ue (((Aa t).sort:Int))
     obtain⟨fl,ar⟩:=Ue ((Aa t).flag)
     obtain⟨bi,ap⟩:=Ue (((Aa t).bits:Int))
     obtain⟨tx,aC⟩:=Ue ((Aa t).text)
     obtain⟨n1,aw⟩:=Ue ((Ab t).length)
     obtain⟨n2,ax⟩:=Ue ((Aa t).keys.length)
     rw[<-aB,<-ar,<-ap,<-aC,<-aw,<-ax]at C Q;have d:∀j v,(vC so fl bi tx (nS la n1 lc) (nS ka n2 kc))[j]? =nM v->z.cell? ⟨g,j,nN⟩=nM v:=fun j v hv=>C.cell rfl j v (by rw[List.append_nil];exact hv)
     have c0:=d 0 _ rfl;have c1:=d 1 _ rfl;have c2:=d 2 _ rfl;have c3:=d 3 _ rfl;have c4:=d 4 _ rfl;have c5:=d 5 _ rfl;have aN:=hZ Q;have ak:=hZ aD;have aH:Hid ((Ag t).within=true):=V.o t Zh;simp only[Qj,List.length_nil]at aP ah|-;clear d C Q aD aR ao aB ar ap aC aw ax P y f
     go_wp2_with(first
      |(refine Ae rfl _ _ _ rfl w.heap.size (vC so fl bi tx (nS la n1 lc) (nS ka n2 kc)) ZN ZN _ _ Y.o A9 rfl (by intro u n;simp only[vC,Qh,List.not_mem_nil,or_false]at n;rcases n with rfl|rfl|rfl|rfl|rfl|rfl<;>rfl) ?_;intro w9 G E p;clear G))
     refine bodyPost_ret (DN rfl _ _ w.heap.size 29 (vC so fl bi tx (nS la n1 lc) (nS ka n2 kc)) _ rfl E underlying29 rfl A9) rfl ?_;unfold Eu;rw[D.o]
     have aO:∀b,F b->b≠w.heap.size:=fun b q=>by
      have:=W.o b q;have:=HZ.o;omega
     exact⟨⟨F,_,rfl,AL.kept (p.keepsF ak.o (fun b q h=>aO b h (by simpa using q))) (fun _ h=>h) _ _ aN.o,fun b q=>⟨by have:=W.o b q;have:=HZ.o;omega,Q6 (ak.o b q) p.size⟩,aH.o⟩,(H.o.trans A.o).fresh p (fun k x=>by simp at x;omega)⟩
    .have f:(if l.length<=65536 then CA l else nN)=nN:=by
      rw[Qr M];unfold CA;rw[y]
      match row,P with
      |[],_=>rfl
      |[t],h=>exact absurd rfl h
      |_::_::_,_=>rfl
     have D:=hZ f;have aY:((row.length:Int)==1)=false:=by rw[Qq];omega
     clear f y P
     go_wp2_with(first
      |(refine Ae rfl _ _ _ rfl w.heap.size zV ZN ZN _ _ Y.o A9 rfl (by intro u n;simp only[zV,Qh,List.not_mem_nil,or_false]at n;rcases n with rfl|rfl|rfl|rfl|rfl|rfl<;>rfl) ?_;intro w9 G E p;clear G))
     refine bodyPost_ret (DN rfl _ _ w.heap.size 29 zV _ rfl E underlying29 rfl A9) rfl ?_;unfold Eu;rw[D.o];exact⟨⟨_,_,ZM,rfl⟩,(H.o.trans A.o).fresh p (fun k x=>by simp at x;omega)⟩
 .have f:(if l.length<=65536 then CA l else nN)=nN:=Qs M
  have D:=hZ f;have a0:(65536:Int)<(l.length:Int):=Zj
  obtain⟨x1,x2,aS,aT,aU,aV,aW,aX⟩:=Ac.cells6 X.o;clear f M;go_enter func75,ntmps75
  go_upto_region 1 with(fail)
  rw[<-HW.o]
  go_wp2_with(first
   |(refine Ae rfl _ _ _ rfl w.heap.size zV ZN ZN _ _ X.o A9 rfl (by intro u n;simp only[zV,Qh,List.not_mem_nil,or_false]at n;rcases n with rfl|rfl|rfl|rfl|rfl|rfl<;>rfl) ?_;intro w9 G E p;clear G))
  refine bodyPost_ret (DN rfl _ _ w.heap.size 29 zV _ rfl E underlying29 rfl A9) rfl ?_;unfold Eu;rw[D.o];exact⟨⟨_,_,ZM,rfl⟩,H.o.fresh p (fun k x=>by simp at x;omega)⟩
end
section
open _root_.Go.Proofs.Tryz
open Go Go.RowKit Tree Ptr
theorem Zx{ks:List BY}{k:BY}(h:k∈ks):k.size<=Ay ks:=by
 obtain⟨i,hi⟩:=List.mem_iff_getElem?.1 h;have:=IW hi;omega
theorem Ez{t:Tr}(h:Av t)(d:(Ag t).within=true):Di (Aa t).toI:=by
 have c:=Ar d;have hi:=Bj t
 cases t with
 |num b=>simp only[Av]at h;exact⟨h.1,by show(0:Nat)<=_;omega,by simp[Aa,Aw.toI],by simp[Aa,Aw.toI],by simp[Aa,Aw.toI,Ay],by simp[Aa,Aw.toI]⟩
 |text s=>simp only[Av]at h;exact⟨by simp[Aa,Aw.toI],by simp only[Aa,Aw.toI];omega,by simp[Aa,Aw.toI],by simp[Aa,Aw.toI],by simp[Aa,Aw.toI,Ay],by simp[Aa,Aw.toI]⟩
 |obj ks l=>
  simp only[Av]at h;simp only[Ab]at hi;have e:Ay ks<=2097152:=by simp only[Ag,Sz.over]at c;omega
  refine⟨by simp[Aa,Aw.toI],by show(0:Nat)<=_;omega,by simp only[Aa,Aw.toI];omega,fun k a=> ?_,by simp only[Aa,Aw.toI];omega,by simp[Aa,Aw.toI]⟩;have:=Zx a;simp only[Aa,Aw.toI]at a this|-;omega
 |list l=>
  simp only[Ab]at hi;exact⟨by simp[Aa,Aw.toI],by show(0:Nat)<=_;omega,by simp[Aa,Aw.toI],by simp[Aa,Aw.toI],by simp[Aa,Aw.toI,Ay],by simp only[Aa,Aw.toI];omega⟩
 |flag b=>exact⟨by simp[Aa,Aw.toI],by show(0:Nat)<=_;omega,by simp[Aa,Aw.toI],by simp[Aa,Aw.toI],by simp[Aa,Aw.toI,Ay],by simp[Aa,Aw.toI]⟩
 |null=>exact⟨by simp[Aa,Aw.toI],by show(0:Nat)<=_;omega,by simp[Aa,Aw.toI],by simp[Aa,Aw.toI],by simp[Aa,Aw.toI,Ay],by simp[Aa,Aw.toI]⟩
mutual
theorem Uy:∀(t:Tr),Av t->(Ag t).within=true->∀s∈Ai t,Di s.toI
 | .null,h,hw,s,hs=>by simp only[Ai,List.mem_singleton]at hs;subst hs;exact Ez h hw
 | .flag _,h,hw,s,hs=>by simp only[Ai,List.mem_singleton]at hs;subst hs;exact Ez h hw
 | .num _,h,hw,s,hs=>by simp only[Ai,List.mem_singleton]at hs;subst hs;exact Ez h hw
 | .text _,h,hw,s,hs=>by simp only[Ai,List.mem_singleton]at hs;subst hs;exact Ez h hw
 | .list l,h,hw,s,hs=>by
  simp only[Ai,Qf,List.mem_singleton]at hs
  rcases hs with hs|hs
  .exact PG l (fun u hu=>⟨h.items u hu,C8 hw hu⟩) s hs
  .subst hs;exact Ez h hw
 | .obj ks l,h,hw,s,hs=>by
  simp only[Ai,Qf,List.mem_singleton]at hs
  rcases hs with hs|hs
  .exact PG l (fun u hu=>⟨h.items u hu,C8 hw hu⟩) s hs
  .subst hs;exact Ez h hw
theorem PG:∀(l:List Tr),(∀u∈l,Av u/\(Ag u).within=true)->∀s∈BI l,Di s.toI
 |[],_,s,hs=>by simp[BI]at hs
 |t::l,h,s,hs=>by
  simp only[BI,Qf]at hs
  rcases hs with hs|hs
  .exact Uy t (h t Zh).1 (h t Zh).2 s hs
  .exact PG l (fun u hu=>h u (by simp[hu])) s hs
end
theorem KI{t:Tr}(h:Bt t):∀s∈MW t,Di s:=fun s a=>by
 unfold MW at a;obtain⟨p,b,rfl⟩:=List.mem_map.1 a;exact Uy t h.good h.fits p b
theorem Ju(t:Tr):(MW t).length=(Ag t).nodes:=by unfold MW;rw[List.length_map,BL]
def F9(t:Tr)(w:Wl)(e:Ending)(w':Wl):Prop:=
 ∃(F:Nat->Prop) (a:Nat),e= nR (nT #[nP (nM ⟨a,0,nN⟩),.nilIface])/\CG w' F a t/\(∀b,F b->b<w'.heap.size)/\Chg w w' []/\(∀b,F b->w.heap.size<=b)/\w.heap.size<=a
theorem BO.steps{t:Tr}(h:Bt t){w w':Wl}{e:Ending}(a:BO (MW t) w e w'):F9 t w e w':=by
 unfold BO at a;have b:=FE h.good h.fits;unfold AS at b;have j:MW t=(Ai t).map Aw.toI:=rfl;rw[j,b]at a;obtain⟨⟨F,k,c,d,f,_,i⟩,g⟩:=a;exact⟨F,k,c,d,f,g,i⟩
theorem ZC{t:Tr}{v:Vl}{bs:List Nat}{w:Wl}(h:Bt t)(d:AP w t v bs):Cl prog 44 #[v] w (F9 t w):=by
 obtain⟨u,x,rfl⟩:=d.iface;have l:=UD (∀a,Chg w a []->∃f args,(callMethod (nF u x) EB #[nS nN 0 0]).run prog a= .ok (.enter f args) a/\Cl prog f args a fun e w'=>∃sv,e= nR sv/\LN t a sv w') fun a J=>Le h.good h.fits (d.chg J Zh)
 obtain⟨f,args,o,n⟩:=l.o w cR;have z:=hZ n;have B:=hZ o;have L:=hZ h;have M:=(Ar h.fits).1;have k:=Ju t
 have y:=UD (∀(a:Wl) (sv:Vl) (xs:List Vl),Ba a sv 72 6 (Ag t).nodes xs->Az a (MW t) xs->Cl prog 28 #[sv] a (F9 t a)) fun a sv xs g c=>
  (Fk (MW t) sv xs a (by rw[k];exact g.rowC (by rw[c.length,k])) c (KI h) (by rw[k];omega)).mono fun e w' d=>BO.steps h d
 clear n o d h l;go_enter func44,ntmps44
 go_wp2_with(first
  |(refine Ft rfl _ _ _ _ rfl (nF u x) (nS nN 0 0) ZN ZN f args B.o _ z.o ?_;rintro e N ⟨sv,rfl,j⟩;refine⟨_,rfl, ?_⟩;obtain⟨G,xs,g,c,_⟩:=j.ex;have A:=hZ g;have C:=hZ c;have i:=hZ j.chg;clear j g c)
  |(go_at_call 28;refine(y.o _ sv xs A.o C.o.toR).mono ?_;rintro e w2 ⟨F,K,rfl,p,q,r,s⟩;have D:=hZ p;have E:=hZ q;have H:=hZ r;have m:=hZ s;clear p q r s))
 refine bodyPost_ret (results_tmp2 rfl _ _ _) rfl ⟨F,K,Zh,D.o,E.o,(by exact cg (i.o.trans H.o)),fun b I=>Q7 i.o.size (m.o.1 b I),Q7 i.o.size m.o.2⟩
end
section
open _root_.Go.Proofs.Tryz
open Go Go.Shelf Go.RowKit Go.Lib Tree Ptr
theorem Gn{P:Program}{c:Func}{p q:Tmp}{b:Ti}(h:c.results=#[.cell p b,.tmp q])(a:Array Vl)(w:Wl)(g:Nat)(T:Ti)(cs:List Vl)(d:TypeDesc)(i:a.getD p undef= nP (nM ⟨g,0,nN⟩))(e:Ac w g cs T)(l:P.underlying b=nM d)(f:(match d with| .struct _| .array _ _=>true|_=>false)=true)(hi:(P.info? b).map (·.size)=nM cs.length):
  (results c a).run P w= .ok (nT #[nA cs.toArray,a.getD q undef]) w:=by
 have j:a[p]?.getD undef= nP (nM ⟨g,0,nN⟩):=by simpa using i
 have k:=run_loadVar_row (P:=P) w g T b cs.toArray (0,0) d e l f (by simpa using hi);simp[results,h,j,asAddr,k]
def ZY(r:Option Tr)(w:Wl)(e:Ending)(w':Wl):Prop:=(match r with
 |some t=>∃(F:Nat->Prop) (cs:List Vl),e= nR (nT #[nA cs.toArray,.bool true])/\AL w' F t cs/\(∀b,F b->w.heap.size<=b/\b<w'.heap.size)/\(Ag t).within=true
 |none=>e= nR (nT #[nA zV.toArray,.bool false]))/\Chg w w' []
theorem XX{xs us:List Vl}{i:Nat}(b:us.length=6)(h:∀j v,us[j]? =nM v->xs[i*6+j]? =nM v):xs.take ((i+1)*6)=xs.take (i*6)++us:=by
 rw[show(i+1)*6=i*6+6 from by omega,List.take_add]
 congr 1
 apply List.ext_getElem?;intro j;rw[List.getElem?_take,List.getElem?_drop];by_cases a:j<6
 .rw[Qr a,Q9 (by omega:j<us.length)]
  exact h j _ (Q9 Zj)
 .rw[Qs a,List.getElem?_eq_none Zj]
theorem Mz(h:Int)(g:Bool)(f:Int)(i:BY)(a b:Option Addr)(n c m d:Nat):∀u∈vC h g f i (nS a n c) (nS b m d),u.oneCell'=true:=by
 intro u e;simp only[vC,Qh,List.not_mem_nil,or_false]at e
 rcases e with rfl|rfl|rfl|rfl|rfl|rfl<;>rfl
theorem Vq(l:List Ap)(sl:Vl)(xs:List Vl)(w:Wl)(X:As w sl 6 l.length xs)(hS:Az w l xs)(c:∀s∈l,Di s)(M:l.length<=4294967296):
  Cl prog 41 #[sl] w (ZY (AS l) w):=by
 obtain⟨sa,sc,rfl,az,an⟩:=X.form;have HR:=hZ X;have HS:=hZ hS;have aq:=hZ c;have ad:=hZ an;obtain⟨n,hn⟩:=Ue l.length
 have C:=hZ hn;have av:=hZ M;rw[<-hn]at M|-;clear X hS c hn an az;go_enter func41,ntmps41
 go_wp2_with fail
 obtain⟨w0,O⟩:=Ue (w.alloc (nC #[nI nX 0,.bool false,nI .u64 0,nG ⟨#[]⟩,nS nN 0 0,nS nN 0 0] 29))
 have H0:Hid (Chg w w0 []):=by rw[O];exact hZ ((Chg.refl w []).alloc _)
 have ap:Hid (Ac w0 w.heap.size zV 29):=by rw[O];exact hZ (Ac.new w zV _)
 rw[<-O];clear O;go_loopw [5,4] (fun v5 v4 wr=>∃(i:Nat) (q:Option Addr) (I:Nat),i<=n/\v5= nI nX i/\v4= nS q i I/\Ba wr v4 158 6 i (xs.take (i*6))/\Ac wr w.heap.size zV 29/\Chg w wr []/\(∀g,v4.ownBlock=nM g->w.heap.size<g)) (fun v5 _ _=>n-(intOf v5).toNat)
 case atStart=>exact⟨0,nN,0,Zj,rfl,rfl,by rw[Nat.zero_mul,List.take_zero];exact Ba.nil _ _ _,ap.o,H0.o,fun g r=>by cases r⟩
 case round=>
  obtain⟨i,q,I,hi,rfl,rfl,hL,Y,hc,al⟩:=hrel;have HL:=hZ hL;have S:=hZ Y;have B:=hZ hc;have V:=hZ al;have lR:w.heap.size<wr.heap.size:=Y.lt;clear hL Y hc al;by_cases aE:i<n
  .obtain⟨s,hs⟩:∃s,l[i]? =nM s:=⟨_,Q9 (by have:=C.o;omega)⟩
   obtain⟨b,o,rfl,ai⟩:=HR.o.base (by have:=C.o;omega) ZM;obtain⟨sk,am,ab⟩:=Az.get HS.o i s hs;obtain⟨y,z,rfl,_⟩:=am.form;have p:∀j v,(AI s (nS y s.keys.length z))[j]? =nM v->wr.cell? ⟨b,o+i*6+j,nN⟩=nM v:=fun j v x=>B.o.keeps (by rw[Nat.add_assoc];exact ai _ v (ab j v x))
   have c0:=p 0 _ rfl;have c1:=p 1 _ rfl;have c2:=p 2 _ rfl;have c3:=p 3 _ rfl;have c4:=p 4 _ rfl;have c5:=p 5 _ rfl;rw[Nat.add_zero]at c0;have ax:=hZ (XX (xs:=xs) (i:=i) (us:=AI s (nS y s.keys.length z)) rfl ab);clear hs am ab p ai;go_wp2_with((at_builtin;go_loud(refine Bg rfl _ _ _ rfl 158 Iq 6 72 ZM underlying156 GO rfl (nS q i I) i (xs.take (i*6)) ZN (by exact HL.o.kept (bs:=[]) (by exact cg cR) Zh) (wr.heap.size+1) (AI s (nS y s.keys.length z)) ZN rfl (by intro j v x;exact((BD _ _ (AI s (nS y s.keys.length z)) 158 _ rfl Zh).cell j).trans x) (C0 _ _ _ _) Zj Zj ?_);intro g aC w7 ag af ah;have au:=hZ ag;have ar:=hZ af;have aw:=hZ ah;clear ag af ah))
   go_roundw
   case rel=>
    have aj:Chg wr w7 (Vl.slice q i I).ownBlock.toList:=Chg.step (b:=_) (bs:=(Vl.slice q i I).ownBlock.toList) (by exact cg cR) ar.o (fun i hi M=>hi);refine⟨i+1,_,_,Zj,by go_num,rfl,by rw[ax.o];exact au.o,S.o.kept aj (fun hm=> ?_),B.o.fresh aj (fun g r=>Nat.le_of_lt (V.o g (by simpa using r))),fun g2 f=> ?_⟩
    .have:=V.o _ (by simpa using hm);omega
    .simp[Vl.ownBlock]at f
     subst f
     rcases aw.o with h|h
     .exact V.o _ h
     .rw[h];simp;omega
   case measure=>simp[intOf];omega
  .obtain rfl:i=n:=by omega
   have ao:xs.take (i*6)=xs:=Qn (by have:=ad.o;have:=C.o;omega);have W:=HL.o;rw[ao]at W;have aa:=W.rowC (by have:=ad.o;have:=C.o;omega);rw[C.o]at aa;have d:=Vo l _ xs wr aa (Az.kept B.o HS.o) aq.o av.o;have e0:(if l.length<=65536 then CA l else nN)=AS l:=rfl;unfold Eu at d;rw[e0,<-C.o]at d;clear W aa ao e0
   cases E:AS l with
   |none=>
    rw[E]at d;have R:=hZ d;have T:=hZ E;clear d E;go_wp2_with fail
    refine R.o.mono ?_;rintro e A ⟨⟨k,a,hk,rfl⟩,D⟩;have G:=hZ D;have aD:(k==0)=false:=by simpa using hk
    clear D
    go_wp2_with(first
     |(refine Ae rfl _ _ _ rfl A.heap.size zV ZN ZN 29 _ (BD _ _ zV _ _ rfl rfl) A9 rfl (Mz 0 false 0 ⟨#[]⟩ nN nN 0 0 0 0) ?_;intro w2 aA J f;have P:=hZ J;have m:=UD (Chg A w2 []) (Chg.step (b:=_) (by exact cg cR) f (fun i hi M=>by simp at hi;omega));clear J f)
     |(refine Bp rfl _ _ rfl A.heap.size ZN 29 zV (by exact P.o) _ underlying29 rfl A9 ?_)
     |(refine Ae rfl _ _ _ rfl w.heap.size zV ZN ZN 29 _ ((S.o.kept G.o).kept m.o) A9 rfl (Mz 0 false 0 ⟨#[]⟩ nN nN 0 0 0 0) ?_;intro w3 aB K L;have Q:=hZ K;have H:=hZ L;clear K L))
    refine bodyPost_ret (Gn rfl _ _ w.heap.size 29 zV _ rfl Q.o underlying29 rfl A9) rfl ?_;rw[T.o];exact⟨rfl,(B.o.trans (G.o.trans m.o)).fresh H.o (fun g r=>by simp at r;omega)⟩
   |some t=>
    rw[E]at d;have R:=hZ d;have T:=hZ E;clear d E
    go_wp2_with(first
     |(go_at_call 75;refine R.o.mono ?_;rintro e A ⟨⟨F,cs,rfl,x,hF,hw⟩,D⟩;have G:=hZ D;have U:=hZ hF;have ay:=hZ hw;have HV:=hZ x;obtain⟨la,lc,y,z,ys,rfl,_⟩:=x.uni;have N:(prog.info? 29).map (·.size)=nM (vC (Aa t).sort (Aa t).flag (Aa t).bits (Aa t).text (nS la (Ab t).length lc) (nS y (Aa t).keys.length z)).length:=A9;generalize Z:vC (Aa t).sort (Aa t).flag (Aa t).bits (Aa t).text (nS la (Ab t).length lc) (nS y (Aa t).keys.length z)=cs at*;have ae:∀u∈cs,u.oneCell'=true:=(by rw[<-Z];exact Mz _ _ _ _ _ _ _ _ _ _);have ak:cs.length=6:=(by rw[<-Z];rfl);clear D Z x hF hw)
     |(refine Ae rfl _ _ _ rfl A.heap.size cs ZN ZN 29 zV (BD _ _ zV _ _ rfl rfl) N (by rw[ak];rfl) ae ?_;intro w2 aA J f;have P:=hZ J;have m:=UD (Chg A w2 []) (Chg.step (b:=_) (by exact cg cR) f (fun i hi M=>by simp at hi;omega));clear J f)
     |(refine Bp rfl _ _ rfl A.heap.size ZN 29 cs (by exact P.o) _ underlying29 rfl N ?_)
     |(refine Ae rfl _ _ _ rfl w.heap.size cs ZN ZN 29 zV ((S.o.kept G.o).kept m.o) N (by rw[ak];rfl) ae ?_;intro w3 aB K L;have Q:=hZ K;have H:=hZ L;clear K L))
    refine bodyPost_ret (Gn rfl _ _ w.heap.size 29 cs _ rfl Q.o underlying29 rfl N) rfl ?_;rw[T.o];have hz:=B.o.size;refine⟨⟨F,cs,rfl,AL.kept (((m.o.none [w.heap.size]).trans H.o).keepsF (fun b c=>(U.o b c).2) (fun b c hm=> ?_)) (fun _ h=>h) _ _ HV.o,fun b c=> ?_,ay.o⟩,(B.o.trans (G.o.trans m.o)).fresh H.o (fun g r=>by simp at r;omega)⟩
    .simp at c;subst c;have:=(U.o _ hm).1;omega
    .have D:=U.o b c;have h2:=m.o.size;have h3:=H.o.size;omega
end
end Go.Proofs.YtkfnkppdhcaeoaaGreatDoor

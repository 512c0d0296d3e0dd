/- Part 24 of the proof of patchJoined_card. -/
import Derived.Test.YtkfnkppdhcaeoaaGreatDoorM23
set_option maxRecDepth 100000
set_option maxHeartbeats 32000000
set_option linter.unusedSimpArgs false
set_option linter.unusedVariables false
set_option linter.unnecessarySimpa false
namespace Go.Proofs.YtkfnkppdhcaeoaaGreatDoor
open Go renaming Calls->Cl,TypeId->Ti,Value->Vl,World->Wl
section
open _root_.Go.Proofs.Tryz
open Go Go.RowKit Tree
theorem Aq.split{w:Wl}{F:Nat->Prop}{l:List Tr}{xs:List Vl}(h:Aq w F l xs)(k:Nat):Aq w F (l.take k) (xs.take (6*k))/\Aq w F (l.drop k) (xs.drop (6*k)):=by
 induction l generalizing xs k with
 |nil=>simp only[Aq]at h;subst h;simp[Aq]
 |cons t l g=>
  simp only[Aq]at h;obtain⟨c,r,rfl,a,b⟩:=h
  cases k with
  |zero=>simp only[List.take_zero,Nat.mul_zero,List.drop_zero,Aq];exact⟨trivial,c,r,rfl,a,b⟩
  |succ k=>
   have d:=a.length;obtain⟨e,f⟩:=g b k;simp only[List.take_succ_cons,List.drop_succ_cons,Aq];rw[List.take_append,List.drop_append,d,show 6*(k+1)-6=6*k from by omega,Qn (by omega:c.length<=6*(k+1)),List.drop_of_length_le (by omega:c.length<=6*(k+1)),List.nil_append];exact⟨⟨c,_,rfl,a,e⟩,f⟩
theorem Aq.append{w:Wl}{F:Nat->Prop}{l m:List Tr}{xs ys:List Vl}(h:Aq w F l xs)(k:Aq w F m ys):Aq w F (l++m) (xs++ys):=by
 induction l generalizing xs with
 |nil=>simp only[Aq]at h;subst h;simpa using k
 |cons t l d=>
  simp only[Aq]at h;obtain⟨c,r,rfl,a,b⟩:=h;simp only[Qo,Aq];exact⟨c,r++ys,by simp,a,d b⟩
theorem AL.ones{w:Wl}{F:Nat->Prop}{t:Tr}{cs:List Vl}(h:AL w F t cs):∀u∈cs,u.oneCell'=true:=by
 obtain⟨_,_,_,_,_,rfl,_⟩:=h.uni;intro u a;simp only[vC,Qh,List.not_mem_nil,or_false]at a
 rcases a with rfl|rfl|rfl|rfl|rfl|rfl<;>rfl
theorem Aq.ones{w:Wl}{F:Nat->Prop}{l:List Tr}{xs:List Vl}(h:Aq w F l xs):∀u∈xs,u.oneCell'=true:=by
 induction l generalizing xs with
 |nil=>simp only[Aq]at h;subst h;intro u a;cases a
 |cons t l e=>
  simp only[Aq]at h;obtain⟨c,r,rfl,b,d⟩:=h;intro u a
  rcases Qf.1 a with a|a
  .exact b.ones u a
  .exact e d u a
theorem Z2(w:Wl)(e:Ti)(sz:Nat):Ba (w.alloc (.cells #[] e)) (.slice (some ⟨w.heap.size,0,none⟩) 0 0) e sz 0 []:=World.ownsRow_made w #[] 0 (Nat.zero_le _) (Nat.zero_le _) (by simp)
theorem Vd{b:Nat}(h:b<18446744073709551616):Tl b=Cg b:=by
 unfold Tl Cg Fl.A7;split<;>split<;>omega
theorem Ba.popK{w:Wl}{a:Option Addr}{n b sz:Nat}{e:Ti}{xs:List Vl}(h:Ba w (.slice a n b) e sz n xs)(k:Nat)(q:k<=n):Ba w (.slice a k b) e sz k (xs.take (k*sz)):=by
 have x:k*sz<=n*sz:=Nat.mul_le_mul_right _ q;refine⟨by rw[Ql,h.1];omega, ?_⟩
 rcases h.2 with⟨c,t⟩|⟨g,s,f,d,o,p,v,j,l,m⟩
 .injection c with c u i
  subst c;subst i;have:k=0:=by omega
  subst this;exact .inl ⟨rfl,rfl⟩
 .injection d with d y r
  subst d;subst r;refine .inr ⟨g,b,f,rfl,o,p,by omega,j,l, ?_⟩;rw[<-m,List.take_take]
  congr 1
  omega
def Y5(F:Nat->Prop)(f:List Tr)(d:Vl)(w:Wl)(e:Ending)(w':Wl):Prop:=
 (∃(a:Vl) (c:Nat->Prop),e= .returned (.tuple #[a,.int .i64 0])/\Zk w' c a f/\(∀g,a.ownBlock=some g->d.ownBlock=some g\/w.heap.size<=g)/\∀b,c b->F b\/w.heap.size<=b)/\Chg w w' d.ownBlock.toList
def GE(F:Nat->Prop)(l:List Tr)(s:Ap)(a:Vl)(w:Wl)(e:Ending)(w':Wl):Prop:=
 if(Ag (AF s l)).within=true then Y5 F (NW l s) a w e w' else Wf w e w'
theorem Iy{l:List Tr}{s:Ap}(f:EJ l)(r:l.length<=65536)(b:Di s)(i:Kw s=true)(t:Hn s<=l.length):
  (Ag (AF s l)).nodes<=1099511627776/\(Ag (AF s l)).bytes<=1152921504606846976/\(Ag (AF s l)).depth<=1099511627776:=by
 obtain⟨j,_,_,_,h⟩:=CU.1 i;have k:=Gw j;have m:=(f.drop (l.length-Hn s)).sum;have a:(l.drop (l.length-Hn s)).length<=65536:=by rw[Qm];omega
 have n:=b.text;have o:=b.sum;have p:(l.drop (l.length-Hn s)).length*65536<=65536*65536:=Nat.mul_le_mul_right _ a;have q:(l.drop (l.length-Hn s)).length*2097152<=65536*2097152:=Nat.mul_le_mul_right _ a;unfold AF CF;split
 .simp[Ag]
 .split
  .simp[Ag]
  .split
   .simp[Ag]
   .split
    .simp[Ag];omega
    .split
     .simp only[Ag,Sz.over];omega
     .rename_i c
      have d:s.count=0:=Decidable.byContradiction fun g=>c (k.2.2.2.2.2.2.1 g)
      have e:s.keys.length=(l.drop (l.length-Hn s)).length:=by rw[Qm];unfold Hn at*;rw[d]at*;simp at*;omega
      rw[Kd h e];simp only[Sz.over];omega
theorem Kz{F:Nat->Prop}{l:List Tr}{s:Ap}{d:Vl}{w w':Wl}{v:Vl}{k:Int}(c:(Ag (AF s l)).within=false)(b:k≠0)(a:Chg w w' []):GE F l s d w (.returned (.tuple #[v,.int .i64 k])) w':=by
 unfold GE;rw[Qs (by simp[c])];exact⟨⟨v,k,b,rfl⟩,a⟩
theorem IC{l:List Tr}{s:Ap}{F j:Nat->Prop}{d:Option Addr}{e D g t:Nat}{xs cs:List Vl}{w i r:Wl}(J:(Ag (AF s l)).within=true)(G:Ba w (.slice d l.length e) 29 6 l.length xs)(E:Aq w F l xs)(m:∀b,F b->b<w.heap.size)(k:∀g,(Vl.slice d l.length e).ownBlock=some g->¬F g)(v:D=l.length-Hn s)(q:Chg w i [])(I:AL i j (AF s l) cs)(n:∀b,j b->b<i.heap.size)(o:∀b,j b->F b\/w.heap.size<=b)(C:Ba r (.slice (some ⟨g,0,none⟩) (D+1) t) 29 6 (D+1) (xs.take (D*6)++cs))(f:Chg i r (Vl.slice d D e).ownBlock.toList)(p:(Vl.slice d D e).ownBlock=some g\/i.heap.size<=g):
  GE F l s (.slice d l.length e) w (.returned (.tuple #[.slice (some ⟨g,0,none⟩) (D+1) t,.int .i64 0])) r:=by
 unfold GE;rw[Qr J];have z:(Vl.slice d D e).ownBlock=(Vl.slice d l.length e).ownBlock:=by cases d<;>rfl
 rw[z]at f p;have y:∀g,(Vl.slice d l.length e).ownBlock=some g->g<w.heap.size:=fun g h=>G.lt h
 have K:=q.size;have H:(NW l s).length=D+1:=by unfold NW;rw[Qk,Ql,List.length_singleton,<-v];omega
 refine⟨⟨_,fun b=>F b\/j b,rfl,⟨xs.take (D*6)++cs, ?_, ?_, ?_, ?_⟩, ?_,fun b a=>a.elim .inl (o b)⟩,(q.none _).trans f⟩
 .rw[H];exact C
 .unfold NW
  rw[<-v];refine Aq.append ?_ ?_
  .have:=(E.split D).1
   rw[show D*6=6*D from Nat.mul_comm _ _];exact Aq.kept (((q.none _).trans f).keepsF m fun b a=>k b (by simpa using a)) (fun _ h=> .inl h) _ _ this
  .simp only[Aq]
   refine⟨cs,[],by simp,AL.kept (f.keepsF n fun b a A=> ?_) (fun _ h=> .inr h) _ _ I,rfl⟩;have B:=y b (by simpa using a)
   rcases o b A with c|c
   .exact k b (by simpa using a) c
   .omega
 .intro b a
  have:=f.size
  rcases a with h|h
  .have:=m b h;omega
  .have:=n b h;omega
 .intro b a x
  simp[Vl.ownBlock]at a;subst a
  rcases p with h|h
  .have B:=y _ h
   rcases x with c|c
   .exact k _ h c
   .rcases o _ c with u|u
    .exact k _ h u
    .omega
  .rcases x with c|c
   .have:=m _ c;omega
   .have:=n _ c;omega
 .intro b a
  simp[Vl.ownBlock]at a;subst a
  rcases p with h|h
  .exact .inl h
  .exact .inr (by omega)
theorem Ou(l:List Tr)(F:Nat->Prop)(rv:Vl)(s:Ap)(sk:Vl)(w:Wl)(hR:Zk w F rv l)(hK:As w sk 1 s.keys.length (Ad s.keys))(a:Di s)(hf:EJ l)(hl:l.length<=65536)(cq:Kw s=true)(hn:Hn s<=l.length):
  Cl prog 126 #[rv,.agg #[.int .i64 s.sort,.bool s.flag,.int .u64 s.bits,.string s.text,.int .i64 s.count,sk]] w (GE F l s rv w):=by
 obtain⟨xs,hX,hV,hF,hO⟩:=hR;have hr:=hX.form;obtain⟨ra,rc,rfl,dw⟩:=hr;obtain⟨ka,kc,rfl,dr,_⟩:=hK.form;have bJ:∀c,Chg w c []->As c (.slice ka s.keys.length kc) 1 s.keys.length (Ad s.keys):=fun c h=>hK.kept h
 obtain⟨w0,bj⟩:∃x,x=w.alloc (.cells #[.int .i64 s.sort,.bool s.flag,.int .u64 s.bits,.string s.text,.int .i64 s.count,.slice ka s.keys.length kc] 158):=⟨_,rfl⟩
 have r:Hid (Chg w w0 []):=by rw[bj];exact hZ ((Chg.refl w []).alloc _)
 have bZ:Hid (Ac w0 w.heap.size [.int .i64 s.sort,.bool s.flag,.int .u64 s.bits,.string s.text,.int .i64 s.count,.slice ka s.keys.length kc] 158):=by rw[bj];exact hZ (Ac.new w _ _)
 obtain⟨z1,z2,z3,z4,z5,z6,z7,z8⟩:=Ac.cells6 bZ.o;have dE:=a.count
 have m:Hid (aI s ka s.keys.length kc w0 w.heap.size (Fl.Fh s.bits) (Utf.Al s.text) (s.keys.all Utf.Al) (!decide s.keys.Nodup)):=Lib.hid
  {cells:=fun c h=>bZ.o.kept h
   fin:=fun c=>MM s.bits a.bits c
   text:=fun c=>Ii s.text c a.text
   keys:=fun c h=>Ov (fun _=>True) _ s.keys c (bJ c (r.o.trans h)).rowAt a.size (by have:=a.keys;omega)
   twice:=fun hk c h=>Ow s.keys _ c (bJ c (r.o.trans h)) (fun x hx=>⟨List.all_eq_true.1 hk x hx,a.size x hx⟩) (by have:=a.keys;omega)}
 have HW:=hZ bj;have ds:=a.keys;have du:=cq;have dt:=CU.1 cq;obtain⟨p,cK,ao,cm,co⟩:=dt;have cr:=Gw p;have cU:xs.length=l.length*6:=by rw[hV.length];omega
 have cI:=hX.capLe;rw[show Fl.Fh s.bits=(if s.sort=3 then true else Fl.Fh s.bits)from by split;(rename_i h;exact cK h);rfl,ao,cm,show(!decide s.keys.Nodup)=false from by simp[co]]at m;obtain⟨kn,bI⟩:∃x,x=s.keys.length:=⟨_,rfl⟩
 obtain⟨N,hN⟩:∃N,N=Hn s:=⟨_,rfl⟩
 have dD:s.count+(kn:Int)=(N:Int):=by rw[hN,bI];unfold Hn;have:=cr.2.2.1;omega
 rw[<-hN]at hn;obtain⟨D,hD⟩:∃D,D=l.length-N:=⟨_,rfl⟩
 have dp:l.length-D=N:=by omega
 have dB:(l.length:Int)-(N:Int)=(D:Int):=by omega
 have HU:=hZ p;have HX:=hZ hX;have HV:=hZ hV;have L:=hZ hF;have HO:=hZ hO;have de:=hZ bJ;have HB:=hZ a;have af:=hZ cr;have aE:=hZ hf;have df:=hZ cm;have dj:=hZ co;have aR:=hZ bI;have HN:=hZ hN;have b9:=hZ hD;rw[<-bI]at m HU HW bZ z8 ds dr|-;have z9:IntKind.i64.wrap (N:Int)=(N:Int):=IntWalk.i64_in _ (by omega);have dG:IntKind.i64.wrap (D:Int)=(D:Int):=IntWalk.i64_in _ (by omega);have dH:(N:Int)<=(l.length:Int):=by omega
 have aO:D<=l.length:=by omega
 have dI:D<=rc:=by omega
 have dJ:(D:Int)<=(rc:Int):=by omega
 have dK:(0:Int)<=(D:Int):=by omega
 have dL:l.length<=rc:=cI.2;have cV:w0.heap.size=w.heap.size+1:=by rw[bj];simp
 have cG:=hZ cV;clear hX hV hF hO bJ a cr hf cm co bI hN p cK ao cq bj hK cI dw hD cV;have aK:=hZ du;have aD:Hid (D=l.length-Hn s):=by unfold Hid;rw[<-HN.o];exact b9.o
 have aJ:Hid (Hn s<=l.length):=by unfold Hid;rw[<-HN.o];exact hn
 obtain⟨ti,au,_⟩:=info_parts Dp;have cF:Hid (∀u∈xs,u.oneCell'=true):=hZ (Aq.ones HV.o);by_cases h5:s.sort=5
 .skip
  have h6:¬s.sort=6:=by omega
  have H:¬s.sort=3:=by omega
  have h9:s.keys=[]:=Decidable.byContradiction fun g=>h6 (af.o.2.2.2.2.2.2.2 g)
  have ar:s.bits=0:=Decidable.byContradiction fun h=>H (af.o.2.2.2.2.1 h)
  have aM:s.flag=false:=by
   cases h:s.flag with
   |false=>rfl
   |true=>have:=af.o.2.2.2.1 h;omega
  have ao:s.text=Dz:=Decidable.byContradiction fun h=>by have:=af.o.2.2.2.2.2.1 h;omega
  have aH:Hid (AF s l= .list (l.drop D)/\s.sort=5/\s.flag=false/\s.text=Dz):=by
   unfold Hid AF CF;rw[<-HN.o,<-b9.o,Qs (by omega),Qs (by omega),Qs H,Qs (by omega),Qr h5];exact⟨rfl,h5,aM,ao⟩
  have d3:(s.sort==3)=false:=by simp[H]
  have d5:(s.sort==5)=true:=by simp[h5]
  have d6:(s.sort==6)=false:=by simp[h6]
  rw[Qs H]at m;clear h5 h6 H h9 ar aM ao;go_enter func126,ntmps126
  go_upto_region 1 with(fail)
  rw[<-HW.o]
  go_upto_region 12 with((first
     |(go_at_call 160;refine(CM s.sort s.flag s.bits s.text s.count ka kn kc _).mono ?_;rintro e w1 ⟨rfl,K⟩;rw[HU.o];obtain⟨a1,a2,a3,a4,a5,a6,a7,a8⟩:=Ac.cells6 (m.o.cells _ K))
     |(go_at_call 161;refine(m.o.fin _).mono ?_;rintro e w2 ⟨rfl,a⟩;have Z:=K.trans a;obtain⟨b1,b2,b3,b4,b5,b6,b7,b8⟩:=Ac.cells6 (m.o.cells _ Z))
     |(go_at_call 162;refine(m.o.text _).mono ?_;rintro e w3 ⟨rfl,rfl⟩)
     |(go_at_call 163;refine(m.o.keys _ (by first|exact Z|exact K)).mono ?_;rintro e w4 ⟨rfl,hc⟩;have aa:Chg w0 w4 []:=(by first|exact Z.trans hc|exact K.trans hc);obtain⟨c1,c2,c3,c4,c5,c6,c7,c8⟩:=Ac.cells6 (m.o.cells _ aa))
     |(go_at_call 164;refine(m.o.twice rfl _ aa).mono ?_;rintro e A ⟨rfl,hd⟩;have ab:=aa.trans hd;obtain⟨d1,d2,d3,d4,d5,d6,d7,d8⟩:=Ac.cells6 (m.o.cells _ ab))))
  go_upto_region 13 with(fail)
  obtain⟨n,I⟩:∃x,x=A.alloc (.cells #[.int .i64 s.sort,.bool s.flag,.int .u64 0,.string s.text,.slice none 0 0,.slice none 0 0] 29):=⟨_,rfl⟩
  have W:Hid (Ac n A.heap.size (vC s.sort s.flag 0 s.text (.slice none 0 0) (.slice none 0 0)) 29):=by rw[I];exact hZ (Ac.new A _ _)
  have J:Hid (Chg w0 n []):=by rw[I];exact hZ (ab.alloc _)
  have ae:n.heap.size=A.heap.size+1:=by rw[I];simp
  have ad:w0.heap.size<=A.heap.size:=ab.size;rw[<-I];obtain⟨q,hq⟩:∃q,q=A.heap.size:=⟨_,rfl⟩
  rw[<-hq]at W ae ad|-;have aU:=hZ ae;have aq:=hZ ad;obtain⟨q1,q2,bN,bO,bP,bQ,bR,bS⟩:=Ac.cells6 W.o;obtain⟨s1,s2,bT,bU,bV,bW,bX,bY⟩:=Ac.cells6 (m.o.cells _ J.o);clear I hq ae ad
  go_upto_region 15 with(fail)
  go_cut [8]from 8 (fun s8 c=>∃(X:Option Addr) (tc:Nat) (us:List Vl) (d:Nat->Prop),s8= .slice X N tc/\As c (.slice X N tc) 6 N us/\LP c d X us/\Aq c d (l.drop D) us/\(∀b,d b->b<c.heap.size)/\(∀b,d b->F b\/n.heap.size<=b)/\Chg n c [])
  case first=>
   have bi:=Aq.kept ((r.o.trans J.o).keepsF L.o) (fun _ h=>h) _ _ (HV.o.split D).2;have ce:=hZ bi;have ap:w.heap.size<=n.heap.size:=(r.o.trans J.o).size;have aX:=hZ (HX.o.kept (r.o.trans J.o));clear bi;by_cases aC:N=0
   .have bd:l.drop D=[]:=List.drop_of_length_le (by omega)
    have aQ:=hZ bd;have a9:D=l.length:=by omega
    clear bd;subst aC;subst a9;have dc:l.length-l.length=0:=by omega
    rcases Decidable.em (rc=l.length)with an|an
    .subst an
     go_wp2_with(first|(at_builtin;refine A1 rfl _ _ _ rfl 29 ti underlying26 au _ 0 0 (Q8 _) (by rfl) _ _ (by rfl) ?_))
     go_meet
     exact⟨_,_,[],F,rfl,⟨_,_,rfl,Nat.zero_le _,rfl,fun i v hv=>by simp at hv⟩,.inl rfl,by rw[aQ.o];simp[Aq],fun b a=>by have:=L.o b a;have:=ap;simp;omega,fun b a=> .inl a,(Chg.refl _ _).alloc _⟩
    .skip
     go_wp2_with(first|(at_builtin;refine A1 rfl _ _ _ rfl 29 ti underlying26 au _ 0 0 (Q8 _) (by rfl) _ _ (by rfl) ?_))
     go_meet
     exact⟨_,_,[],F,rfl,⟨_,_,rfl,Nat.zero_le _,rfl,fun i v hv=>by simp at hv⟩,.inl rfl,by rw[aQ.o];simp[Aq],fun b a=>by have:=L.o b a;have:=ap;simp;omega,fun b a=> .inl a,(Chg.refl _ _).alloc _⟩
   .have cp:0<N:=by omega
    obtain⟨a',c',e',bc⟩:=aX.o.form
    injection e' with e1 _ e3
    subst e1;subst e3;obtain⟨g,rfl⟩:=bc (by omega);have bh:(xs.drop (D*6)).length=N*6:=by rw[Qm,cU];omega
    have bf:∀u∈xs.drop (D*6),u.oneCell'=true:=fun u p=>cF.o u (List.mem_of_mem_drop p)
    have cf:Hid (∀j v,(xs.drop (D*6))[j]? =some v->(n.alloc (.cells #[] 29)).cell? ⟨g,D*6+j,none⟩=some v):=hZ fun j v hv=>((Chg.refl n []).alloc _).keeps (aX.o.cell rfl _ v (by rw[<-List.getElem?_drop];exact hv))
    have av:=hZ bh;have cb:=hZ bf;have dx:¬rc=D:=by omega
    clear bc bh bf aC
    go_wp2_with(first
     |(at_builtin;go_loud(refine Er rfl _ _ _ rfl 29 NP 6 88 (by decide) underlying26 Dp rfl _ 0 [] (by rfl) (by exact Z2 n _ 6) g (D*6) N (rc-D) (xs.drop (D*6)) (by rfl) cp av.o cf.o cb.o (by omega) (by omega) ?_;intro g3 ch w3 ba cj ck)))
    go_meet
    have dq:n.heap.size<=g3:=by
     rcases ck with h|h
     .have:n.heap.size=g3:=(by injection h)
      omega
     .simp at h;omega
    have aB:Chg n w3 []:=Chg.own (sv:= .slice none 0 0) ((Chg.refl n []).alloc _) cj (fun g hg=>by cases hg) (fun g hg=> .inr (by have:n.heap.size=g:=(by injection hg);omega));rw[List.nil_append]at ba;have aw:Ba w3 (.slice (some ⟨g3,0,none⟩) N ch) 29 6 N (xs.drop (D*6)):=by simpa using ba
    refine⟨_,_,xs.drop (D*6),fun b=>F b\/b=g3,by simp,aw.rowC av.o,aw.rowN av.o (fun g hg=>by simp[Vl.ownBlock]at hg;exact .inr hg.symm), ?_, ?_, ?_,aB⟩
    .have:=Aq.kept (aB.keepsF (fun b a=>Q6 (L.o b a) ap)) (fun b a=>(.inl a:F b\/b=g3)) _ _ ce.o
     rwa[Nat.mul_comm]at this
    .rintro b (a|a)
     .have:=L.o b a;have:=aB.size;omega
     .subst a;exact aw.lt rfl
    .rintro b (a|a)
     .exact .inl a
     .exact .inr (by omega)
  case rest=>
   obtain⟨X,tc,us,d,rfl,az,ay,aA,ax,bb,am⟩:=hcut;obtain⟨wt,aN⟩:∃x,x=wc:=⟨_,rfl⟩
   rw[<-aN]at az ay aA ax am|-;have aT:=hZ (W.o.kept am);have aF:=hZ (J.o.trans am);obtain⟨bM,cz,ct,cu,cv,cw,cx,cy⟩:=Ac.cells6 aT.o;obtain⟨cW,db,cX,cY,cZ,c0,c9,da⟩:=Ac.cells6 (m.o.cells _ aF.o);have cE:=hZ az;have cD:=hZ ay;have cd:=hZ aA;have aV:=hZ ax;have aW:=hZ bb;have cC:=hZ am
   have bg:¬d q:=fun h=>by
    have h1:=aU.o;have h2:=aq.o;have H:=cG.o
    rcases aW.o q h with h4|h4
    .have:=L.o q h4;omega
    .omega
   have cc:=hZ bg;have ap:w.heap.size<=n.heap.size:=(r.o.trans J.o).size;clear az ay aA ax bb am aN bg
   go_upto_region 20 with(fail)
   obtain⟨f,B⟩:∃x,x=wt.setCell ⟨q,4,none⟩ (.slice X N tc):=⟨_,rfl⟩
   rw[<-B];have bG:Chg wt f [q]:=by rw[B];exact(Chg.refl _ _).setCell _ _ (by simp)
   have t:Hid (Chg w0 f []):=hZ (aF.o.step bG (fun i hi bK=>by simp at hi;have:=aq.o;omega));have O:Hid (Ac f q [.int .i64 s.sort,.bool s.flag,.int .u64 0,.string s.text,.slice X N tc,.slice none 0 0] 29):=by rw[B];exact hZ ((aT.o.set 4 _).eq rfl)
   have C:Hid (∀b,d b->b<f.heap.size):=hZ fun b a=>Q6 (aV.o b a) bG.size
   have ah:Hid (∀b,d b->F b\/w.heap.size<=b):=hZ fun b a=>(aW.o b a).imp_right fun h=>by omega
   have M:Hid (AL f d (AF s l) [.int .i64 s.sort,.bool s.flag,.int .u64 0,.string s.text,.slice X N tc,.slice none 0 0]):=by
    have hk:BZ d wt f:=bG.keepsF aV.o (fun b a h=>by simp at a;subst a;exact cc.o h);unfold Hid;rw[aH.o.1,aH.o.2.1,aH.o.2.2.1,aH.o.2.2.2];simp only[AL];refine⟨X,tc,none,0,us, ?_,cD.o.kept hk (fun _ h=>h),Aq.kept hk (fun _ h=>h) _ _ cd.o⟩;rw[Qm,show l.length-D=N from dp];rfl
   clear B bG;have S:=Iy (s:=s) aE.o hl HB.o aK.o aJ.o;have G:=hZ S;have bk:w0.heap.size<=f.heap.size:=t.o.size;have U:=(HX.o.popK D aO).kept (r.o.trans t.o);have ak:=hZ U
   have y:Hid (∀c,Chg f c []->Cl prog 56 #[.agg ([.int .i64 s.sort,.bool s.flag,.int .u64 0,.string s.text,.slice X N tc,.slice none 0 0]:List Vl).toArray] c fun e w'=>e= .returned (.bool (Ag (AF s l)).within)/\Chg c w' []):=hZ fun c h=>
    Ex (AF s l) d _ c G.o.1 G.o.2.1 G.o.2.2 (AL.kept (h.keepsF C.o) (fun _ h=>h) _ _ M.o) (fun b a=>Q6 (C.o b a) h.size)
   obtain⟨y1,y2,bq,br,bt,bu,bv,bw⟩:=Ac.cells6 O.o;clear S U;by_cases z:(Ag (AF s l)).within=true
   .rw[z]at y
    go_upto_region 22 with(first|(go_at_call 56;refine(y.o _ (by exact cg cR)).mono ?_;rintro e V ⟨rfl,o⟩;have E:=hZ o;have al:=hZ (O.o.kept o);obtain⟨bx,bF,bz,bA,bB,bC,bD,bE⟩:=Ac.cells6 al.o;clear o))
    go_region_law(first
     |(go_loud(refine Bw rfl _ _ _ rfl 29 NP 6 88 (by decide) underlying26 Dp rfl (.slice ra D rc) D (xs.take (D*6)) (by rfl) (by exact(ak.o.kept E.o).kept (bs:=[]) (by exact cg cR) (by simp)) V.heap.size [.int .i64 s.sort,.bool s.flag,.int .u64 0,.string s.text,.slice X N tc,.slice none 0 0] (by rfl) (by rfl) (by exact Cm _ _ _) (by intro u p;simp only[Qh,List.not_mem_nil,or_false]at p;rcases p with rfl|rfl|rfl|rfl|rfl|rfl<;>rfl) (by omega) (by omega) ?_;intro g8 aY w8 R P Q;have aj:=hZ R;have ag:=hZ P;have ai:=hZ Q;clear R P Q)))
    all_goals
     go_wp2_with fail
     go_ret2
     have bl:=E.o.size
     exact IC z HX.o HV.o L.o HO.o aD.o (r.o.trans t.o) M.o C.o ah.o aj.o (((E.o.alloc _).drew.none _).trans ag.o) (by
      rcases ai.o with h|h
      .exact .inl h
      .simp at h;exact .inr (by omega))
   .have T:(Ag (AF s l)).within=false:=by simpa using z
    rw[T]at y;clear z;go_wp2_with(first|(go_at_call 56;refine(y.o _ (by exact cg cR)).mono ?_;rintro e V ⟨rfl,o⟩))
    go_ret2
    exact Kz T (by decide) ((r.o.trans t.o).trans o)
 .by_cases h6:s.sort=6
  .skip
   have H:¬s.sort=3:=by omega
   have cJ:s.count=0:=Decidable.byContradiction fun g=>h5 (af.o.2.2.2.2.2.2.1 g)
   have dh:Hid (AF s l=D1 s.keys (l.drop D)):=by
    unfold Hid AF CF;rw[<-HN.o,<-b9.o,Qs (by omega),Qs (by omega),Qs H,Qs (by omega),Qs h5]
   have cH:N=kn:=by rw[HN.o];unfold Hn;rw[cJ,aR.o];simp
   have d3:(s.sort==3)=false:=by simp[H]
   have d5:(s.sort==5)=false:=by simp[h5]
   have d6:(s.sort==6)=true:=by simp[h6]
   rw[Qs H]at m;have ca:=hZ cH;clear h5 h6 H cJ cH;go_enter func126,ntmps126
   go_upto_region 1 with(fail)
   rw[<-HW.o]
   go_upto_region 12 with((first
      |(go_at_call 160;refine(CM s.sort s.flag s.bits s.text s.count ka kn kc _).mono ?_;rintro e w1 ⟨rfl,K⟩;rw[HU.o];obtain⟨a1,a2,a3,a4,a5,a6,a7,a8⟩:=Ac.cells6 (m.o.cells _ K))
      |(go_at_call 161;refine(m.o.fin _).mono ?_;rintro e w2 ⟨rfl,a⟩;have Z:=K.trans a;obtain⟨b1,b2,b3,b4,b5,b6,b7,b8⟩:=Ac.cells6 (m.o.cells _ Z))
      |(go_at_call 162;refine(m.o.text _).mono ?_;rintro e w3 ⟨rfl,rfl⟩)
      |(go_at_call 163;refine(m.o.keys _ (by first|exact Z|exact K)).mono ?_;rintro e w4 ⟨rfl,hc⟩;have aa:Chg w0 w4 []:=(by first|exact Z.trans hc|exact K.trans hc);obtain⟨c1,c2,c3,c4,c5,c6,c7,c8⟩:=Ac.cells6 (m.o.cells _ aa))
      |(go_at_call 164;refine(m.o.twice rfl _ aa).mono ?_;rintro e A ⟨rfl,hd⟩;have ab:=aa.trans hd;obtain⟨d1,d2,d3,d4,d5,d6,d7,d8⟩:=Ac.cells6 (m.o.cells _ ab))))
   go_upto_region 13 with(fail)
   obtain⟨n,I⟩:∃x,x=A.alloc (.cells #[.int .i64 s.sort,.bool s.flag,.int .u64 0,.string s.text,.slice none 0 0,.slice none 0 0] 29):=⟨_,rfl⟩
   have W:Hid (Ac n A.heap.size (vC s.sort s.flag 0 s.text (.slice none 0 0) (.slice none 0 0)) 29):=by rw[I];exact hZ (Ac.new A _ _)
   have J:Hid (Chg w0 n []):=by rw[I];exact hZ (ab.alloc _)
   have ae:n.heap.size=A.heap.size+1:=by rw[I];simp
   have ad:w0.heap.size<=A.heap.size:=ab.size;rw[<-I];obtain⟨q,hq⟩:∃q,q=A.heap.size:=⟨_,rfl⟩
   rw[<-hq]at W ae ad|-;have aU:=hZ ae;have aq:=hZ ad;obtain⟨q1,q2,bN,bO,bP,bQ,bR,bS⟩:=Ac.cells6 W.o;obtain⟨s1,s2,bT,bU,bV,bW,bX,bY⟩:=Ac.cells6 (m.o.cells _ J.o);clear I hq ae ad
   go_upto_region 15 with(fail)
   go_cut [8]from 8 (fun s8 c=>∃(X:Option Addr) (tc:Nat) (us:List Vl) (d:Nat->Prop),s8= .slice X N tc/\As c (.slice X N tc) 6 N us/\LP c d X us/\Aq c d (l.drop D) us/\(∀b,d b->b<c.heap.size)/\(∀b,d b->F b\/n.heap.size<=b)/\Chg n c [])
   case first=>
    have bi:=Aq.kept ((r.o.trans J.o).keepsF L.o) (fun _ h=>h) _ _ (HV.o.split D).2;have ce:=hZ bi;have ap:w.heap.size<=n.heap.size:=(r.o.trans J.o).size;have aX:=hZ (HX.o.kept (r.o.trans J.o));clear bi;by_cases aC:N=0
    .have bd:l.drop D=[]:=List.drop_of_length_le (by omega)
     have aQ:=hZ bd;have a9:D=l.length:=by omega
     clear bd;subst aC;subst a9;have dc:l.length-l.length=0:=by omega
     rcases Decidable.em (rc=l.length)with an|an
     .subst an
      go_wp2_with(first|(at_builtin;refine A1 rfl _ _ _ rfl 29 ti underlying26 au _ 0 0 (Q8 _) (by rfl) _ _ (by rfl) ?_))
      go_meet
      exact⟨_,_,[],F,rfl,⟨_,_,rfl,Nat.zero_le _,rfl,fun i v hv=>by simp at hv⟩,.inl rfl,by rw[aQ.o];simp[Aq],fun b a=>by have:=L.o b a;have:=ap;simp;omega,fun b a=> .inl a,(Chg.refl _ _).alloc _⟩
     .skip
      go_wp2_with(first|(at_builtin;refine A1 rfl _ _ _ rfl 29 ti underlying26 au _ 0 0 (Q8 _) (by rfl) _ _ (by rfl) ?_))
      go_meet
      exact⟨_,_,[],F,rfl,⟨_,_,rfl,Nat.zero_le _,rfl,fun i v hv=>by simp at hv⟩,.inl rfl,by rw[aQ.o];simp[Aq],fun b a=>by have:=L.o b a;have:=ap;simp;omega,fun b a=> .inl a,(Chg.refl _ _).alloc _⟩
    .have cp:0<N:=by omega
     obtain⟨a',c',e',bc⟩:=aX.o.form
     injection e' with e1 _ e3
     subst e1;subst e3;obtain⟨g,rfl⟩:=bc (by omega);have bh:(xs.drop (D*6)).length=N*6:=by rw[Qm,cU];omega
     have bf:∀u∈xs.drop (D*6),u.oneCell'=true:=fun u p=>cF.o u (List.mem_of_mem_drop p)
     have cf:Hid (∀j v,(xs.drop (D*6))[j]? =some v->(n.alloc (.cells #[] 29)).cell? ⟨g,D*6+j,none⟩=some v):=hZ fun j v hv=>((Chg.refl n []).alloc _).keeps (aX.o.cell rfl _ v (by rw[<-List.getElem?_drop];exact hv))
     have av:=hZ bh;have cb:=hZ bf;have dx:¬rc=D:=by omega
     clear bc bh bf aC
     go_wp2_with(first
      |(at_builtin;go_loud(refine Er rfl _ _ _ rfl 29 NP 6 88 (by decide) underlying26 Dp rfl _ 0 [] (by rfl) (by exact Z2 n _ 6) g (D*6) N (rc-D) (xs.drop (D*6)) (by rfl) cp av.o cf.o cb.o (by omega) (by omega) ?_;intro g3 ch w3 ba cj ck)))
     go_meet
     have dq:n.heap.size<=g3:=by
      rcases ck with h|h
      .have:n.heap.size=g3:=(by injection h)
       omega
      .simp at h;omega
     have aB:Chg n w3 []:=Chg.own (sv:= .slice none 0 0) ((Chg.refl n []).alloc _) cj (fun g hg=>by cases hg) (fun g hg=> .inr (by have:n.heap.size=g:=(by injection hg);omega));rw[List.nil_append]at ba;have aw:Ba w3 (.slice (some ⟨g3,0,none⟩) N ch) 29 6 N (xs.drop (D*6)):=by simpa using ba
     refine⟨_,_,xs.drop (D*6),fun b=>F b\/b=g3,by simp,aw.rowC av.o,aw.rowN av.o (fun g hg=>by simp[Vl.ownBlock]at hg;exact .inr hg.symm), ?_, ?_, ?_,aB⟩
     .have:=Aq.kept (aB.keepsF (fun b a=>Q6 (L.o b a) ap)) (fun b a=>(.inl a:F b\/b=g3)) _ _ ce.o
      rwa[Nat.mul_comm]at this
     .rintro b (a|a)
      .have:=L.o b a;have:=aB.size;omega
      .subst a;exact aw.lt rfl
     .rintro b (a|a)
      .exact .inl a
      .exact .inr (by omega)
   case rest=>
    obtain⟨X,tc,us,d,rfl,az,ay,aA,ax,bb,am⟩:=hcut;obtain⟨wt,aN⟩:∃x,x=wc:=⟨_,rfl⟩
    rw[<-aN]at az ay aA ax am|-;have aT:=hZ (W.o.kept am);have aF:=hZ (J.o.trans am);obtain⟨bM,cz,ct,cu,cv,cw,cx,cy⟩:=Ac.cells6 aT.o;obtain⟨cW,db,cX,cY,cZ,c0,c9,da⟩:=Ac.cells6 (m.o.cells _ aF.o);have cE:=hZ az;have cD:=hZ ay;have cd:=hZ aA;have aV:=hZ ax;have aW:=hZ bb;have cC:=hZ am
    have bg:¬d q:=fun h=>by
     have h1:=aU.o;have h2:=aq.o;have H:=cG.o
     rcases aW.o q h with h4|h4
     .have:=L.o q h4;omega
     .omega
    have cc:=hZ bg;have ap:w.heap.size<=n.heap.size:=(r.o.trans J.o).size;clear az ay aA ax bb am aN bg
    have di:Hid (∀c,Chg wt c []->Cl prog 94 #[.slice ka kn kc,.slice X N tc] c (PR d s.keys (l.drop D) c)):=hZ fun c h=>by
     have cL:s.keys.length=(l.drop D).length:=by rw[Qm,<-aR.o];have:=ca.o;omega
     refine Xz d s.keys (l.drop D) _ _ us c ?_ ?_ (Aq.kept (h.keepsF aV.o) (fun _ h=>h) _ _ cd.o) (fun b a=>Q6 (aV.o b a) h.size) (fun k hk=>⟨List.all_eq_true.1 df.o k hk,HB.o.size k hk⟩) dj.o cL (by rw[<-aR.o];have:=ca.o;omega)
     .have:=de.o c ((r.o.trans aF.o).trans h)
      rw[<-aR.o]at this|-;exact this
     .rw[<-cL,<-aR.o,<-ca.o];exact cE.o.kept h
    go_upto_region 20 with(first
     |(go_at_call 94;refine(di.o _ cR).mono ?_;rintro e wm ⟨F3,dA,rfl,cM,cN,cO,be,cn⟩;unfold D1 at be;have cP:=be;simp only[AL]at cP;obtain⟨bo,bp,bm,bn,dF,rfl,_⟩:=cP;obtain⟨n1,cQ⟩:∃x,x=(LA s.keys (l.drop D)).length:=⟨_,rfl⟩;obtain⟨n2,cS⟩:∃x,x=(AY s.keys).length:=⟨_,rfl⟩;rw[<-cQ,<-cS]at be|-;rw[Jy];clear cQ cS;have dz:=hZ cM;have cA:=hZ cN;have cB:=hZ cO;have dg:=hZ be;have aH:=hZ cn;have dl:=hZ (aT.o.kept cn);clear cM cN cO be cn)
     |(refine Ae rfl _ _ _ rfl q (vC 6 false 0 Dz (.slice bo n1 bp) (.slice bm n2 bn)) (by rfl) (by rfl) _ _ dl.o A9 rfl (by intro u p;simp only[vC,Qh,List.not_mem_nil,or_false]at p;rcases p with rfl|rfl|rfl|rfl|rfl|rfl<;>rfl) ?_;intro f cs aZ a0;have b0:=hZ aZ;have aP:=hZ a0;clear aZ a0 cs))
    have t:Hid (Chg w0 f []):=hZ ((aF.o.trans aH.o).step aP.o (fun i hi bK=>by simp at hi;have:=aq.o;omega));have O:Hid (Ac f q [.int .i64 6,.bool false,.int .u64 0,.string ⟨#[]⟩,.slice bo n1 bp,.slice bm n2 bn] 29):=hZ (b0.o.eq rfl);have dv:q<wt.heap.size:=bM;have C:Hid (∀b,F3 b->b<f.heap.size):=hZ fun b a=>Q6 (cB.o b a) aP.o.size
    have aN:n.heap.size<=wt.heap.size:=cC.o.size
    have ah:Hid (∀b,F3 b->F b\/w.heap.size<=b):=hZ fun b a=>by
     by_cases bK:b<wt.heap.size
     .exact(aW.o b (cA.o b a bK)).imp_right fun h=>by omega
     .exact .inr (by omega)
    have M:Hid (AL f F3 (AF s l) [.int .i64 6,.bool false,.int .u64 0,.string ⟨#[]⟩,.slice bo n1 bp,.slice bm n2 bn]):=by
     unfold Hid;rw[dh.o];exact AL.kept (aP.o.keepsF cB.o (fun b a h=>by simp at a;subst a;exact cc.o (cA.o _ h dv))) (fun _ h=>h) _ _ dg.o
    obtain⟨dy,dC⟩:∃x,x=F3:=⟨_,rfl⟩
    clear bM cz ct cu cv cw cx cy;have S:=Iy (s:=s) aE.o hl HB.o aK.o aJ.o;have G:=hZ S;have bk:w0.heap.size<=f.heap.size:=t.o.size;have U:=(HX.o.popK D aO).kept (r.o.trans t.o);have ak:=hZ U
    have y:Hid (∀c,Chg f c []->Cl prog 56 #[.agg ([.int .i64 6,.bool false,.int .u64 0,.string ⟨#[]⟩,.slice bo n1 bp,.slice bm n2 bn]:List Vl).toArray] c fun e w'=>e= .returned (.bool (Ag (AF s l)).within)/\Chg c w' []):=hZ fun c h=>
     Ex (AF s l) F3 _ c G.o.1 G.o.2.1 G.o.2.2 (AL.kept (h.keepsF C.o) (fun _ h=>h) _ _ M.o) (fun b a=>Q6 (C.o b a) h.size)
    obtain⟨y1,y2,bq,br,bt,bu,bv,bw⟩:=Ac.cells6 O.o;clear S U;by_cases z:(Ag (AF s l)).within=true
    .rw[z]at y
     go_upto_region 22 with(first|(go_at_call 56;refine(y.o _ (by exact cg cR)).mono ?_;rintro e V ⟨rfl,o⟩;have E:=hZ o;have al:=hZ (O.o.kept o);obtain⟨bx,bF,bz,bA,bB,bC,bD,bE⟩:=Ac.cells6 al.o;clear o))
     go_region_law(first
      |(go_loud(refine Bw rfl _ _ _ rfl 29 NP 6 88 (by decide) underlying26 Dp rfl (.slice ra D rc) D (xs.take (D*6)) (by rfl) (by exact(ak.o.kept E.o).kept (bs:=[]) (by exact cg cR) (by simp)) V.heap.size [.int .i64 6,.bool false,.int .u64 0,.string ⟨#[]⟩,.slice bo n1 bp,.slice bm n2 bn] (by rfl) (by rfl) (by exact Cm _ _ _) (by intro u p;simp only[Qh,List.not_mem_nil,or_false]at p;rcases p with rfl|rfl|rfl|rfl|rfl|rfl<;>rfl) (by omega) (by omega) ?_;intro g8 aY w8 R P Q;have aj:=hZ R;have ag:=hZ P;have ai:=hZ Q;clear R P Q)))
     all_goals
      go_wp2_with fail
      go_ret2
      have bl:=E.o.size
      exact IC z HX.o HV.o L.o HO.o aD.o (r.o.trans t.o) M.o C.o ah.o aj.o (((E.o.alloc _).drew.none _).trans ag.o) (by
       rcases ai.o with h|h
       .exact .inl h
       .simp at h;exact .inr (by omega))
    .have T:(Ag (AF s l)).within=false:=by simpa using z
     rw[T]at y;clear z;go_wp2_with(first|(go_at_call 56;refine(y.o _ (by exact cg cR)).mono ?_;rintro e V ⟨rfl,o⟩))
     go_ret2
     exact Kz T (by decide) ((r.o.trans t.o).trans o)
  .have ci:s.sort=1\/s.sort=2\/s.sort=3\/s.sort=4:=by have:=af.o;omega
   have h7:=af.o.2.2.2.2.2.2;have h8:s.count=0:=Decidable.byContradiction fun g=>h5 (h7.1 g)
   have h9:s.keys=[]:=Decidable.byContradiction fun g=>h6 (h7.2 g)
   have aC:N=0:=by rw[HN.o];unfold Hn;rw[h8,h9];rfl
   have ar:s.sort≠3->Cg s.bits=0:=fun g=>by
    have:s.bits=0:=Decidable.byContradiction fun h=>g (af.o.2.2.2.2.1 h)
    rw[this];rfl
   have bL:∀(c:Wl) (d:Nat->Prop),AL c d (AF s l) [.int .i64 s.sort,.bool s.flag,.int .u64 (Cg s.bits),.string s.text,.slice none 0 0,.slice none 0 0]:=fun c d=>by
    have aM:s.sort≠2->s.flag=false:=fun g=>by cases h:s.flag with
     |false=>rfl
     |true=>exact absurd (af.o.2.2.2.1 h) g
    have ao:s.sort≠4->s.text=Dz:=fun g=>Decidable.byContradiction fun h=>g (af.o.2.2.2.2.2.1 h)
    unfold AF CF
    rcases ci with g|g|g|g
    .rw[Qr g,g,aM (by omega),ar (by omega),ao (by omega)];simp only[AL];exact⟨none,0,none,0,rfl⟩
    .rw[Qs (by omega),Qr g,g,ar (by omega),ao (by omega)];simp only[AL];exact⟨none,0,none,0,rfl⟩
    .rw[Qs (by omega),Qs (by omega),Qr g,g,aM (by omega),ao (by omega)];simp only[AL];exact⟨none,0,none,0,rfl⟩
    .rw[Qs (by omega),Qs (by omega),Qs (by omega),Qr g,g,aM (by omega),ar (by omega)];simp only[AL];exact⟨none,0,none,0,rfl⟩
   have bH:s.sort=3->s.flag=false/\s.text=Dz:=fun g=>by
    refine⟨?_,Decidable.byContradiction fun h=>by have:=af.o.2.2.2.2.2.1 h;omega⟩
    cases h:s.flag with
    |false=>rfl
    |true=>have:=af.o.2.2.2.1 h;omega
   have d5:(s.sort==5)=false:=by simp[h5]
   have d6:(s.sort==6)=false:=by simp[h6]
   have a9:D=l.length:=by omega
   subst aC;subst a9;have dc:l.length-l.length=0:=by omega
   by_cases H:s.sort=3
   .have d3:(s.sort==3)=true:=by simp[H]
    rw[Qr H]at m;have dm:Hid (vC 3 false (Cg s.bits) ⟨#[]⟩ (.slice none 0 0) (.slice none 0 0)=[.int .i64 s.sort,.bool s.flag,.int .u64 (Cg s.bits),.string s.text,.slice none 0 0,.slice none 0 0]):=hZ (by rw[H,(bH H).1,(bH H).2];rfl);have aS:=hZ bL;clear H bH bL ar h7 h8 h9 ci h5 h6;go_enter func126,ntmps126
    go_upto_region 1 with(fail)
    rw[<-HW.o]
    go_upto_region 12 with((first
       |(go_at_call 160;refine(CM s.sort s.flag s.bits s.text s.count ka kn kc _).mono ?_;rintro e w1 ⟨rfl,K⟩;rw[HU.o];obtain⟨a1,a2,a3,a4,a5,a6,a7,a8⟩:=Ac.cells6 (m.o.cells _ K))
       |(go_at_call 161;refine(m.o.fin _).mono ?_;rintro e w2 ⟨rfl,a⟩;have Z:=K.trans a;obtain⟨b1,b2,b3,b4,b5,b6,b7,b8⟩:=Ac.cells6 (m.o.cells _ Z))
       |(go_at_call 162;refine(m.o.text _).mono ?_;rintro e w3 ⟨rfl,rfl⟩)
       |(go_at_call 163;refine(m.o.keys _ (by first|exact Z|exact K)).mono ?_;rintro e w4 ⟨rfl,hc⟩;have aa:Chg w0 w4 []:=(by first|exact Z.trans hc|exact K.trans hc);obtain⟨c1,c2,c3,c4,c5,c6,c7,c8⟩:=Ac.cells6 (m.o.cells _ aa))
       |(go_at_call 164;refine(m.o.twice rfl _ aa).mono ?_;rintro e A ⟨rfl,hd⟩;have ab:=aa.trans hd;obtain⟨d1,d2,d3,d4,d5,d6,d7,d8⟩:=Ac.cells6 (m.o.cells _ ab))))
    go_upto_region 13 with(fail)
    obtain⟨n,I⟩:∃x,x=A.alloc (.cells #[.int .i64 s.sort,.bool s.flag,.int .u64 0,.string s.text,.slice none 0 0,.slice none 0 0] 29):=⟨_,rfl⟩
    have W:Hid (Ac n A.heap.size (vC s.sort s.flag 0 s.text (.slice none 0 0) (.slice none 0 0)) 29):=by rw[I];exact hZ (Ac.new A _ _)
    have J:Hid (Chg w0 n []):=by rw[I];exact hZ (ab.alloc _)
    have ae:n.heap.size=A.heap.size+1:=by rw[I];simp
    have ad:w0.heap.size<=A.heap.size:=ab.size;rw[<-I];obtain⟨q,hq⟩:∃q,q=A.heap.size:=⟨_,rfl⟩
    rw[<-hq]at W ae ad|-;have aU:=hZ ae;have aq:=hZ ad;obtain⟨q1,q2,bN,bO,bP,bQ,bR,bS⟩:=Ac.cells6 W.o;obtain⟨s1,s2,bT,bU,bV,bW,bX,bY⟩:=Ac.cells6 (m.o.cells _ J.o);clear I hq ae ad
    go_upto_region 15 with(first
     |(go_at_call 165;refine(YM s.bits _).mono ?_;rintro e w6 ⟨rfl,cl⟩;rw[Vd HB.o.bits];have dd:=hZ cl;have dk:=hZ (W.o.kept cl);clear cl)
     |(refine Ae rfl _ _ _ rfl q (vC 3 false (Cg s.bits) ⟨#[]⟩ (.slice none 0 0) (.slice none 0 0)) (by rfl) (by rfl) _ _ dk.o A9 rfl (by intro u p;simp only[vC,Qh,List.not_mem_nil,or_false]at p;rcases p with rfl|rfl|rfl|rfl|rfl|rfl<;>rfl) ?_;intro wv cs aZ a0;have b0:=hZ aZ;have aP:=hZ a0;clear aZ a0 cs))
    have aG:Hid (Chg w0 wv []):=hZ ((J.o.trans dd.o).step aP.o (fun i hi bK=>by simp at hi;have:=aq.o;omega));have aL:Hid (Ac wv q [.int .i64 s.sort,.bool s.flag,.int .u64 (Cg s.bits),.string s.text,.slice none 0 0,.slice none 0 0] 29):=hZ (b0.o.eq dm.o);obtain⟨cW,db,cX,cY,cZ,c0,c9,da⟩:=Ac.cells6 (m.o.cells _ aG.o);obtain⟨bM,cz,ct,cu,cv,cw,cx,cy⟩:=Ac.cells6 aL.o
    rcases Decidable.em (rc=l.length)with an|an
    .subst an
     go_upto_region 20 with(first|(at_builtin;refine A1 rfl _ _ _ rfl 29 ti underlying26 au _ 0 0 (Q8 _) (by rfl) _ _ (by rfl) ?_))
     obtain⟨f,B⟩:∃x,x=wv.alloc (.cells #[] 29):=⟨_,rfl⟩
     rw[<-B];have t:Hid (Chg w0 f []):=by rw[B];exact hZ (aG.o.alloc _)
     have O:Hid (Ac f q [.int .i64 s.sort,.bool s.flag,.int .u64 (Cg s.bits),.string s.text,.slice none 0 0,.slice none 0 0] 29):=by rw[B];exact hZ (aL.o.alloc _)
     obtain⟨d,Y⟩:∃d:Nat->Prop,d=fun _=>False:=⟨_,rfl⟩
     have C:Hid (∀b,d b->b<f.heap.size):=hZ (by rw[Y];exact fun _ h=>h.elim);have ah:Hid (∀b,d b->F b\/w.heap.size<=b):=hZ (by rw[Y];exact fun _ h=>h.elim);have M:Hid (AL f d (AF s l) [.int .i64 s.sort,.bool s.flag,.int .u64 (Cg s.bits),.string s.text,.slice none 0 0,.slice none 0 0]):=hZ (aS.o f d);clear B Y;have S:=Iy (s:=s) aE.o hl HB.o aK.o aJ.o;have G:=hZ S;have bk:w0.heap.size<=f.heap.size:=t.o.size;have U:=(HX.o.popK l.length aO).kept (r.o.trans t.o);have ak:=hZ U
     have y:Hid (∀c,Chg f c []->Cl prog 56 #[.agg ([.int .i64 s.sort,.bool s.flag,.int .u64 (Cg s.bits),.string s.text,.slice none 0 0,.slice none 0 0]:List Vl).toArray] c fun e w'=>e= .returned (.bool (Ag (AF s l)).within)/\Chg c w' []):=hZ fun c h=>
      Ex (AF s l) d _ c G.o.1 G.o.2.1 G.o.2.2 (AL.kept (h.keepsF C.o) (fun _ h=>h) _ _ M.o) (fun b a=>Q6 (C.o b a) h.size)
     obtain⟨y1,y2,bq,br,bt,bu,bv,bw⟩:=Ac.cells6 O.o;clear S U;by_cases z:(Ag (AF s l)).within=true
     .rw[z]at y
      go_upto_region 22 with(first|(go_at_call 56;refine(y.o _ (by exact cg cR)).mono ?_;rintro e V ⟨rfl,o⟩;have E:=hZ o;have al:=hZ (O.o.kept o);obtain⟨bx,bF,bz,bA,bB,bC,bD,bE⟩:=Ac.cells6 al.o;clear o))
      go_region_law(first
       |(go_loud(refine Bw rfl _ _ _ rfl 29 NP 6 88 (by decide) underlying26 Dp rfl (.slice ra l.length l.length) l.length (xs.take (l.length*6)) (by rfl) (by exact(ak.o.kept E.o).kept (bs:=[]) (by exact cg cR) (by simp)) V.heap.size [.int .i64 s.sort,.bool s.flag,.int .u64 (Cg s.bits),.string s.text,.slice none 0 0,.slice none 0 0] (by rfl) (by rfl) (by exact Cm _ _ _) (by intro u p;simp only[Qh,List.not_mem_nil,or_false]at p;rcases p with rfl|rfl|rfl|rfl|rfl|rfl<;>rfl) (by omega) (by omega) ?_;intro g8 aY w8 R P Q;have aj:=hZ R;have ag:=hZ P;have ai:=hZ Q;clear R P Q)))
      all_goals
       go_wp2_with fail
       go_ret2
       have bl:=E.o.size
       exact IC z HX.o HV.o L.o HO.o aD.o (r.o.trans t.o) M.o C.o ah.o aj.o (((E.o.alloc _).drew.none _).trans ag.o) (by
        rcases ai.o with h|h
        .exact .inl h
        .simp at h;exact .inr (by omega))
     .have T:(Ag (AF s l)).within=false:=by simpa using z
      rw[T]at y;clear z;go_wp2_with(first|(go_at_call 56;refine(y.o _ (by exact cg cR)).mono ?_;rintro e V ⟨rfl,o⟩))
      go_ret2
      exact Kz T (by decide) ((r.o.trans t.o).trans o)
    .skip
     go_upto_region 20 with(first|(at_builtin;refine A1 rfl _ _ _ rfl 29 ti underlying26 au _ 0 0 (Q8 _) (by rfl) _ _ (by rfl) ?_))
     obtain⟨f,B⟩:∃x,x=wv.alloc (.cells #[] 29):=⟨_,rfl⟩
     rw[<-B];have t:Hid (Chg w0 f []):=by rw[B];exact hZ (aG.o.alloc _)
     have O:Hid (Ac f q [.int .i64 s.sort,.bool s.flag,.int .u64 (Cg s.bits),.string s.text,.slice none 0 0,.slice none 0 0] 29):=by rw[B];exact hZ (aL.o.alloc _)
     obtain⟨d,Y⟩:∃d:Nat->Prop,d=fun _=>False:=⟨_,rfl⟩
     have C:Hid (∀b,d b->b<f.heap.size):=hZ (by rw[Y];exact fun _ h=>h.elim);have ah:Hid (∀b,d b->F b\/w.heap.size<=b):=hZ (by rw[Y];exact fun _ h=>h.elim);have M:Hid (AL f d (AF s l) [.int .i64 s.sort,.bool s.flag,.int .u64 (Cg s.bits),.string s.text,.slice none 0 0,.slice none 0 0]):=hZ (aS.o f d);clear B Y;have S:=Iy (s:=s) aE.o hl HB.o aK.o aJ.o;have G:=hZ S;have bk:w0.heap.size<=f.heap.size:=t.o.size;have U:=(HX.o.popK l.length aO).kept (r.o.trans t.o);have ak:=hZ U
     have y:Hid (∀c,Chg f c []->Cl prog 56 #[.agg ([.int .i64 s.sort,.bool s.flag,.int .u64 (Cg s.bits),.string s.text,.slice none 0 0,.slice none 0 0]:List Vl).toArray] c fun e w'=>e= .returned (.bool (Ag (AF s l)).within)/\Chg c w' []):=hZ fun c h=>
      Ex (AF s l) d _ c G.o.1 G.o.2.1 G.o.2.2 (AL.kept (h.keepsF C.o) (fun _ h=>h) _ _ M.o) (fun b a=>Q6 (C.o b a) h.size)
     obtain⟨y1,y2,bq,br,bt,bu,bv,bw⟩:=Ac.cells6 O.o;clear S U;by_cases z:(Ag (AF s l)).within=true
     .rw[z]at y
      go_upto_region 22 with(first|(go_at_call 56;refine(y.o _ (by exact cg cR)).mono ?_;rintro e V ⟨rfl,o⟩;have E:=hZ o;have al:=hZ (O.o.kept o);obtain⟨bx,bF,bz,bA,bB,bC,bD,bE⟩:=Ac.cells6 al.o;clear o))
      go_region_law(first
       |(go_loud(refine Bw rfl _ _ _ rfl 29 NP 6 88 (by decide) underlying26 Dp rfl (.slice ra l.length rc) l.length (xs.take (l.length*6)) (by rfl) (by exact(ak.o.kept E.o).kept (bs:=[]) (by exact cg cR) (by simp)) V.heap.size [.int .i64 s.sort,.bool s.flag,.int .u64 (Cg s.bits),.string s.text,.slice none 0 0,.slice none 0 0] (by rfl) (by rfl) (by exact Cm _ _ _) (by intro u p;simp only[Qh,List.not_mem_nil,or_false]at p;rcases p with rfl|rfl|rfl|rfl|rfl|rfl<;>rfl) (by omega) (by omega) ?_;intro g8 aY w8 R P Q;have aj:=hZ R;have ag:=hZ P;have ai:=hZ Q;clear R P Q)))
      all_goals
       go_wp2_with fail
       go_ret2
       have bl:=E.o.size
       exact IC z HX.o HV.o L.o HO.o aD.o (r.o.trans t.o) M.o C.o ah.o aj.o (((E.o.alloc _).drew.none _).trans ag.o) (by
        rcases ai.o with h|h
        .exact .inl h
        .simp at h;exact .inr (by omega))
     .have T:(Ag (AF s l)).within=false:=by simpa using z
      rw[T]at y;clear z;go_wp2_with(first|(go_at_call 56;refine(y.o _ (by exact cg cR)).mono ?_;rintro e V ⟨rfl,o⟩))
      go_ret2
      exact Kz T (by decide) ((r.o.trans t.o).trans o)
   .have d3:(s.sort==3)=false:=by simp[H]
    rw[Qs H]at m;have aS:Hid (∀(c:Wl) (d:Nat->Prop),AL c d (AF s l) [.int .i64 s.sort,.bool s.flag,.int .u64 0,.string s.text,.slice none 0 0,.slice none 0 0]):=hZ fun c d=>by have:=bL c d;rw[ar H]at this;exact this
    clear H bH bL ar h7 h8 h9 ci h5 h6;go_enter func126,ntmps126
    go_upto_region 1 with(fail)
    rw[<-HW.o]
    go_upto_region 12 with((first
       |(go_at_call 160;refine(CM s.sort s.flag s.bits s.text s.count ka kn kc _).mono ?_;rintro e w1 ⟨rfl,K⟩;rw[HU.o];obtain⟨a1,a2,a3,a4,a5,a6,a7,a8⟩:=Ac.cells6 (m.o.cells _ K))
       |(go_at_call 161;refine(m.o.fin _).mono ?_;rintro e w2 ⟨rfl,a⟩;have Z:=K.trans a;obtain⟨b1,b2,b3,b4,b5,b6,b7,b8⟩:=Ac.cells6 (m.o.cells _ Z))
       |(go_at_call 162;refine(m.o.text _).mono ?_;rintro e w3 ⟨rfl,rfl⟩)
       |(go_at_call 163;refine(m.o.keys _ (by first|exact Z|exact K)).mono ?_;rintro e w4 ⟨rfl,hc⟩;have aa:Chg w0 w4 []:=(by first|exact Z.trans hc|exact K.trans hc);obtain⟨c1,c2,c3,c4,c5,c6,c7,c8⟩:=Ac.cells6 (m.o.cells _ aa))
       |(go_at_call 164;refine(m.o.twice rfl _ aa).mono ?_;rintro e A ⟨rfl,hd⟩;have ab:=aa.trans hd;obtain⟨d1,d2,d3,d4,d5,d6,d7,d8⟩:=Ac.cells6 (m.o.cells _ ab))))
    go_upto_region 13 with(fail)
    obtain⟨n,I⟩:∃x,x=A.alloc (.cells #[.int .i64 s.sort,.bool s.flag,.int .u64 0,.string s.text,.slice none 0 0,.slice none 0 0] 29):=⟨_,rfl⟩
    have W:Hid (Ac n A.heap.size (vC s.sort s.flag 0 s.text (.slice none 0 0) (.slice none 0 0)) 29):=by rw[I];exact hZ (Ac.new A _ _)
    have J:Hid (Chg w0 n []):=by rw[I];exact hZ (ab.alloc _)
    have ae:n.heap.size=A.heap.size+1:=by rw[I];simp
    have ad:w0.heap.size<=A.heap.size:=ab.size;rw[<-I];obtain⟨q,hq⟩:∃q,q=A.heap.size:=⟨_,rfl⟩
    rw[<-hq]at W ae ad|-;have aU:=hZ ae;have aq:=hZ ad;obtain⟨q1,q2,bN,bO,bP,bQ,bR,bS⟩:=Ac.cells6 W.o;obtain⟨s1,s2,bT,bU,bV,bW,bX,bY⟩:=Ac.cells6 (m.o.cells _ J.o);clear I hq ae ad;obtain⟨wv,cT⟩:∃x,x=n:=⟨_,rfl⟩
    rw[<-cT]at J W q1 q2 bN bO bP bQ bR bS s1 s2 bT bU bV bW bX bY|-;have aG:=J;have aL:Hid (Ac wv q [.int .i64 s.sort,.bool s.flag,.int .u64 0,.string s.text,.slice none 0 0,.slice none 0 0] 29):=W;clear cT
    rcases Decidable.em (rc=l.length)with an|an
    .subst an
     go_upto_region 20 with(first|(at_builtin;refine A1 rfl _ _ _ rfl 29 ti underlying26 au _ 0 0 (Q8 _) (by rfl) _ _ (by rfl) ?_))
     obtain⟨f,B⟩:∃x,x=wv.alloc (.cells #[] 29):=⟨_,rfl⟩
     rw[<-B];have t:Hid (Chg w0 f []):=by rw[B];exact hZ (aG.o.alloc _)
     have O:Hid (Ac f q [.int .i64 s.sort,.bool s.flag,.int .u64 0,.string s.text,.slice none 0 0,.slice none 0 0] 29):=by rw[B];exact hZ (aL.o.alloc _)
     obtain⟨d,Y⟩:∃d:Nat->Prop,d=fun _=>False:=⟨_,rfl⟩
     have C:Hid (∀b,d b->b<f.heap.size):=hZ (by rw[Y];exact fun _ h=>h.elim);have ah:Hid (∀b,d b->F b\/w.heap.size<=b):=hZ (by rw[Y];exact fun _ h=>h.elim);have M:Hid (AL f d (AF s l) [.int .i64 s.sort,.bool s.flag,.int .u64 0,.string s.text,.slice none 0 0,.slice none 0 0]):=hZ (aS.o f d);clear B Y;have S:=Iy (s:=s) aE.o hl HB.o aK.o aJ.o;have G:=hZ S;have bk:w0.heap.size<=f.heap.size:=t.o.size;have U:=(HX.o.popK l.length aO).kept (r.o.trans t.o);have ak:=hZ U
     have y:Hid (∀c,Chg f c []->Cl prog 56 #[.agg ([.int .i64 s.sort,.bool s.flag,.int .u64 0,.string s.text,.slice none 0 0,.slice none 0 0]:List Vl).toArray] c fun e w'=>e= .returned (.bool (Ag (AF s l)).within)/\Chg c w' []):=hZ fun c h=>
      Ex (AF s l) d _ c G.o.1 G.o.2.1 G.o.2.2 (AL.kept (h.keepsF C.o) (fun _ h=>h) _ _ M.o) (fun b a=>Q6 (C.o b a) h.size)
     obtain⟨y1,y2,bq,br,bt,bu,bv,bw⟩:=Ac.cells6 O.o;clear S U;by_cases z:(Ag (AF s l)).within=true
     .rw[z]at y
      go_upto_region 22 with(first|(go_at_call 56;refine(y.o _ (by exact cg cR)).mono ?_;rintro e V ⟨rfl,o⟩;have E:=hZ o;have al:=hZ (O.o.kept o);obtain⟨bx,bF,bz,bA,bB,bC,bD,bE⟩:=Ac.cells6 al.o;clear o))
      go_region_law(first
       |(go_loud(refine Bw rfl _ _ _ rfl 29 NP 6 88 (by decide) underlying26 Dp rfl (.slice ra l.length l.length) l.length (xs.take (l.length*6)) (by rfl) (by exact(ak.o.kept E.o).kept (bs:=[]) (by exact cg cR) (by simp)) V.heap.size [.int .i64 s.sort,.bool s.flag,.int .u64 0,.string s.text,.slice none 0 0,.slice none 0 0] (by rfl) (by rfl) (by exact Cm _ _ _) (by intro u p;simp only[Qh,List.not_mem_nil,or_false]at p;rcases p with rfl|rfl|rfl|rfl|rfl|rfl<;>rfl) (by omega) (by omega) ?_;intro g8 aY w8 R P Q;have aj:=hZ R;have ag:=hZ P;have ai:=hZ Q;clear R P Q)))
      all_goals
       go_wp2_with fail
       go_ret2
       have bl:=E.o.size
       exact IC z HX.o HV.o L.o HO.o aD.o (r.o.trans t.o) M.o C.o ah.o aj.o (((E.o.alloc _).drew.none _).trans ag.o) (by
        rcases ai.o with h|h
        .exact .inl h
        .simp at h;exact .inr (by omega))
     .have T:(Ag (AF s l)).within=false:=by simpa using z
      rw[T]at y;clear z;go_wp2_with(first|(go_at_call 56;refine(y.o _ (by exact cg cR)).mono ?_;rintro e V ⟨rfl,o⟩))
      go_ret2
      exact Kz T (by decide) ((r.o.trans t.o).trans o)
    .skip
     go_upto_region 20 with(first|(at_builtin;refine A1 rfl _ _ _ rfl 29 ti underlying26 au _ 0 0 (Q8 _) (by rfl) _ _ (by rfl) ?_))
     obtain⟨f,B⟩:∃x,x=wv.alloc (.cells #[] 29):=⟨_,rfl⟩
     rw[<-B];have t:Hid (Chg w0 f []):=by rw[B];exact hZ (aG.o.alloc _)
     have O:Hid (Ac f q [.int .i64 s.sort,.bool s.flag,.int .u64 0,.string s.text,.slice none 0 0,.slice none 0 0] 29):=by rw[B];exact hZ (aL.o.alloc _)
     obtain⟨d,Y⟩:∃d:Nat->Prop,d=fun _=>False:=⟨_,rfl⟩
     have C:Hid (∀b,d b->b<f.heap.size):=hZ (by rw[Y];exact fun _ h=>h.elim);have ah:Hid (∀b,d b->F b\/w.heap.size<=b):=hZ (by rw[Y];exact fun _ h=>h.elim);have M:Hid (AL f d (AF s l) [.int .i64 s.sort,.bool s.flag,.int .u64 0,.string s.text,.slice none 0 0,.slice none 0 0]):=hZ (aS.o f d);clear B Y;have S:=Iy (s:=s) aE.o hl HB.o aK.o aJ.o;have G:=hZ S;have bk:w0.heap.size<=f.heap.size:=t.o.size;have U:=(HX.o.popK l.length aO).kept (r.o.trans t.o);have ak:=hZ U
     have y:Hid (∀c,Chg f c []->Cl prog 56 #[.agg ([.int .i64 s.sort,.bool s.flag,.int .u64 0,.string s.text,.slice none 0 0,.slice none 0 0]:List Vl).toArray] c fun e w'=>e= .returned (.bool (Ag (AF s l)).within)/\Chg c w' []):=hZ fun c h=>
      Ex (AF s l) d _ c G.o.1 G.o.2.1 G.o.2.2 (AL.kept (h.keepsF C.o) (fun _ h=>h) _ _ M.o) (fun b a=>Q6 (C.o b a) h.size)
     obtain⟨y1,y2,bq,br,bt,bu,bv,bw⟩:=Ac.cells6 O.o;clear S U;by_cases z:(Ag (AF s l)).within=true
     .rw[z]at y
      go_upto_region 22 with(first|(go_at_call 56;refine(y.o _ (by exact cg cR)).mono ?_;rintro e V ⟨rfl,o⟩;have E:=hZ o;have al:=hZ (O.o.kept o);obtain⟨bx,bF,bz,bA,bB,bC,bD,bE⟩:=Ac.cells6 al.o;clear o))
      go_region_law(first
       |(go_loud(refine Bw rfl _ _ _ rfl 29 NP 6 88 (by decide) underlying26 Dp rfl (.slice ra l.length rc) l.length (xs.take (l.length*6)) (by rfl) (by exact(ak.o.kept E.o).kept (bs:=[]) (by exact cg cR) (by simp)) V.heap.size [.int .i64 s.sort,.bool s.flag,.int .u64 0,.string s.text,.slice none 0 0,.slice none 0 0] (by rfl) (by rfl) (by exact Cm _ _ _) (by intro u p;simp only[Qh,List.not_mem_nil,or_false]at p;rcases p with rfl|rfl|rfl|rfl|rfl|rfl<;>rfl) (by omega) (by omega) ?_;intro g8 aY w8 R P Q;have aj:=hZ R;have ag:=hZ P;have ai:=hZ Q;clear R P Q)))
      all_goals
       go_wp2_with fail
       go_ret2
       have bl:=E.o.size
       exact IC z HX.o HV.o L.o HO.o aD.o (r.o.trans t.o) M.o C.o ah.o aj.o (((E.o.alloc _).drew.none _).trans ag.o) (by
        rcases ai.o with h|h
        .exact .inl h
        .simp at h;exact .inr (by omega))
     .have T:(Ag (AF s l)).within=false:=by simpa using z
      rw[T]at y;clear z;go_wp2_with(first|(go_at_call 56;refine(y.o _ (by exact cg cR)).mono ?_;rintro e V ⟨rfl,o⟩))
      go_ret2
      exact Kz T (by decide) ((r.o.trans t.o).trans o)
end
end Go.Proofs.YtkfnkppdhcaeoaaGreatDoor

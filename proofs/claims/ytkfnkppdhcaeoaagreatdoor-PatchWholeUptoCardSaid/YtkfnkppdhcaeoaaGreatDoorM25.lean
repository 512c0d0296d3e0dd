/- Part 25 of the proof of patchJoined_card. -/
import Derived.Test.YtkfnkppdhcaeoaaGreatDoorM20
import Derived.Test.YtkfnkppdhcaeoaaGreatDoorM24
set_option maxRecDepth 100000
set_option maxHeartbeats 32000000
set_option linter.unusedSimpArgs false
set_option linter.unusedVariables false
set_option linter.unnecessarySimpa false
namespace Go.Proofs.YtkfnkppdhcaeoaaGreatDoor
open Go renaming Calls->Cl,TypeId->Ti,Value->Vl,World->Wl
section
open _root_.Go.Proofs.Tryz
open Go Go.RowKit Tree
theorem DN{P:Program}{c:Func}{p q r:Tmp}{b:Ti}(h:c.results=#[.cell p b,.tmp q,.tmp r])(a:Array Vl)(w:Wl)(g:Nat)(T:Ti)(cs:List Vl)(d:TypeDesc)(i:a.getD p undef= .pointer (some ⟨g,0,none⟩))(e:Ac w g cs T)(l:P.underlying b=some d)(f:(match d with| .struct _| .array _ _=>true|_=>false)=true)(hi:(P.info? b).map (·.size)=some cs.length):
  (results c a).run P w= .ok (.tuple #[.agg cs.toArray,a.getD q undef,a.getD r undef]) w:=by
 have j:a[p]?.getD undef= .pointer (some ⟨g,0,none⟩):=by simpa using i
 have k:=run_loadVar_row (P:=P) w g T b cs.toArray (0,0) d e l f (by simpa using hi);simp[results,h,j,asAddr,k]
def zV:List Vl:=[.int .i64 0,.bool false,.int .u64 0,.string ⟨#[]⟩,.slice none 0 0,.slice none 0 0]
def Eu(l:List Ap)(w:Wl)(e:Ending)(w':Wl):Prop:=
 (match(if l.length<=65536 then CA l else none)with
  |some t=>∃(F:Nat->Prop) (cs:List Vl),e= .returned (.tuple #[.agg cs.toArray,.int .i64 0,.int .i64 0])/\AL w' F t cs/\(∀b,F b->w.heap.size<=b/\b<w'.heap.size)/\(Ag t).within=true
  |none=>∃(k a:Int),k≠0/\e= .returned (.tuple #[.agg zV.toArray,.int .i64 k,.int .i64 a]))/\Chg w w' []
theorem Vo(l:List Ap)(sl:Vl)(xs:List Vl)(w:Wl)(hR:As w sl 6 l.length xs)(hS:Az w l xs)(q:∀s∈l,Di s)(hl:l.length<=4294967296):
  Cl prog 75 #[sl] w (Eu l w):=by
 obtain⟨a,c,rfl,a0,_⟩:=hR.form;have HR:=hZ hR;have HS:=hZ hS;have T:=hZ q;obtain⟨w0,P⟩:∃x,x=w.alloc (.cells #[.int .i64 0,.bool false,.int .u64 0,.string ⟨#[]⟩,.slice none 0 0,.slice none 0 0] 29):=⟨_,rfl⟩
 have Y:Hid (Ac w0 w.heap.size zV 29):=by rw[P];exact hZ (Ac.new w _ _)
 have I:Hid (Chg w w0 []):=by rw[P];exact hZ ((Chg.refl w []).alloc _)
 have aG:w0.heap.size=w.heap.size+1:=by rw[P];simp
 have HZ:=hZ aG;have HW:=hZ P;clear hR hS q P aG;by_cases N:l.length<=65536
 .go_enter func75,ntmps75
  go_wp2_with fail
  rw[<-HW.o];go_loopw [5,6] (fun v5 v6 wr=>∃(i:Nat) (row:List Tr) (F:Nat->Prop),i<=l.length/\v6= .int .i64 i/\DS [] (l.take i)=some row/\Zk wr F v5 row/\Chg w0 wr []/\(∀g,v5.ownBlock=some g->w0.heap.size<=g)/\∀b,F b->w0.heap.size<=b) (fun _ v6 _=>l.length-(intOf v6).toNat)
  case atStart=>exact⟨0,[],fun _=>False,by omega,rfl,by simp[DS],⟨[],Ba.nil _ _ _,by simp[Aq],fun _ h=>h.elim,fun g m=>by cases m⟩,Chg.refl _ _,fun g m=>(by cases m),fun _ h=>h.elim⟩
  case round=>
   obtain⟨A,rfl⟩:∃x,x=wr:=⟨_,rfl⟩
   obtain⟨i,row,F,hi,rfl,z,aB,m,ho,av⟩:=hrel;have X:=hZ av;have af:=Jq (row:=[]) (fun _ h=>by cases h) z;have ai:row.length<=65536:=by have:=af.2;rw[Ql]at this;simp at this;omega
   have B:=hZ m;have ab:=hZ z;have aa:=hZ aB;have HO:=hZ ho;have W:=hZ af.1;have hP:=Y.o.kept m;have Z:=hZ hP;obtain⟨x1,x2,aT,aU,aV,aW,aX,aY⟩:=Ac.cells6 hP;obtain⟨xr,D,_,_,_⟩:=aB;obtain⟨ra,rc,rfl,_⟩:=D.form;have aQ:=D.capLe.2;clear z m ho af D hP av;by_cases aw:i<l.length
   .obtain⟨s,L⟩:∃s,l[i]? =some s:=⟨_,Q9 aw⟩
    have O:s∈l:=Qi L;obtain⟨sk,ak,aj⟩:=HS.o.get i s L;obtain⟨b,o,rfl,ad⟩:=HR.o.base (by omega) (by decide)
    have d:∀j v,(AI s sk)[j]? =some v->A.cell? ⟨b,o+i*6+j,none⟩=some v:=fun j v hv=>by
     rw[Nat.add_assoc];exact(I.o.trans B.o).keeps (ad _ v (aj j v hv))
    have c0:=d 0 _ rfl;have c1:=d 1 _ rfl;have c2:=d 2 _ rfl;have c3:=d 3 _ rfl;have c4:=d 4 _ rfl;have c5:=d 5 _ rfl;rw[Nat.add_zero]at c0;have M:=ak.kept (I.o.trans B.o);by_cases K:Ds s row=true
    .have ah:=KE ab.o L
     rw[Qr K]at ah;have ae:=K;unfold Ds at ae;simp only[Bool.and_eq_true,decide_eq_true_eq]at ae;obtain⟨⟨C,az⟩,S⟩:=ae;have V:Hid (Cl prog 126 #[.slice ra row.length rc,.agg #[.int .i64 s.sort,.bool s.flag,.int .u64 s.bits,.string s.text,.int .i64 s.count,sk]] A (Y5 F (NW row s) (.slice ra row.length rc) A)):=hZ ((Ou row F _ s sk A aa.o M (T.o s O) W.o ai C az).mono fun e w' h=>by unfold GE at h;rwa[Qr S]at h);have aK:=hZ ah;clear ah C az S K L O ak aj ad d M;go_wp2_with(first|(go_at_call 126;refine V.o.mono ?_;rintro e w3 ⟨⟨a3,F3,rfl,ao,an,am⟩,J⟩;have aH:=hZ am;have aN:=hZ ao;have aL:=hZ an;have U:=hZ J;clear ao an J am))
     go_roundw
     case rel=>
      refine⟨i+1,NW row s,F3,by omega,by go_num,aK.o,aN.o,B.o.step U.o (fun k y aw=>by have:=HO.o k (by simpa using y);omega),fun g m=> ?_,fun g m=> ?_⟩
      .rcases aL.o g m with h|h
       .exact HO.o g h
       .exact Q7 B.o.size h
      .exact(aH.o g m).elim (X.o g) (fun h=>Q7 B.o.size h)
     case measure=>simp[intOf];omega
    .have ar:Ds s row=false:=by simpa using K
     have aA:=Oz ab.o L ar;have f:(if l.length<=65536 then CA l else none)=none:=by rw[Qr N];unfold CA;rw[aA]
     have E:=hZ f
     have V:Hid (Cl prog 126 #[.slice ra row.length rc,.agg #[.int .i64 s.sort,.bool s.flag,.int .u64 s.bits,.string s.text,.int .i64 s.count,sk]] A (Wf A)):=by
      by_cases C:Kw s=true/\Hn s<=row.length
      .have S:¬(Ag (AF s row)).within=true:=fun h=>K (by unfold Ds;simp only[Bool.and_eq_true,decide_eq_true_eq];exact⟨⟨C.1,C.2⟩,h⟩)
       exact hZ ((Ou row F _ s sk A aa.o M (T.o s O) W.o ai C.1 C.2).mono fun e w' h=>by unfold GE at h;rwa[Qs S]at h)
      .refine hZ (Vp row _ s sk A ⟨_,_,rfl⟩ M (T.o s O) (by omega) ?_)
       by_cases h:Kw s=true
       .exact .inr (by have:¬Hn s<=row.length:=fun g=>C ⟨h,g⟩;omega)
       .exact .inl (by simpa using h)
     clear aA f K ar L O ak aj ad d M
     go_wp2_with(first
      |(go_at_call 126;refine V.o.mono ?_;rintro e w3 ⟨⟨v3,k3,ag,rfl⟩,J⟩;have aJ:=hZ ag;have a2:(k3==0)=false:=(by rw[Qq];exact ag);have aM:=hZ (Z.o.kept J);have U:=hZ J;clear J ag)
      |(refine Ae rfl _ _ _ rfl w.heap.size zV (by rfl) (by rfl) _ _ aM.o A9 rfl (by intro u n;simp only[zV,Qh,List.not_mem_nil,or_false]at n;rcases n with rfl|rfl|rfl|rfl|rfl|rfl<;>rfl) ?_;intro w9 H G p;clear H))
     refine bodyPost_ret (DN rfl _ _ w.heap.size 29 zV _ rfl G underlying29 rfl A9) rfl ?_;unfold Eu;rw[E.o];exact⟨⟨_,_,aJ.o,rfl⟩,((I.o.trans B.o).trans U.o).fresh p (fun k y=>by simp at y;omega)⟩
   .obtain rfl:i=l.length:=by omega
    have z:=ab.o;rw[Qn (Q8 _)]at z;by_cases Q:row.length=1
    .obtain⟨t,rfl⟩:∃t,row=[t]:=by
      match row,Q with
      |[t],_=>exact⟨t,rfl⟩
     have f:(if l.length<=65536 then CA l else none)=some t:=by rw[Qr N];unfold CA;rw[z]
     have E:=hZ f;obtain⟨xr,D,aF,aE,aS⟩:=aa.o;obtain⟨a',c',e',ap⟩:=D.form
     injection e' with e1 _ e3
     subst e1;subst e3;obtain⟨g,rfl⟩:=ap (by simp);simp only[Aq]at aF;obtain⟨cs,r,rfl,R,rfl⟩:=aF;have aR:=R.uni;obtain⟨la,lc,ka,kc,a4,rfl,_⟩:=aR;obtain⟨so,aC⟩:∃x,x=((Aa t).sort:Int):=⟨_,rfl⟩
     obtain⟨fl,au⟩:∃x,x=(Aa t).flag:=⟨_,rfl⟩
     obtain⟨bi,aq⟩:∃x,x=((Aa t).bits:Int):=⟨_,rfl⟩
     obtain⟨tx,aD⟩:∃x,x=(Aa t).text:=⟨_,rfl⟩
     obtain⟨n1,ax⟩:∃x,x=(Ab t).length:=⟨_,rfl⟩
     obtain⟨n2,ay⟩:∃x,x=(Aa t).keys.length:=⟨_,rfl⟩
     rw[<-aC,<-au,<-aq,<-aD,<-ax,<-ay]at D R;have d:∀j v,(vC so fl bi tx (.slice la n1 lc) (.slice ka n2 kc))[j]? =some v->A.cell? ⟨g,j,none⟩=some v:=fun j v hv=>D.cell rfl j v (by rw[List.append_nil];exact hv)
     have c0:=d 0 _ rfl;have c1:=d 1 _ rfl;have c2:=d 2 _ rfl;have c3:=d 3 _ rfl;have c4:=d 4 _ rfl;have c5:=d 5 _ rfl;have aO:=hZ R;have al:=hZ aE;have aI:Hid ((Ag t).within=true):=W.o t (by simp);simp only[Qj,List.length_nil]at aQ ai|-;clear d D R aE aS ap aC au aq aD ax ay Q z f
     go_wp2_with(first
      |(refine Ae rfl _ _ _ rfl w.heap.size (vC so fl bi tx (.slice la n1 lc) (.slice ka n2 kc)) (by rfl) (by rfl) _ _ Z.o A9 rfl (by intro u n;simp only[vC,Qh,List.not_mem_nil,or_false]at n;rcases n with rfl|rfl|rfl|rfl|rfl|rfl<;>rfl) ?_;intro w9 H G p;clear H))
     refine bodyPost_ret (DN rfl _ _ w.heap.size 29 (vC so fl bi tx (.slice la n1 lc) (.slice ka n2 kc)) _ rfl G underlying29 rfl A9) rfl ?_;unfold Eu;rw[E.o]
     have aP:∀b,F b->b≠w.heap.size:=fun b q=>by
      have:=X.o b q;have:=HZ.o;omega
     exact⟨⟨F,_,rfl,AL.kept (p.keepsF al.o (fun b q h=>aP b h (by simpa using q))) (fun _ h=>h) _ _ aO.o,fun b q=>⟨by have:=X.o b q;have:=HZ.o;omega,Q6 (al.o b q) p.size⟩,aI.o⟩,(I.o.trans B.o).fresh p (fun k y=>by simp at y;omega)⟩
    .have f:(if l.length<=65536 then CA l else none)=none:=by
      rw[Qr N];unfold CA;rw[z]
      match row,Q with
      |[],_=>rfl
      |[t],h=>exact absurd rfl h
      |_::_::_,_=>rfl
     have E:=hZ f;have aZ:((row.length:Int)==1)=false:=by rw[Qq];omega
     clear f z Q
     go_wp2_with(first
      |(refine Ae rfl _ _ _ rfl w.heap.size zV (by rfl) (by rfl) _ _ Z.o A9 rfl (by intro u n;simp only[zV,Qh,List.not_mem_nil,or_false]at n;rcases n with rfl|rfl|rfl|rfl|rfl|rfl<;>rfl) ?_;intro w9 H G p;clear H))
     refine bodyPost_ret (DN rfl _ _ w.heap.size 29 zV _ rfl G underlying29 rfl A9) rfl ?_;unfold Eu;rw[E.o];exact⟨⟨_,_,by decide,rfl⟩,(I.o.trans B.o).fresh p (fun k y=>by simp at y;omega)⟩
 .have f:(if l.length<=65536 then CA l else none)=none:=Qs N
  have E:=hZ f;have a1:(65536:Int)<(l.length:Int):=by omega
  obtain⟨x1,x2,aT,aU,aV,aW,aX,aY⟩:=Ac.cells6 Y.o;clear f N;go_enter func75,ntmps75
  go_upto_region 1 with(fail)
  rw[<-HW.o]
  go_wp2_with(first
   |(refine Ae rfl _ _ _ rfl w.heap.size zV (by rfl) (by rfl) _ _ Y.o A9 rfl (by intro u n;simp only[zV,Qh,List.not_mem_nil,or_false]at n;rcases n with rfl|rfl|rfl|rfl|rfl|rfl<;>rfl) ?_;intro w9 H G p;clear H))
  refine bodyPost_ret (DN rfl _ _ w.heap.size 29 zV _ rfl G underlying29 rfl A9) rfl ?_;unfold Eu;rw[E.o];exact⟨⟨_,_,by decide,rfl⟩,I.o.fresh p (fun k y=>by simp at y;omega)⟩
end
section
open _root_.Go.Proofs.Tryz
open Go Go.RowKit Tree Ptr
theorem Zx{ks:List BY}{k:BY}(h:k∈ks):k.size<=Ay ks:=by
 obtain⟨i,hi⟩:=List.mem_iff_getElem?.1 h;have:=IW hi;omega
theorem Ez{t:Tr}(h:Av t)(d:(Ag t).within=true):Di (Aa t).toI:=by
 have c:=Ar d;have hi:=Bj t
 cases t with
 |num b=>simp only[Av]at h;exact⟨h.1,by show(0:Nat)<=_;omega,by simp[Aa,Aw.toI],by simp[Aa,Aw.toI],by simp[Aa,Aw.toI,Ay],by simp[Aa,Aw.toI]⟩
 |text s=>simp only[Av]at h;exact⟨by simp[Aa,Aw.toI],by simp only[Aa,Aw.toI];omega,by simp[Aa,Aw.toI],by simp[Aa,Aw.toI],by simp[Aa,Aw.toI,Ay],by simp[Aa,Aw.toI]⟩
 |obj ks l=>
  simp only[Av]at h;simp only[Ab]at hi;have e:Ay ks<=2097152:=by simp only[Ag,Sz.over]at c;omega
  refine⟨by simp[Aa,Aw.toI],by show(0:Nat)<=_;omega,by simp only[Aa,Aw.toI];omega,fun k a=> ?_,by simp only[Aa,Aw.toI];omega,by simp[Aa,Aw.toI]⟩;have:=Zx a;simp only[Aa,Aw.toI]at a this|-;omega
 |list l=>
  simp only[Ab]at hi;exact⟨by simp[Aa,Aw.toI],by show(0:Nat)<=_;omega,by simp[Aa,Aw.toI],by simp[Aa,Aw.toI],by simp[Aa,Aw.toI,Ay],by simp only[Aa,Aw.toI];omega⟩
 |flag b=>exact⟨by simp[Aa,Aw.toI],by show(0:Nat)<=_;omega,by simp[Aa,Aw.toI],by simp[Aa,Aw.toI],by simp[Aa,Aw.toI,Ay],by simp[Aa,Aw.toI]⟩
 |null=>exact⟨by simp[Aa,Aw.toI],by show(0:Nat)<=_;omega,by simp[Aa,Aw.toI],by simp[Aa,Aw.toI],by simp[Aa,Aw.toI,Ay],by simp[Aa,Aw.toI]⟩
mutual
theorem Uy:∀(t:Tr),Av t->(Ag t).within=true->∀s∈Ai t,Di s.toI
 | .null,h,hw,s,hs=>by simp only[Ai,List.mem_singleton]at hs;subst hs;exact Ez h hw
 | .flag _,h,hw,s,hs=>by simp only[Ai,List.mem_singleton]at hs;subst hs;exact Ez h hw
 | .num _,h,hw,s,hs=>by simp only[Ai,List.mem_singleton]at hs;subst hs;exact Ez h hw
 | .text _,h,hw,s,hs=>by simp only[Ai,List.mem_singleton]at hs;subst hs;exact Ez h hw
 | .list l,h,hw,s,hs=>by
  simp only[Ai,Qf,List.mem_singleton]at hs
  rcases hs with hs|hs
  .exact PG l (fun u hu=>⟨h.items u hu,C8 hw hu⟩) s hs
  .subst hs;exact Ez h hw
 | .obj ks l,h,hw,s,hs=>by
  simp only[Ai,Qf,List.mem_singleton]at hs
  rcases hs with hs|hs
  .exact PG l (fun u hu=>⟨h.items u hu,C8 hw hu⟩) s hs
  .subst hs;exact Ez h hw
theorem PG:∀(l:List Tr),(∀u∈l,Av u/\(Ag u).within=true)->∀s∈BI l,Di s.toI
 |[],_,s,hs=>by simp[BI]at hs
 |t::l,h,s,hs=>by
  simp only[BI,Qf]at hs
  rcases hs with hs|hs
  .exact Uy t (h t (by simp)).1 (h t (by simp)).2 s hs
  .exact PG l (fun u hu=>h u (by simp[hu])) s hs
end
theorem KI{t:Tr}(h:Bt t):∀s∈MW t,Di s:=fun s a=>by
 unfold MW at a;obtain⟨p,b,rfl⟩:=List.mem_map.1 a;exact Uy t h.good h.fits p b
theorem Ju(t:Tr):(MW t).length=(Ag t).nodes:=by unfold MW;rw[List.length_map,BL]
def F9(t:Tr)(w:Wl)(e:Ending)(w':Wl):Prop:=
 ∃(F:Nat->Prop) (a:Nat),e= .returned (.tuple #[.pointer (some ⟨a,0,none⟩),.nilIface])/\CG w' F a t/\(∀b,F b->b<w'.heap.size)/\Chg w w' []/\(∀b,F b->w.heap.size<=b)/\w.heap.size<=a
theorem BO.steps{t:Tr}(h:Bt t){w w':Wl}{e:Ending}(a:BO (MW t) w e w'):F9 t w e w':=by
 unfold BO at a;have b:=FE h.good h.fits;unfold AS at b;have j:MW t=(Ai t).map Aw.toI:=rfl;rw[j,b]at a;obtain⟨⟨F,k,c,d,f,_,i⟩,g⟩:=a;exact⟨F,k,c,d,f,g,i⟩
theorem ZC{t:Tr}{v:Vl}{bs:List Nat}{w:Wl}(h:Bt t)(d:AP w t v bs):Cl prog 44 #[v] w (F9 t w):=by
 obtain⟨u,x,rfl⟩:=d.iface;have l:Hid (∀a,Chg w a []->∃f args,(callMethod (.iface u x) EB #[.slice none 0 0]).run prog a= .ok (.enter f args) a/\Cl prog f args a fun e w'=>∃sv,e= .returned sv/\LN t a sv w'):=hZ fun a J=>Le h.good h.fits (d.chg J (by simp))
 obtain⟨f,args,o,n⟩:=l.o w cR;have z:=hZ n;have B:=hZ o;have L:=hZ h;have M:=(Ar h.fits).1;have k:=Ju t
 have y:Hid (∀(a:Wl) (sv:Vl) (xs:List Vl),Ba a sv 72 6 (Ag t).nodes xs->Az a (MW t) xs->Cl prog 28 #[sv] a (F9 t a)):=hZ fun a sv xs g c=>
  (Fk (MW t) sv xs a (by rw[k];exact g.rowC (by rw[c.length,k])) c (KI h) (by rw[k];omega)).mono fun e w' d=>BO.steps h d
 clear n o d h l;go_enter func44,ntmps44
 go_wp2_with(first
  |(refine Ft rfl _ _ _ _ rfl (.iface u x) (.slice none 0 0) (by rfl) (by rfl) f args B.o _ z.o ?_;rintro e N ⟨sv,rfl,j⟩;refine⟨_,rfl, ?_⟩;obtain⟨G,xs,g,c,_⟩:=j.ex;have A:=hZ g;have C:=hZ c;have i:=hZ j.chg;clear j g c)
  |(go_at_call 28;refine(y.o _ sv xs A.o C.o.toR).mono ?_;rintro e w2 ⟨F,K,rfl,p,q,r,s⟩;have D:=hZ p;have E:=hZ q;have H:=hZ r;have m:=hZ s;clear p q r s))
 refine bodyPost_ret (results_tmp2 rfl _ _ _) rfl ⟨F,K,by simp,D.o,E.o,(by exact cg (i.o.trans H.o)),fun b I=>Q7 i.o.size (m.o.1 b I),Q7 i.o.size m.o.2⟩
end
section
open _root_.Go.Proofs.Tryz
open Go Go.Shelf Go.RowKit Go.Lib Tree Ptr
theorem Gn{P:Program}{c:Func}{p q:Tmp}{b:Ti}(h:c.results=#[.cell p b,.tmp q])(a:Array Vl)(w:Wl)(g:Nat)(T:Ti)(cs:List Vl)(d:TypeDesc)(i:a.getD p undef= .pointer (some ⟨g,0,none⟩))(e:Ac w g cs T)(l:P.underlying b=some d)(f:(match d with| .struct _| .array _ _=>true|_=>false)=true)(hi:(P.info? b).map (·.size)=some cs.length):
  (results c a).run P w= .ok (.tuple #[.agg cs.toArray,a.getD q undef]) w:=by
 have j:a[p]?.getD undef= .pointer (some ⟨g,0,none⟩):=by simpa using i
 have k:=run_loadVar_row (P:=P) w g T b cs.toArray (0,0) d e l f (by simpa using hi);simp[results,h,j,asAddr,k]
def ZY(r:Option Tr)(w:Wl)(e:Ending)(w':Wl):Prop:=(match r with
 |some t=>∃(F:Nat->Prop) (cs:List Vl),e= .returned (.tuple #[.agg cs.toArray,.bool true])/\AL w' F t cs/\(∀b,F b->w.heap.size<=b/\b<w'.heap.size)/\(Ag t).within=true
 |none=>e= .returned (.tuple #[.agg zV.toArray,.bool false]))/\Chg w w' []
theorem XX{xs us:List Vl}{i:Nat}(b:us.length=6)(h:∀j v,us[j]? =some v->xs[i*6+j]? =some v):xs.take ((i+1)*6)=xs.take (i*6)++us:=by
 rw[show(i+1)*6=i*6+6 from by omega,List.take_add]
 congr 1
 apply List.ext_getElem?;intro j;rw[List.getElem?_take,List.getElem?_drop];by_cases a:j<6
 .rw[Qr a,Q9 (by omega:j<us.length)]
  exact h j _ (Q9 (by omega))
 .rw[Qs a,List.getElem?_eq_none (by omega)]
theorem Mz(h:Int)(g:Bool)(f:Int)(i:BY)(a b:Option Addr)(n c m d:Nat):∀u∈vC h g f i (.slice a n c) (.slice b m d),u.oneCell'=true:=by
 intro u e;simp only[vC,Qh,List.not_mem_nil,or_false]at e
 rcases e with rfl|rfl|rfl|rfl|rfl|rfl<;>rfl
theorem Vq(l:List Ap)(sl:Vl)(xs:List Vl)(w:Wl)(X:As w sl 6 l.length xs)(hS:Az w l xs)(c:∀s∈l,Di s)(M:l.length<=4294967296):
  Cl prog 41 #[sl] w (ZY (AS l) w):=by
 obtain⟨sa,sc,rfl,az,an⟩:=X.form;have HR:=hZ X;have HS:=hZ hS;have aq:=hZ c;have ad:=hZ an;obtain⟨n,hn⟩:∃n,n=l.length:=⟨_,rfl⟩
 have C:=hZ hn;have av:=hZ M;rw[<-hn]at M|-;clear X hS c hn an az;go_enter func41,ntmps41
 go_wp2_with fail
 obtain⟨w0,O⟩:∃y,y=w.alloc (.cells #[.int .i64 0,.bool false,.int .u64 0,.string ⟨#[]⟩,.slice none 0 0,.slice none 0 0] 29):=⟨_,rfl⟩
 have H0:Hid (Chg w w0 []):=by rw[O];exact hZ ((Chg.refl w []).alloc _)
 have ap:Hid (Ac w0 w.heap.size zV 29):=by rw[O];exact hZ (Ac.new w zV _)
 rw[<-O];clear O;go_loopw [5,4] (fun v5 v4 wr=>∃(i:Nat) (q:Option Addr) (I:Nat),i<=n/\v5= .int .i64 i/\v4= .slice q i I/\Ba wr v4 158 6 i (xs.take (i*6))/\Ac wr w.heap.size zV 29/\Chg w wr []/\(∀g,v4.ownBlock=some g->w.heap.size<g)) (fun v5 _ _=>n-(intOf v5).toNat)
 case atStart=>exact⟨0,none,0,by omega,rfl,rfl,by rw[Nat.zero_mul,List.take_zero];exact Ba.nil _ _ _,ap.o,H0.o,fun g r=>by cases r⟩
 case round=>
  obtain⟨i,q,I,hi,rfl,rfl,hL,Y,hc,al⟩:=hrel;have HL:=hZ hL;have S:=hZ Y;have B:=hZ hc;have V:=hZ al;have lR:w.heap.size<wr.heap.size:=Y.lt;clear hL Y hc al;by_cases aE:i<n
  .obtain⟨s,hs⟩:∃s,l[i]? =some s:=⟨_,Q9 (by have:=C.o;omega)⟩
   obtain⟨b,o,rfl,ai⟩:=HR.o.base (by have:=C.o;omega) (by decide);obtain⟨sk,am,ab⟩:=Az.get HS.o i s hs;obtain⟨y,z,rfl,_⟩:=am.form;have p:∀j v,(AI s (.slice y s.keys.length z))[j]? =some v->wr.cell? ⟨b,o+i*6+j,none⟩=some v:=fun j v x=>B.o.keeps (by rw[Nat.add_assoc];exact ai _ v (ab j v x))
   have c0:=p 0 _ rfl;have c1:=p 1 _ rfl;have c2:=p 2 _ rfl;have c3:=p 3 _ rfl;have c4:=p 4 _ rfl;have c5:=p 5 _ rfl;rw[Nat.add_zero]at c0;have ax:=hZ (XX (xs:=xs) (i:=i) (us:=AI s (.slice y s.keys.length z)) rfl ab);clear hs am ab p ai;go_wp2_with((at_builtin;go_loud(refine Bg rfl _ _ _ rfl 158 Iq 6 72 (by decide) underlying156 GO rfl (.slice q i I) i (xs.take (i*6)) (by rfl) (by exact HL.o.kept (bs:=[]) (by exact cg cR) (by simp)) (wr.heap.size+1) (AI s (.slice y s.keys.length z)) (by rfl) rfl (by intro j v x;exact((BD _ _ (AI s (.slice y s.keys.length z)) 158 _ rfl (by simp)).cell j).trans x) (C0 _ _ _ _) (by omega) (by omega) ?_);intro g aC w7 ag af ah;have au:=hZ ag;have ar:=hZ af;have aw:=hZ ah;clear ag af ah))
   go_roundw
   case rel=>
    have aj:Chg wr w7 (Vl.slice q i I).ownBlock.toList:=Chg.step (b:=_) (bs:=(Vl.slice q i I).ownBlock.toList) (by exact cg cR) ar.o (fun i hi M=>hi);refine⟨i+1,_,_,by omega,by go_num,rfl,by rw[ax.o];exact au.o,S.o.kept aj (fun hm=> ?_),B.o.fresh aj (fun g r=>Nat.le_of_lt (V.o g (by simpa using r))),fun g2 f=> ?_⟩
    .have:=V.o _ (by simpa using hm);omega
    .simp[Vl.ownBlock]at f
     subst f
     rcases aw.o with h|h
     .exact V.o _ h
     .rw[h];simp;omega
   case measure=>simp[intOf];omega
  .obtain rfl:i=n:=by omega
   have ao:xs.take (i*6)=xs:=Qn (by have:=ad.o;have:=C.o;omega);have W:=HL.o;rw[ao]at W;have aa:=W.rowC (by have:=ad.o;have:=C.o;omega);rw[C.o]at aa;have d:=Vo l _ xs wr aa (Az.kept B.o HS.o) aq.o av.o;have e0:(if l.length<=65536 then CA l else none)=AS l:=rfl;unfold Eu at d;rw[e0,<-C.o]at d;clear W aa ao e0
   cases E:AS l with
   |none=>
    rw[E]at d;have R:=hZ d;have T:=hZ E;clear d E;go_wp2_with fail
    refine R.o.mono ?_;rintro e A ⟨⟨k,a,hk,rfl⟩,D⟩;have G:=hZ D;have aD:(k==0)=false:=by simpa using hk
    clear D
    go_wp2_with(first
     |(refine Ae rfl _ _ _ rfl A.heap.size zV (by rfl) (by rfl) 29 _ (BD _ _ zV _ _ rfl rfl) A9 rfl (Mz 0 false 0 ⟨#[]⟩ none none 0 0 0 0) ?_;intro w2 aA J f;have P:=hZ J;have m:Hid (Chg A w2 []):=hZ (Chg.step (b:=_) (by exact cg cR) f (fun i hi M=>by simp at hi;omega));clear J f)
     |(refine Bp rfl _ _ rfl A.heap.size (by rfl) 29 zV (by exact P.o) _ underlying29 rfl A9 ?_)
     |(refine Ae rfl _ _ _ rfl w.heap.size zV (by rfl) (by rfl) 29 _ ((S.o.kept G.o).kept m.o) A9 rfl (Mz 0 false 0 ⟨#[]⟩ none none 0 0 0 0) ?_;intro w3 aB K L;have Q:=hZ K;have H:=hZ L;clear K L))
    refine bodyPost_ret (Gn rfl _ _ w.heap.size 29 zV _ rfl Q.o underlying29 rfl A9) rfl ?_;rw[T.o];exact⟨rfl,(B.o.trans (G.o.trans m.o)).fresh H.o (fun g r=>by simp at r;omega)⟩
   |some t=>
    rw[E]at d;have R:=hZ d;have T:=hZ E;clear d E
    go_wp2_with(first
     |(go_at_call 75;refine R.o.mono ?_;rintro e A ⟨⟨F,cs,rfl,x,hF,hw⟩,D⟩;have G:=hZ D;have U:=hZ hF;have ay:=hZ hw;have HV:=hZ x;obtain⟨la,lc,y,z,ys,rfl,_⟩:=x.uni;have N:(prog.info? 29).map (·.size)=some (vC (Aa t).sort (Aa t).flag (Aa t).bits (Aa t).text (.slice la (Ab t).length lc) (.slice y (Aa t).keys.length z)).length:=A9;generalize Z:vC (Aa t).sort (Aa t).flag (Aa t).bits (Aa t).text (.slice la (Ab t).length lc) (.slice y (Aa t).keys.length z)=cs at*;have ae:∀u∈cs,u.oneCell'=true:=(by rw[<-Z];exact Mz _ _ _ _ _ _ _ _ _ _);have ak:cs.length=6:=(by rw[<-Z];rfl);clear D Z x hF hw)
     |(refine Ae rfl _ _ _ rfl A.heap.size cs (by rfl) (by rfl) 29 zV (BD _ _ zV _ _ rfl rfl) N (by rw[ak];rfl) ae ?_;intro w2 aA J f;have P:=hZ J;have m:Hid (Chg A w2 []):=hZ (Chg.step (b:=_) (by exact cg cR) f (fun i hi M=>by simp at hi;omega));clear J f)
     |(refine Bp rfl _ _ rfl A.heap.size (by rfl) 29 cs (by exact P.o) _ underlying29 rfl N ?_)
     |(refine Ae rfl _ _ _ rfl w.heap.size cs (by rfl) (by rfl) 29 zV ((S.o.kept G.o).kept m.o) N (by rw[ak];rfl) ae ?_;intro w3 aB K L;have Q:=hZ K;have H:=hZ L;clear K L))
    refine bodyPost_ret (Gn rfl _ _ w.heap.size 29 cs _ rfl Q.o underlying29 rfl N) rfl ?_;rw[T.o];have hz:=B.o.size;refine⟨⟨F,cs,rfl,AL.kept (((m.o.none [w.heap.size]).trans H.o).keepsF (fun b c=>(U.o b c).2) (fun b c hm=> ?_)) (fun _ h=>h) _ _ HV.o,fun b c=> ?_,ay.o⟩,(B.o.trans (G.o.trans m.o)).fresh H.o (fun g r=>by simp at r;omega)⟩
    .simp at c;subst c;have:=(U.o _ hm).1;omega
    .have D:=U.o b c;have h2:=m.o.size;have h3:=H.o.size;omega
end
end Go.Proofs.YtkfnkppdhcaeoaaGreatDoor

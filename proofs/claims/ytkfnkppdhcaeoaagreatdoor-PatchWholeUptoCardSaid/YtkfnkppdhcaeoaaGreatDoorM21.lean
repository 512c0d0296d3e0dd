/- Part 21 of the proof of patchJoined_card. -/
import Derived.Shelf.Spec.SlicesInsertGrow
import Derived.Test.YtkfnkppdhcaeoaaGreatDoorM19
set_option maxRecDepth 100000
set_option maxHeartbeats 32000000
set_option linter.unusedSimpArgs false
set_option linter.unusedVariables false
set_option linter.unnecessarySimpa false
namespace Go.Proofs.YtkfnkppdhcaeoaaGreatDoor
open Go renaming Calls->Cl,TypeId->Ti,Value->Vl,World->Wl
section
open _root_.Go.Proofs.Tryz
open Go Go.RowKit Tree Ptr
theorem L4:(prog.info? 144).map (fun i=>(i.zero,i.size,i.bytes))=some (some .nilIface,1,16):=by kernel_rfl
theorem KX:(prog.info? 236).map (fun i=>(i.zero,i.size,i.bytes))=some (some (.agg #[.string ⟨#[]⟩,.nilIface]),2,32):=by kernel_rfl
theorem Vt:∀(k:Nat) (t:Tr) (F:Nat->Prop) (v:Vl) (w:Wl),(Ag t).nodes<=k->(Ag t).nodes<=65536->Af w F t v->(∀b,F b->b<w.heap.size)->Cl prog 116 #[.agg #[v]] w (Ht t w):=by
 intro k
 induction k with
 |zero=>intro t _ _ _ h;have:=Cv t;omega
 |succ k ih=>
  intro t F v w hk ax n N;have av:=Bj t
  have O:∀u v w',u∈Ab t->Af w' F u v->(∀b,F b->b<w'.heap.size)->Cl prog 116 #[.agg #[v]] w' (Ht u w'):=by
   intro u v w' p aL aE;obtain⟨i,hi⟩:=List.mem_iff_getElem?.1 p;have:=CO hi;exact ih u F v w' (by omega) (by omega) aL aE
  clear ih;cases t
  case null=>
   simp only[Af]at n;subst n;have c:∀(w:Wl),(Instr.typeAssert (.iface 214 (.agg #[])) 62 214 true).run prog w= .ok (.tuple #[.agg #[],.bool true]) w:=fun _=>by kernel_rfl
   go_enter func116,ntmps116
   go_wp2
   go_ret
   exact⟨_,fun _=>False,rfl,rfl,by exact cg cR,fun _ h=>h.elim⟩
  case flag x=>
   simp only[Af]at n;subst n;have c:∀(w:Wl),(Instr.typeAssert (.iface 215 (.bool x)) 62 214 true).run prog w= .ok (.tuple #[.agg #[],.bool false]) w:=fun _=>by kernel_rfl
   have a1:∀(w:Wl),(Instr.typeAssert (.iface 215 (.bool x)) 62 215 true).run prog w= .ok (.tuple #[.bool x,.bool true]) w:=fun _=>by kernel_rfl
   go_enter func116,ntmps116
   go_wp2
   go_ret
   exact⟨_,fun _=>False,rfl,rfl,by exact cg cR,fun _ h=>h.elim⟩
  case num x=>
   simp only[Af]at n;subst n;have c:∀(w:Wl),(Instr.typeAssert (.iface 219 (.float .f64 x)) 62 214 true).run prog w= .ok (.tuple #[.agg #[],.bool false]) w:=fun _=>by kernel_rfl
   have a1:∀(w:Wl),(Instr.typeAssert (.iface 219 (.float .f64 x)) 62 215 true).run prog w= .ok (.tuple #[.bool false,.bool false]) w:=fun _=>by kernel_rfl
   have a2:∀(w:Wl),(Instr.typeAssert (.iface 219 (.float .f64 x)) 62 219 true).run prog w= .ok (.tuple #[.float .f64 x,.bool true]) w:=fun _=>by kernel_rfl
   go_enter func116,ntmps116
   go_wp2
   go_ret
   exact⟨_,fun _=>False,rfl,rfl,by exact cg cR,fun _ h=>h.elim⟩
  case text x=>
   simp only[Af]at n;subst n;have c:∀(w:Wl),(Instr.typeAssert (.iface 220 (.string x)) 62 214 true).run prog w= .ok (.tuple #[.agg #[],.bool false]) w:=fun _=>by kernel_rfl
   have a1:∀(w:Wl),(Instr.typeAssert (.iface 220 (.string x)) 62 215 true).run prog w= .ok (.tuple #[.bool false,.bool false]) w:=fun _=>by kernel_rfl
   have a2:∀(w:Wl),(Instr.typeAssert (.iface 220 (.string x)) 62 219 true).run prog w= .ok (.tuple #[.float .f64 0,.bool false]) w:=fun _=>by kernel_rfl
   have a3:∀(w:Wl),(Instr.typeAssert (.iface 220 (.string x)) 62 220 true).run prog w= .ok (.tuple #[.string x,.bool true]) w:=fun _=>by kernel_rfl
   go_enter func116,ntmps116
   go_wp2
   go_ret
   exact⟨_,fun _=>False,rfl,rfl,by exact cg cR,fun _ h=>h.elim⟩
  case list z=>
   simp only[Af]at n;obtain⟨b,sl,q,rfl,an,_,_,_,c3,hr,hi⟩:=n;obtain⟨sa,sc,rfl,Y⟩:=hr.cell;have ab:=hi.length;simp only[Ab]at av O;have aO:q.length<=65536:=by omega
   have lb:=N b an;have M:=hZ ab;clear ab;have c:∀(w:Wl),(Instr.typeAssert (.iface 136 (.pointer (some ⟨b,0,none⟩))) 62 214 true).run prog w= .ok (.tuple #[.agg #[],.bool false]) w:=fun _=>by kernel_rfl
   have a1:∀(w:Wl),(Instr.typeAssert (.iface 136 (.pointer (some ⟨b,0,none⟩))) 62 215 true).run prog w= .ok (.tuple #[.bool false,.bool false]) w:=fun _=>by kernel_rfl
   have a2:∀(w:Wl),(Instr.typeAssert (.iface 136 (.pointer (some ⟨b,0,none⟩))) 62 219 true).run prog w= .ok (.tuple #[.float .f64 0,.bool false]) w:=fun _=>by kernel_rfl
   have a3:∀(w:Wl),(Instr.typeAssert (.iface 136 (.pointer (some ⟨b,0,none⟩))) 62 220 true).run prog w= .ok (.tuple #[.string ⟨#[]⟩,.bool false]) w:=fun _=>by kernel_rfl
   have a4:∀(w:Wl),(Instr.typeAssert (.iface 136 (.pointer (some ⟨b,0,none⟩))) 62 136 true).run prog w= .ok (.tuple #[.pointer (some ⟨b,0,none⟩),.bool true]) w:=fun _=>by kernel_rfl
   have HI:=hZ hi;have HK:=hZ O;have D:=hZ N;have HC:=hZ Y;clear hi O N Y hr ax hk;go_enter func116,ntmps116
   go_wp2_with(first
    |(at_make;refine LF rfl _ _ _ rfl 144 .nilIface 16 underlying141 L4 _ _ _ q.length rfl rfl (by first|rfl|omega) (by omega) (by unfold maxLen;omega) (w.heap.size+1) (by simp) ?_;intro w1 W Z;have y:=((Chg.refl w []).alloc _).trans Z;have ak:=hZ W;have ah:=hZ y;have aC:=y.keeps c3;have aP:=Q6 lb y.size;clear W Z y))
   go_loopw [8,51] (fun v8 K wr=>∃(i:Nat) (J:Vl),i<=q.length/\K= .int .i64 i/\J=v8/\T8 w z i J wr) (fun _ K _=>q.length-(intOf K).toNat)
   case atStart=>exact⟨0,_,by omega,rfl,rfl,[],fun _=>False,ak.o,by simp[Dc],fun _ h=>h.elim,fun g o=>⟨by simp[Vl.ownBlock]at o;omega,id⟩,ah.o⟩
   case round=>
    obtain⟨i,J,aJ,rfl,rfl,xs,G,f,m,E,r,d⟩:=hrel;by_cases aK:i<q.length
    .have aq:i<z.length:=by have:=M.o;omega
     obtain⟨u,p⟩:∃u,z[i]? =some u:=⟨_,Q9 aq⟩
     obtain⟨vu,ad,H⟩:=HI.o.get i u p;obtain⟨ti,xi,rfl⟩:=H.iface;obtain⟨vb,vo,rfl,aG,ap⟩:=HC.o i _ ad;have af:=d.keeps c3;have aI:=d.keeps ap;have P:xs.length=i:=by rw[m.length,Ql];omega
     obtain⟨c,l,rfl,_⟩:=f.form;rw[P]at f r|-;have aj:=hZ (Af.kept (d.keepsF D.o) (fun _ h=>h) _ _ H);have aa:=Qi p;have HU:=hZ (HK.o u _ wr aa aj.o (fun b a=>Q6 (D.o b a) d.size));have R:=hZ f;have H2:=hZ m;have H3:=hZ E;have H4:=hZ r;have H5:=hZ d;have am:=hZ p;have ae:=hZ P;clear f m E r d p ad H aa P
     go_wp2_with(first
      |(go_at_call 116;refine HU.o.mono ?_;rintro e j ⟨Q,L,rfl,A,B,C⟩;obtain⟨au,x1,rfl⟩:=A.iface;have K2:=hZ A;have T:=hZ B;have K4:=hZ C;clear A B C)
      |(refine AM rfl _ _ _ rfl 144 .nilIface 16 underlying141 L4 rfl (.slice c i l) xs (by rfl) (by exact R.o.kept (bs:=[]) (by exact cg T.o) (by simp)) j.heap.size (.iface au x1) (by rfl) (by exact Bx rfl _ _) rfl (by rw[ae.o];omega) (by rw[ae.o];omega) ?_;rw[ae.o];intro g aD w7 X U V;have al:=hZ X;have S:=hZ U;have ai:=hZ V;clear X U V))
     go_roundw
     case rel=>exact⟨i+1,_,by omega,by go_num,rfl,T8.next am.o H2.o H3.o H4.o H5.o (fun g o=>R.o.lt o) K2.o T.o K4.o al.o S.o ai.o⟩
     case measure=>simp[intOf];omega
    .have ag:i=z.length:=by have:=M.o;omega
     obtain⟨c,l,rfl,_⟩:=f.form;rw[ag,Qn (Q8 _)]at m;go_wp2
     go_ret
     refine⟨_,fun b=>G b\/(Vl.slice c xs.length l).ownBlock=some b,rfl, ?_,d,fun b a=> ?_⟩
     .simp only[Hm]
      exact⟨_,xs,rfl,f.rowAt (fun g o=> .inr o),Dc.kept (fun _ _ _=>rfl) (fun _ h=> .inl h) _ _ m⟩
     .rcases a with a|a
      .exact E b a
      .exact⟨(r b a).1,f.lt a⟩
  case obj kk z=>
   simp only[Af]at n;obtain⟨b,aW,sl,q,rfl,an,aT,_,_,_,c3,ar,c4,hr,hi⟩:=n;obtain⟨sa,sc,rfl,Y⟩:=hr.cell;obtain⟨ka,kc,rfl,aw⟩:=ar.cell;rw[Ao]at c3 ar;have ab:=hi.length;simp only[Ab]at av O;have aO:q.length<=65536:=by omega
   have lb:=N b an;have M:=hZ ab;clear ab;have c:∀(w:Wl),(Instr.typeAssert (.iface 137 (.pointer (some ⟨b,0,none⟩))) 62 214 true).run prog w= .ok (.tuple #[.agg #[],.bool false]) w:=fun _=>by kernel_rfl
   have a1:∀(w:Wl),(Instr.typeAssert (.iface 137 (.pointer (some ⟨b,0,none⟩))) 62 215 true).run prog w= .ok (.tuple #[.bool false,.bool false]) w:=fun _=>by kernel_rfl
   have a2:∀(w:Wl),(Instr.typeAssert (.iface 137 (.pointer (some ⟨b,0,none⟩))) 62 219 true).run prog w= .ok (.tuple #[.float .f64 0,.bool false]) w:=fun _=>by kernel_rfl
   have a3:∀(w:Wl),(Instr.typeAssert (.iface 137 (.pointer (some ⟨b,0,none⟩))) 62 220 true).run prog w= .ok (.tuple #[.string ⟨#[]⟩,.bool false]) w:=fun _=>by kernel_rfl
   have a4:∀(w:Wl),(Instr.typeAssert (.iface 137 (.pointer (some ⟨b,0,none⟩))) 62 136 true).run prog w= .ok (.tuple #[.pointer none,.bool false]) w:=fun _=>by kernel_rfl
   have a5:∀(w:Wl),(Instr.typeAssert (.iface 137 (.pointer (some ⟨b,0,none⟩))) 62 137 true).run prog w= .ok (.tuple #[.pointer (some ⟨b,0,none⟩),.bool true]) w:=fun _=>by kernel_rfl
   have HI:=hZ hi;have HK:=hZ O;have D:=hZ N;have HC:=hZ Y;have ay:=hZ aw;clear hi O N Y aw hr ar ax hk;go_enter func116,ntmps116
   go_wp2_with(first
    |(at_make;refine KM rfl _ _ _ rfl 236 (.agg #[.string ⟨#[]⟩,.nilIface]) 2 32 underlying149 KX _ _ _ q.length rfl rfl (by first|rfl|omega) (by omega) (by unfold maxLen;omega) (w.heap.size+1) (by simp) ?_;intro w1 W Z;have y:=((Chg.refl w []).alloc _).trans Z;have ak:=hZ W;have ah:=hZ y;have aC:=y.keeps c3;have aQ:=y.keeps c4;have aP:=Q6 lb y.size;clear W Z y))
   go_loopw [12,78] (fun v8 K wr=>∃(i:Nat) (J:Vl),i<=q.length/\K= .int .i64 i/\J=v8/\cz w kk z i J wr) (fun _ K _=>q.length-(intOf K).toNat)
   case atStart=>exact⟨0,_,by omega,rfl,rfl,[],fun _=>False,by simpa[Kp]using ak.o,by simp[Dc],fun _ h=>h.elim,fun g o=>⟨by simp[Vl.ownBlock]at o;omega,id⟩,ah.o⟩
   case round=>
    obtain⟨i,J,aJ,rfl,rfl,xs,G,f,m,E,r,d⟩:=hrel;by_cases aK:i<q.length
    .have aq:i<z.length:=by have:=M.o;omega
     obtain⟨u,p⟩:∃u,z[i]? =some u:=⟨_,Q9 aq⟩
     obtain⟨s,hs⟩:∃s,kk[i]? =some s:=⟨_,Q9 (by omega)⟩
     obtain⟨vu,ad,H⟩:=HI.o.get i u p;obtain⟨ti,xi,rfl⟩:=H.iface;obtain⟨vb,vo,rfl,aG,ap⟩:=HC.o i _ ad;obtain⟨kb,ko,rfl,aF,aH⟩:=ay.o i (.string s) (by simp[Ad,hs]);have af:=d.keeps c3;have aR:=d.keeps c4;have aI:=d.keeps ap;have ao:=d.keeps aH;have P:xs.length=i:=by rw[m.length,Ql];omega
     obtain⟨c,l,rfl⟩:=f.slots;have aj:=hZ (Af.kept (d.keepsF D.o) (fun _ h=>h) _ _ H);have aa:=Qi p;have HU:Hid (∀wx,Chg wr wx []->Cl prog 116 #[.agg #[.iface ti xi]] wx (fun e j=>∃Q L,e= .returned Q/\Hm j L u Q/\Chg wr j []/\(∀b,L b->wr.heap.size<=b/\b<j.heap.size))):=hZ fun wx hx=>(HK.o u _ wx aa (Af.kept (hx.keepsF (fun b a=>Q6 (D.o b a) d.size)) (fun _ h=>h) _ _ aj.o) (fun b a=>Q6 (D.o b a) (Q7 d.size hx.size))).mono fun e j ⟨Q,L,e1,A,B,C⟩=>⟨Q,L,e1,A,hx.trans B,fun b a=>⟨Q7 hx.size (C b a).1,(C b a).2⟩⟩
     have az:Hid (b∉(Vl.slice c i l).ownBlock.toList):=hZ fun hm=>by have:=(r b (by simpa using hm)).1;omega
     have aV:=D.o kb aF;have aA:Hid (kb∉(Vl.slice c i l).ownBlock.toList):=hZ fun hm=>by have:=(r kb (by simpa using hm)).1;omega
     have R:=hZ f;have H2:=hZ m;have H3:=hZ E;have H4:=hZ r;have H5:=hZ d;have am:=hZ p;have aB:=hZ hs;have ae:=hZ P;have aU:kk.length<=65536:=by have:=M.o;omega
     have aS:i<kk.length:=by omega
     clear f m E r d p hs ad H aa P;have aM:=And.intro af ao;go_wp2_with fail
     go_region_held3(fun w'=>w'.cell? ⟨b,3,none⟩=some (.slice (some ⟨kb,ko,none⟩) kk.length kc)/\w'.cell? ⟨kb,ko+i,none⟩=some (.string s)) (first|exact aM|exact I|exact aN|exact(fun h:Chg j _ []=>⟨h.keeps I.1,h.keeps I.2⟩) (by exact cg cR)|exact(fun h:Chg wr _ []=>⟨h.keeps af,h.keeps ao⟩) (by exact cg cR))
      (first
       |(go_at_call 116;refine(HU.o _ (by exact cg cR)).mono ?_;rintro e j ⟨Q,L,rfl,A,B,C⟩;obtain⟨au,x1,rfl⟩:=A.iface;have I:=And.intro (B.keeps af) (B.keeps ao);have K2:=hZ A;have T:=hZ B;have K4:=hZ C;clear A B C)
       |(refine Bw rfl _ _ _ rfl 236 (.agg #[.string ⟨#[]⟩,.nilIface]) 2 32 (by decide) underlying149 KX rfl (.slice c i l) i _ (by rfl) (by exact(R.o.kept T.o).kept (bs:=[]) (by exact cg cR) (by simp)) j.heap.size [.string s,.iface au x1] (by rfl) (by rfl) (by exact Ff _ _ _) (by simp[Vl.oneCell']) (by omega) (by omega) ?_;intro g aD w7 X U V;have al:=hZ X;have S:Hid (Chg j w7 (Vl.slice c i l).ownBlock.toList):=hZ ((((Chg.refl j []).alloc _).none _).trans U);have ai:Hid ((Vl.slice c i l).ownBlock=some g\/j.heap.size<=g):=hZ (V.imp id (fun h=>by rw[World.size_alloc]at h;omega));have aN:=And.intro ((S.o.cell (World.block_lt_of_cell? j _ I.1) az.o).trans I.1) ((S.o.cell (World.block_lt_of_cell? j _ I.2) aA.o).trans I.2);clear X U V))
     all_goals
      go_wp2_with fail
      go_roundw
      case rel=>exact⟨i+1,_,by omega,by go_num,rfl,cz.next am.o aB.o H2.o H3.o H4.o H5.o (fun g o=>R.o.lt o) K2.o T.o K4.o al.o S.o ai.o⟩
      case measure=>simp[intOf];omega
    .have ag:i=z.length:=by have:=M.o;omega
     obtain⟨c,l,rfl⟩:=f.slots;rw[ag,Qn (Q8 _)]at m;rw[Qn (by omega)]at f;subst ag;go_wp2
     go_ret
     refine⟨_,fun b=>G b\/(Vl.slice c z.length l).ownBlock=some b,rfl, ?_,d,fun b a=> ?_⟩
     .simp only[Hm]
      exact⟨c,l,xs,rfl,by omega,f.rowN (by rw[K0 (by rw[m.length];omega)];omega) (fun g o=> .inr o),Dc.kept (fun _ _ _=>rfl) (fun _ h=> .inl h) _ _ m⟩
     .rcases a with a|a
      .exact E b a
      .exact⟨(r b a).1,f.lt a⟩
end
section
open _root_.Go.Proofs.Tryz
open Go Go.Shelf Go.RowKit Go.Lib Tree Ptr
theorem Ph(b:Nat)(w:Wl):Cl prog 31 #[.float .f64 b] w fun e w'=>e= .returned (.agg (AI (Fv b) (.slice none 0 0)).toArray)/\Chg w w' []:=by
 have l:=GX;have f:Hid (Ac (w.alloc (.cells #[.int .i64 0,.bool false,.int .u64 0,.string {data:=#[]},.int .i64 0,.slice none 0 0] 72)) w.heap.size [.int .i64 0,.bool false,.int .u64 0,.string {data:=#[]},.int .i64 0,.slice none 0 0] 72):=hZ (Ac.new w _ _);have h:∀u∈AI (Fv b) (.slice none 0 0),u.oneCell'=true:=C0 _ _ _ _
 go_enter func31,ntmps31
 go_wp2_with(refine Ae rfl _ _ _ rfl w.heap.size (AI (Fv b) (.slice none 0 0)) (by rfl) (by rfl) 72 _ f.o (by rfl) rfl h ?_;intro w2 j a c;have g:=hZ a;have d:Hid (Chg w w2 []):=hZ (Chg.step (b:=_) (by exact cg cR) c (fun i hi k=>by simp at hi;omega));clear j a c)
 exact bodyPost_ret (Bi rfl _ _ w.heap.size 72 _ _ rfl g.o underlying72 rfl (by rfl)) rfl ⟨rfl,d.o⟩
theorem BD(w:Wl)(X:Array Vl)(cs:List Vl)(T:Ti)(B:Nat)(b:X=cs.toArray)(a:w.heap.size=B):Ac (w.alloc (.cells X T)) B cs T:=by
 subst b;subst a;exact Ac.new w cs T
def IQ:Vl:= .slice none 0 0
def YQ(a b:Nat):List Vl:=AI (Fv f1) IQ++(AI (Fv f2) IQ++(AI (Un 2) IQ++(AI Y7 IQ++(AI (Ve [kC]) (.slice (some ⟨a,0,none⟩) 1 1)++(AI (Ve [kA,kB]) (.slice (some ⟨b,0,none⟩) 2 2)++[])))))
theorem As.ofBlk{w:Wl}{g sz n:Nat}{cs:List Vl}{T:Ti}(h:Ac w g cs T)(a:cs.length=n*sz):As w (.slice (some ⟨g,0,none⟩) n n) sz n cs:=
 ⟨_,_,rfl,Q8 _,a,fun i v b=>⟨g,0,rfl,by rw[Nat.zero_add,h.cell i];exact b⟩⟩
theorem As.nil(w:Wl)(sz:Nat):As w (.slice none 0 0) sz 0 []:=⟨none,0,rfl,Q8 _,by simp,fun i v a=>by simp at a⟩
theorem Az.cons{w:Wl}{s:Ap}{l:List Ap}{sk:Vl}{xs:List Vl}(h:As w sk 1 s.keys.length (Ad s.keys))(k:Az w l xs):Az w (s::l) (AI s sk++xs):=⟨sk,xs,rfl,h,k⟩
def SI(w:Wl)(e:Ending)(w':Wl):Prop:=∃g xs,e= .returned (.slice (some ⟨g,0,none⟩) 6 6)/\As w' (.slice (some ⟨g,0,none⟩) 6 6) 6 6 xs/\Az w' Ut xs/\Chg w w' []
theorem Tc(w:Wl):Cl prog 33 #[] w (SI w):=by
 go_enter func33,ntmps33
 go_wp2_with((go_at_call 31;refine(Ph _ _).mono ?_;rintro e a ⟨rfl,h⟩;(first|(have d:Hid (Chg w a []):=hZ (c.o.trans h))|(have c:Hid (Chg w a []):=hZ h));clear h))
 have f:Ac (a.alloc (.cells #[.string {data:=#[99]}] 9)) a.heap.size (Ad [kC]) 9:=BD _ _ _ _ _ rfl rfl;have g:Ac ((a.alloc (.cells #[.string {data:=#[99]}] 9)).alloc (.cells #[.string {data:=#[97]},.string {data:=#[98]}] 9)) (a.heap.size+1) (Ad [kA,kB]) 9:=BD _ _ _ _ _ rfl (by simp);refine bodyPost_ret (results_tmp rfl _ _ _) rfl ⟨a.heap.size+1+1,YQ a.heap.size (a.heap.size+1),rfl, ?_, ?_,by exact cg d.o⟩
 .exact As.ofBlk (T:=72) (BD _ _ _ _ _ rfl (by simp)) rfl
 .have b:∀w',As w' IQ 1 0 []:=fun w'=>As.nil w' 1
  exact Az.cons (b _) (Az.cons (b _) (Az.cons (b _) (Az.cons (b _) (Az.cons (As.ofBlk ((f.alloc _).alloc _) rfl) (Az.cons (As.ofBlk (g.alloc _) rfl) rfl)))))
end
section
open Go Go.RowKit Tree Ptr
theorem Ac.setCells{b:Nat}{T:Ti}:∀(vs:List Vl) (o:Nat) (cs:List Vl) (w:Wl),Ac w b cs T->o+vs.length<=cs.length->Ac (w.setCells b o vs) b (cs.take o++(vs++cs.drop (o+vs.length))) T
 |[],o,cs,w,h,_=>h.eq (by simp)
 |v::r,o,cs,w,h,d=>by
  simp only[Qj]at d;have:=Ac.setCells r (o+1) (cs.set o v) (w.setCell ⟨b,o,none⟩ v) (h.set o v) (by rw[List.length_set];omega);refine this.eq ?_
  have a:(cs.set o v).take (o+1)=cs.take o++[v]:=by
   rw[List.take_add_one,List.getElem?_set_self (by omega),List.take_set_of_le (Q8 _)];rfl
  have c:(cs.set o v).drop (o+1+r.length)=cs.drop (o+(v::r).length):=by
   rw[List.drop_set_of_lt (by omega)]
   congr 1
   simp only[Qj];omega
  rw[a,c,List.append_assoc];rfl
theorem Chg.setCells{a:Wl}{bs:List Nat}{b:Nat}(c:b<a.heap.size->b∈bs):∀(vs:List Vl) (o:Nat) (w:Wl),Chg a w bs->Chg a (w.setCells b o vs) bs
 |[],_,_,h=>h
 |v::r,o,w,h=>Chg.setCells c r (o+1) (w.setCell ⟨b,o,Option.none⟩ v) (h.setCell _ v c)
theorem AK.blk{w:Wl}{g n c:Nat}{e:Ti}{xs:List Vl}(h:AK w (.slice (some ⟨g,0,none⟩) n c) e xs):∃b:List Vl,Ac w g b e/\n=xs.length/\n<=c/\c<=maxLen/\b.length=c/\b.take n=xs:=by
 rcases h.2 with⟨d,_⟩|⟨q,p,b,a,_,m,j,k,f,i⟩
 .injection d with d;cases d
 .injection a with a o l
  injection a with a
  injection a with a
  subst a;subst l;subst o;rw[Nat.mul_one]at f i;exact⟨b.toList,by unfold Ac;simpa using m,rfl,j,k,by simpa using f,i⟩
theorem AK.ofBlk{w:Wl}{g n c:Nat}{e:Ti}{a xs:List Vl}(h:Ac w g a e)(i:n=xs.length)(b:n<=c)(f:c<=maxLen)(d:a.length=c)(j:a.take n=xs):AK w (.slice (some ⟨g,0,none⟩) n c) e xs:=by
 subst i;exact⟨by simp,.inr ⟨g,c,a.toArray,rfl,Nat.zero_le _,h,b,f,by simpa using d,by simpa using j⟩⟩
theorem QR{a:Type}(cs rest:List a)(i:Nat)(v:a)(hi:i<=cs.length):(cs.take i++(v::(cs.drop i++rest))).take (cs.length+1)=cs.insertIdx i v:=by
 have e:cs.take i++(v::(cs.drop i++rest))=cs.insertIdx i v++rest:=by
  rw[AQ cs i hi];simp
 rw[e,List.take_append_of_le_length (by rw[List.length_insertIdx];split<;>omega),Qn (by rw[List.length_insertIdx];split<;>omega)]
theorem AK.shift{w:Wl}{g n c i:Nat}{e:Ti}{cs:List Vl}{v:Vl}(h:AK w (.slice (some ⟨g,0,none⟩) n c) e cs)(hi:i<=n)(l:n+1<=c):
  AK ((w.setCells g (i+1) (cs.drop i)).setCells g i [v]) (.slice (some ⟨g,0,none⟩) (n+1) c) e (cs.insertIdx i v):=by
 obtain⟨a,f,rfl,q,j,r,k⟩:=h.blk;have s:(cs.drop i).length=cs.length-i:=Qm;have o:=f.setCells (cs.drop i) (i+1) _ _ (by omega);have p:=o.setCells [v] i _ _ (by simp only[Qk,Ql,Qm,Qj,List.length_nil];omega);have m:a.take i=cs.take i:=by rw[<-k,List.take_take,Nat.min_eq_left hi]
 refine AK.ofBlk p (by rw[List.length_insertIdx_of_le_length hi]) l j ?_ ?_
 .simp only[Qk,Ql,Qm,Qj,List.length_nil];omega
 .have b:(a.take (i+1)++(cs.drop i++a.drop (i+1+(cs.drop i).length))).take i=cs.take i:=by
   rw[List.take_append_of_le_length (by rw[Ql];omega),List.take_take,Nat.min_eq_left (by omega),m]
  have d:(a.take (i+1)++(cs.drop i++a.drop (i+1+(cs.drop i).length))).drop (i+[v].length)=cs.drop i++a.drop (i+1+(cs.drop i).length):=by
   rw[List.drop_append_of_le_length (by rw[Ql];simp;omega),List.drop_of_length_le (by rw[Ql];simp;omega)];rfl
  rw[b,d];exact QR cs _ i v hi
theorem PQ{w:Wl}{i G:Nat}{e:Ti}{cs a:List Vl}{v:Vl}(hi:i<=cs.length)(m:a.length+i=G)(d:cs.length+1<=G)(f:G<=maxLen):
  AK (((w.alloc (.cells (cs.take i++a).toArray e)).setCells w.heap.size i [v]).setCells w.heap.size (i+1) (cs.drop i)) (.slice (some ⟨w.heap.size,0,none⟩) (cs.length+1) G) e (cs.insertIdx i v):=by
 have k:(cs.drop i).length=cs.length-i:=Qm;have l:(cs.take i).length=i:=by rw[Ql];omega
 have g:=Ac.new w (cs.take i++a) e;have h:=g.setCells [v] i _ _ (by simp only[Qk,Qj,List.length_nil];omega);have j:=h.setCells (cs.drop i) (i+1) _ _ (by simp only[Qk,Ql,Qm,Qj,List.length_nil];omega);refine AK.ofBlk j (by rw[List.length_insertIdx_of_le_length hi]) d f ?_ ?_
 .simp only[Qk,Ql,Qm,Qj,List.length_nil];omega
 .have b:(cs.take i++a).take i=cs.take i:=by rw[List.take_append_of_le_length (by omega),List.take_take,Nat.min_self]
  have c:((cs.take i++a).take i++([v]++(cs.take i++a).drop (i+[v].length))).take (i+1)=cs.take i++[v]:=by
   rw[b,<-List.append_assoc,List.take_append_of_le_length (by simp;omega),Qn (by simp;omega)]
  rw[c];have:=QR cs (((cs.take i++a).take i++([v]++(cs.take i++a).drop (i+[v].length))).drop (i+1+(cs.drop i).length)) i v hi;rw[<-this,List.append_assoc];rfl
theorem AK.one{w:Wl}{sv:Vl}{e:Ti}{xs:List Vl}(h:AK w sv e xs):sv= .slice none 0 0/\xs=[]\/∃g c,sv= .slice (some ⟨g,0,none⟩) xs.length c/\xs.length<=c:=by
 rcases h.2 with⟨b,d⟩|⟨g,a,j,i,_,_,f,_⟩
 .exact .inl ⟨b,List.eq_nil_of_length_eq_zero d⟩
 .exact .inr ⟨g,a,i,f⟩
structure DJ(w:Wl)(old bs:List Nat):Prop where
 nodup:bs.Nodup
 come:∀b,b∈bs->b∈old\/w.heap.size<=b
theorem DJ.refl{w:Wl}{bs:List Nat}(h:bs.Nodup):DJ w bs bs:=⟨h,fun _ a=> .inl a⟩
theorem DJ.perm{w:Wl}{c bs cs:List Nat}(h:DJ w c bs)(a:cs.Perm bs):DJ w c cs:=⟨a.nodup_iff.2 h.nodup,fun b d=>h.come b (a.mem_iff.1 d)⟩
theorem DJ.sub{w:Wl}{c bs cs:List Nat}(h:DJ w c bs)(a:cs.Sublist bs):DJ w c cs:=⟨h.nodup.sublist a,fun b d=>h.come b (a.subset d)⟩
theorem DJ.trans{w d:Wl}{c bs cs:List Nat}(h:DJ w c bs)(k:DJ d bs cs)(e:w.heap.size<=d.heap.size):DJ w c cs:=
 ⟨k.nodup,fun b a=>(k.come b a).elim (h.come b) fun a=> .inr (Q7 e a)⟩
theorem DJ.cons{w:Wl}{c bs:List Nat}{g:Nat}(h:DJ w c bs)(d:w.heap.size<=g)(e:g∉bs):DJ w c (g::bs):=
 ⟨List.nodup_cons.2 ⟨e,h.nodup⟩,fun b a=>by rcases Qh.1 a with rfl|a;exact .inr d;exact h.come b a⟩
theorem DJ.mono{w:Wl}{a cs bs:List Nat}(h:DJ w a bs)(d:∀b,b∈a->b∈cs):DJ w cs bs:=⟨h.nodup,fun b c=>(h.come b c).imp (d b) id⟩
theorem DJ.back{w c:Wl}{a bs:List Nat}(h:DJ c a bs)(e:w.heap.size<=c.heap.size):DJ w a bs:=⟨h.nodup,fun b d=>(h.come b d).imp id fun h=>Q7 e h⟩
theorem DJ.row{w c:Wl}{d rest:List Nat}{sv:Vl}{g:Nat}(h:DJ w d (sv.ownBlock.toList++rest))(a:sv.ownBlock=some g\/c.heap.size<=g)(i:w.heap.size<=c.heap.size)(e:∀b,b∈rest->b<c.heap.size):DJ w d (g::rest):=by
 rcases a with a|a
 .rw[a]at h;exact h
 .exact(h.sub (List.sublist_append_right _ _)).cons (Q7 i a) fun f=>by have:=e g f;omega
structure Sy(w:Wl)(l:List Tr)(b:Nat)(sv:Vl)(vs:List Vl)(fs:List Nat):Prop where
 blk:Ac w b [sv] 107
 lst:AK w sv 95 vs
 at_:PsAt w l vs fs
structure PS(w:Wl)(ks:List BY)(l:List Tr)(b:Nat)(sv sk:Vl)(vs:List Vl)(fs:List Nat):Prop where
 blk:Ac w b [sv,sk] 177
 lst:AK w sv 95 vs
 keys:AK w sk 9 (Ad ks)
 len:ks.length=l.length
 at_:PsAt w l vs fs
def Jn(b:Nat):Vl:= .iface 104 (.pointer (some ⟨b,0,none⟩))
def IR(b:Nat):Vl:= .iface 175 (.pointer (some ⟨b,0,none⟩))
theorem AP.list{w:Wl}{l:List Tr}{v:Vl}{bs:List Nat}(h:AP w (.list l) v bs):∃b sv vs a,v=Jn b/\Sy w l b sv vs a/\bs=b::(sv.ownBlock.toList++a):=by
 simp only[AP]at h;obtain⟨b,sv,vs,a,c,d,e,f,g⟩:=h;exact⟨b,sv,vs,a,c,⟨d,e,f⟩,g⟩
theorem Sy.pat{w:Wl}{l:List Tr}{b:Nat}{sv:Vl}{vs:List Vl}{a:List Nat}(h:Sy w l b sv vs a):AP w (.list l) (Jn b) (b::(sv.ownBlock.toList++a)):=by
 simp only[AP];exact⟨b,sv,vs,a,rfl,h.blk,h.lst,h.at_,rfl⟩
theorem AP.obj{w:Wl}{ks:List BY}{l:List Tr}{v:Vl}{bs:List Nat}(h:AP w (.obj ks l) v bs):∃b sv sk vs a,v=IR b/\PS w ks l b sv sk vs a/\bs=b::(sv.ownBlock.toList++(sk.ownBlock.toList++a)):=by
 simp only[AP]at h;obtain⟨b,sv,sk,vs,a,c,d,e,g,i,f,j⟩:=h;exact⟨b,sv,sk,vs,a,c,⟨d,e,g,i,f⟩,j⟩
theorem PS.pat{w:Wl}{ks:List BY}{l:List Tr}{b:Nat}{sv sk:Vl}{vs:List Vl}{a:List Nat}(h:PS w ks l b sv sk vs a):AP w (.obj ks l) (IR b) (b::(sv.ownBlock.toList++(sk.ownBlock.toList++a))):=by
 simp only[AP];exact⟨b,sv,sk,vs,a,rfl,h.blk,h.lst,h.keys,h.len,h.at_,rfl⟩
theorem AP.leaf{w:Wl}{t:Tr}{v:Vl}{bs:List Nat}(h:AP w t v bs)(a:∀l,t≠ .list l)(b:∀ks l,t≠ .obj ks l):v= .iface 183 (.agg #[AG t])/\bs=[]:=by
 cases t with
 |list l=>exact absurd rfl (a l)
 |obj ks l=>exact absurd rfl (b ks l)
 |_=>simpa only[AP]using h
theorem Sy.insert{w w':Wl}{l:List Tr}{b i n c g:Nat}{sv e:Vl}{vs:List Vl}{d f:List Nat}{x:Tr}(h:Sy w l b sv vs d)(hi:i<=l.length)(q:AP w' x e f)(o:Ac w' b [.slice (some ⟨g,0,none⟩) n c] 107)(m:AK w' (.slice (some ⟨g,0,none⟩) n c) 95 (vs.insertIdx i e))(p:Ca d w w'):
  ∃a,Sy w' (l.insertIdx i x) b (.slice (some ⟨g,0,none⟩) n c) (vs.insertIdx i e) a/\a.Perm (f++d):=by
 obtain⟨a,j,k⟩:=(PsAt.same _ _ _ p h.at_).insert hi q;exact⟨a,⟨o,m,j⟩,k⟩
theorem Sy.erase{w w':Wl}{l:List Tr}{b i n c g:Nat}{sv:Vl}{vs:List Vl}{d:List Nat}{u:Tr}(h:Sy w l b sv vs d)(s:l[i]? =some u)(q:Ac w' b [.slice (some ⟨g,0,none⟩) n c] 107)(p:AK w' (.slice (some ⟨g,0,none⟩) n c) 95 (vs.eraseIdx i))(r:Ca d w w'):
  ∃f a e,vs[i]? =some f/\AP w' u f a/\Sy w' (l.eraseIdx i) b (.slice (some ⟨g,0,none⟩) n c) (vs.eraseIdx i) e/\d.Perm (a++e):=by
 obtain⟨v,a,rest,j,k,m,o⟩:=(PsAt.same _ _ _ r h.at_).erase s;exact⟨v,a,rest,j,k,⟨q,p,m⟩,o⟩
theorem PS.insert{w w':Wl}{ks:List BY}{l:List Tr}{b i n c g j d f:Nat}{s:BY}{sv sk k:Vl}{vs:List Vl}{e m:List Nat}{x:Tr}(h:PS w ks l b sv sk vs e)(hi:i<=l.length)(v:AP w' x k m)(t:Ac w' b [.slice (some ⟨g,0,none⟩) n c,.slice (some ⟨f,0,none⟩) j d] 177)(r:AK w' (.slice (some ⟨g,0,none⟩) n c) 95 (vs.insertIdx i k))(q:AK w' (.slice (some ⟨f,0,none⟩) j d) 9 (Ad (ks.insertIdx i s)))(u:Ca e w w'):
  ∃a,PS w' (ks.insertIdx i s) (l.insertIdx i x) b (.slice (some ⟨g,0,none⟩) n c) (.slice (some ⟨f,0,none⟩) j d) (vs.insertIdx i k) a/\a.Perm (m++e):=by
 obtain⟨a,o,p⟩:=(PsAt.same _ _ _ u h.at_).insert hi v;exact⟨a,⟨t,r,q,by rw[List.length_insertIdx_of_le_length hi,List.length_insertIdx_of_le_length (by rw[h.len];exact hi),h.len],o⟩,p⟩
theorem PS.erase{w w':Wl}{ks:List BY}{l:List Tr}{b i n c g j d f:Nat}{sv sk:Vl}{vs:List Vl}{e:List Nat}{u:Tr}(h:PS w ks l b sv sk vs e)(m:l[i]? =some u)(y:Ac w' b [.slice (some ⟨g,0,none⟩) n c,.slice (some ⟨f,0,none⟩) j d] 177)(x:AK w' (.slice (some ⟨g,0,none⟩) n c) 95 (vs.eraseIdx i))(t:AK w' (.slice (some ⟨f,0,none⟩) j d) 9 (Ad (ks.eraseIdx i)))(z:Ca e w w'):
  ∃o a k,vs[i]? =some o/\AP w' u o a/\PS w' (ks.eraseIdx i) (l.eraseIdx i) b (.slice (some ⟨g,0,none⟩) n c) (.slice (some ⟨f,0,none⟩) j d) (vs.eraseIdx i) k/\e.Perm (a++k):=by
 obtain⟨v,a,rest,p,q,r,s⟩:=(PsAt.same _ _ _ z h.at_).erase m;have hi:=(Qc.1 m).1;exact⟨v,a,rest,p,q,⟨y,x,t,by rw[List.length_eraseIdx_of_lt hi,List.length_eraseIdx_of_lt (by rw[h.len];exact hi),h.len],r⟩,s⟩
theorem Sy.set{w:Wl}{l:List Tr}{b i:Nat}{sv m:Vl}{vs:List Vl}{f d:List Nat}{x u:Tr}(h:Sy w l b sv vs f)(H:l[i]? =some u)(G:(d++(b::(sv.ownBlock.toList++f))).Nodup)(I:AP w x m d):
  ∃g c,sv= .slice (some ⟨g,0,none⟩) vs.length c/\(∃O,w.cell? ⟨g,i,none⟩=some O)/\(∀j,w.frozen? ⟨g,j,none⟩=false)/\
   ∃n r s,f.Perm (n++r)/\s.Perm (d++r)/\Sy (w.setCell ⟨g,i,none⟩ m) (l.set i x) b sv (vs.set i m) s:=by
 obtain⟨v,n,rest,p,o,Q,t,C,z⟩:=h.at_.set H I
 rcases h.lst.one with⟨_,rfl⟩|⟨g,c,rfl,R⟩
 .simp at o
 .obtain⟨P,B,_,K,L,M,N⟩:=h.lst.blk
  have hi:=(Qc.1 o).1
  have E:g∉b::(d++f):=by
   have:(g::(b::(d++f))).Perm (d++(b::((Vl.slice (some ⟨g,0,none⟩) vs.length c).ownBlock.toList++f))):=by
    simp only[Vl.ownBlock,Option.toList_some,Qo,List.nil_append];refine List.Perm.trans ?_ (List.perm_middle (l₁:=d) (a:=b) (l₂:=g::f)).symm;refine List.Perm.trans (List.Perm.swap b g _) ((List.perm_middle (l₁:=d) (a:=g) (l₂:=f)).symm.cons b)
   exact(List.nodup_cons.1 (this.nodup_iff.2 G)).1
  have A:Ca (b::(d++f)) w (w.setCell ⟨g,i,none⟩ m):=fun k F=>Below.heap_setCell _ _ _ _ (by simp only;intro e;subst e;exact E F)
  have D:∀y,y∈p->y∈b::(d++f):=fun y J=>by
   have:=z.mem_iff.1 J;simp only[Qh,Qf]at this|-
   rcases this with q|q
   .exact .inr (.inl q)
   .exact .inr (.inr (t.mem_iff.2 (Qd _ q)))
  refine⟨g,c,rfl,⟨v,h.lst.cell rfl i v o⟩,fun j=>B.frozen j,n,rest,p,t,z,h.blk.same (A b (by simp)), ?_,PsAt.same _ _ _ (A.mono D) C⟩;exact AK.ofBlk (B.set i m) (by simp) K L (by simpa using M) (by rw[List.take_set,N])
theorem PS.set{w:Wl}{ks:List BY}{l:List Tr}{b i:Nat}{sv sk m:Vl}{vs:List Vl}{f d:List Nat}{x u:Tr}(h:PS w ks l b sv sk vs f)(I:l[i]? =some u)(H:(d++(b::(sv.ownBlock.toList++(sk.ownBlock.toList++f)))).Nodup)(J:AP w x m d):
  ∃g c,sv= .slice (some ⟨g,0,none⟩) vs.length c/\(∃O,w.cell? ⟨g,i,none⟩=some O)/\(∀j,w.frozen? ⟨g,j,none⟩=false)/\
   ∃n r z,f.Perm (n++r)/\z.Perm (d++r)/\PS (w.setCell ⟨g,i,none⟩ m) ks (l.set i x) b sv sk (vs.set i m) z:=by
 obtain⟨v,n,rest,t,o,Q,A,D,B⟩:=h.at_.set I J
 rcases h.lst.one with⟨_,rfl⟩|⟨g,c,rfl,R⟩
 .simp at o
 .obtain⟨P,C,_,K,L,M,N⟩:=h.lst.blk
  have hi:=(Qc.1 o).1
  have F:g∉b::(d++(sk.ownBlock.toList++f)):=by
   have:(g::(b::(d++(sk.ownBlock.toList++f)))).Perm (d++(b::((Vl.slice (some ⟨g,0,none⟩) vs.length c).ownBlock.toList++(sk.ownBlock.toList++f)))):=by
    simp only[Vl.ownBlock,Option.toList_some,Qo,List.nil_append];refine List.Perm.trans ?_ (List.perm_middle (l₁:=d) (a:=b) (l₂:=g::_)).symm;refine List.Perm.trans (List.Perm.swap b g _) ((List.perm_middle (l₁:=d) (a:=g) (l₂:=_)).symm.cons b)
   exact(List.nodup_cons.1 (this.nodup_iff.2 H)).1
  have p:Ca (b::(d++(sk.ownBlock.toList++f))) w (w.setCell ⟨g,i,none⟩ m):=fun k G=>Below.heap_setCell _ _ _ _ (by simp only;intro e;subst e;exact F G)
  have E:∀y,y∈t->y∈b::(d++(sk.ownBlock.toList++f)):=fun y s=>by
   have:=B.mem_iff.1 s;simp only[Qh,Qf]at this|-
   rcases this with q|q
   .exact .inr (.inl q)
   .exact .inr (.inr (.inr (A.mem_iff.2 (Qd _ q))))
  refine⟨g,c,rfl,⟨v,h.lst.cell rfl i v o⟩,fun j=>C.frozen j,n,rest,t,A,B,h.blk.same (p b (by simp)), ?_,h.keys.same (p.mono fun y s=>by simp only[Qh,Qf];exact .inr (.inr (.inl s))),by rw[List.length_set];exact h.len,PsAt.same _ _ _ (p.mono E) D⟩;exact AK.ofBlk (C.set i m) (by simp) K L (by simpa using M) (by rw[List.take_set,N])
end
end Go.Proofs.YtkfnkppdhcaeoaaGreatDoor

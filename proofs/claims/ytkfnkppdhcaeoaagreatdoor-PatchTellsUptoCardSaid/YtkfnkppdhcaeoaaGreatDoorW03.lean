/- Part 3 of the proof of patchTells_card. -/
import Derived.Test.YtkfnkppdhcaeoaaGreatDoorM28
import Derived.Test.YtkfnkppdhcaeoaaGreatDoorW02
set_option maxRecDepth 100000
set_option maxHeartbeats 32000000
set_option linter.all false
namespace Go.Proofs.YtkfnkppdhcaeoaaGreatDoor
open Go renaming Calls->Cl,TypeId->Ti,Value->Vl,World->Wl
section
open _root_.Go.Proofs.Tryz
open Go Go.RowKit Go.ChangeShapes Go.WideShapes Go.ChangeAt
theorem iK{H:Type}{enc:Ti×Vl->H}{P:Program}{w:Wl}{base:Nat}{C:Nat->Bool}{v:Bool}{c:Nat}{t e:Ti}{n:Nat}{cs:List Vl}{a:List (List UInt8)}{p:List MemPlace}(y:P.underlying t=some (.array n e))(u:P.underlying e=some .string)(q:P.cellsOf e=1)(r:P.cellsOf t=n)(h:DataW.trod enc P w base C v c t cs=some (.agg (a.map fun s=> .lit (.string s)),p)):cs=a.map fun s=>Vl.string ⟨s.toArray⟩:=by
 cases c with
 |zero=>simp[DataW.trod]at h
 |succ c=>
  simp only[DataW.trod,y,q,r,Nat.mul_one]at h;split at h
  .rename_i D
   obtain⟨xs,f,A⟩:=Option.map_eq_some_iff.1 h
   have g:xs.map (·.1)=a.map fun s=>(DataW.lit (.string s):DataW H):=by
    have:=congrArg Prod.fst A;simpa using this
   have E:xs.length=n:=by simpa using Lib.mapM_length f
   have F:a.length=n:=by
    have:=congrArg List.length g;simp at this;omega
   apply List.ext_getElem?;intro i;by_cases hi:i<n
   .obtain⟨b,m,x⟩:=Lib.mapM_at f i i (by simp[hi])
    obtain⟨z,o,j,_⟩:=DataW.trod_string u x
    have l:cs[i]? =some (.string z):=by
     have:=congrArg (·[0]?) o;simpa[List.getElem?_take,List.getElem?_drop]using this
    have d:(xs.map (·.1))[i]? =some (DataW.lit (.string z.data.toList):DataW H):=by simp[m,j]
    rw[g]at d;simp only[List.getElem?_map,Option.map_eq_some_iff,DataW.lit.injEq,Lit.string.injEq]at d;obtain⟨G,B,k⟩:=d;simp[l,B,k]
   .rw[List.getElem?_eq_none Zj,List.getElem?_eq_none (by simp;omega)]
  .cases h
theorem jf{W:Wl}{rest:List (String×DataW Unit)}(h:laidMet prog (("affidavit/patch.words",Rows.laid_affidavit_patch_words)::rest) W):dM W:=by
 obtain⟨k,⟨i,l,cs,g,p,q,c,d,f,b,_,_⟩,_⟩:=h;obtain rfl:=Q5 ((show prog.globalNamed "affidavit/patch.words" =some 0 by kernel_rfl).symm.trans c);obtain rfl:=Q5 ((show(prog.globals[0]?).map (·.type)=some 187 by kernel_rfl).symm.trans d);have a:cs.toList=([[97,100,100],[114,101,109,111,118,101],[114,101,112,108,97,99,101],[109,111,118,101],[99,111,112,121],[116,101,115,116]]:List (List UInt8)).map fun s=>Vl.string ⟨s.toArray⟩:=iK underlying187 underlying9 F4 Yb b
 intro m j;have e:W.var? prog "affidavit/patch.words" =some (([[97,100,100],[114,101,109,111,118,101],[114,101,112,108,97,99,101],[109,111,118,101],[99,111,112,121],[116,101,115,116]]:List (List UInt8)).map fun s=>Vl.string ⟨s.toArray⟩).toArray:=by rw[f,<-a]
 have:=World.var?_cell (show prog.globalNamed "affidavit/patch.words" =some 0 by kernel_rfl) e m;rw[this];have:m=0\/m=1\/m=2\/m=3\/m=4\/m=5:=Zj
 rcases this with rfl|rfl|rfl|rfl|rfl|rfl<;>rfl
def iQ:List (String×DataW Unit):=Rows.patchBackUptoRow.laid
theorem iX(W:Wl):laidMetH prog iQ W=laidMet prog [("math/bits.deBruijn32tab",Rows.laid_math_bits_deBruijn32tab),("math/bits.deBruijn64tab",Rows.laid_math_bits_deBruijn64tab),("internal/strconv.uint64pow10",Lib.tabData .u64 Lib.pow10Tab),("unicode/utf8.acceptRanges",Rows.laid_unicode_utf8_acceptRanges),("strconv.ErrRange",Rows.laid_strconv_ErrRange),("strconv.ErrSyntax",Rows.laid_strconv_ErrSyntax),("affidavit/patch.words",Rows.laid_affidavit_patch_words),("unicode/utf8.first",Rows.laid_unicode_utf8_first)] W:=Yb
theorem jv{W:Wl}(h:laidMetH prog iQ W)(i:W.ShapedOpen prog):Br W/\dM W/\10<=W.heap.size:=by
 rw[iX]at h;have b:=laidMet.tail (laidMet.tail h);have c:=laidMet.tail (laidMet.tail b);have d:=laidMet.tail c;have y:=jf (laidMet.tail d);have B:=Lib.tabIs_of_head (g:=3) Yb Yb underlying343 underlying25 Yb Yb b;obtain⟨C,E,w,_⟩:=laid_sentinel (g:=7) c Yb Yb underlying35 Ur underlying394 underlying396 rfl rfl underlying9 Yb Yb;obtain⟨D,F,x,_⟩:=laid_sentinel (g:=6) d Yb Yb underlying35 Ur underlying394 underlying396 rfl rfl underlying9 Yb Yb;obtain⟨z,A⟩:=i;obtain⟨cs,l,e,r⟩:=z 2 _ _ (by rw[N4];decide) Yx;obtain⟨ts,s,_,j⟩:=r WU;obtain rfl:=Q5 (U9.symm.trans s);obtain⟨v,f⟩:∃v,cs[0]? =some v:=⟨cs[0]'(by rw[e];decide),Array.getElem?_eq_getElem (by rw[e];decide)⟩
 obtain⟨u,t,a⟩:=j 0 v f;obtain rfl:u=3:=by simpa using t.symm
 have p:∃m,v= .int .i64 m:=by
  unfold Cell.ok at a;rw[underlying3]at a
  cases v with
  |int k n=>exact⟨n,by rw[a.1]⟩
  |_=>exact a.elim
 obtain⟨m,rfl⟩:=p;refine⟨⟨⟨m, ?_⟩,B,⟨_,_,x⟩,⟨_,_,w⟩⟩,y, ?_⟩
 .exact UM l f
 .obtain⟨o,_,q,_⟩:=A 14 (by rw[N4];decide) (by rw[SP];decide)
  have:=(Array.getElem?_eq_some_iff.1 q).1;omega
def kf:DataW Unit->Array Vl
 | .agg l=>(l.flatMap fun| .lit (.string b)=>[Vl.string ⟨b.toArray⟩]|_=>[]).toArray
 |_=>#[]
noncomputable def ie(os:Os):Wl:=
 let N:=(World.settled prog os).heap.size
 let w0:=World.holding prog os ⟨#[.cells #[.string (Zd Rows.laid_strconv_ErrSyntax)] 396,.cells #[.string (Zd Rows.laid_strconv_ErrRange)] 396],#[],[]⟩
 let a:=TJ (TJ w0.heap 6 #[.iface 394 (.pointer (some ⟨N,0,none⟩))]) 7 #[.iface 394 (.pointer (some ⟨N+1,0,none⟩))]
 let b:=TJ (TJ a 8 (LU Rows.laid_math_bits_deBruijn32tab)) 9 (LU Rows.laid_math_bits_deBruijn64tab)
 let c:=TJ (TJ b 3 (LU Rows.laid_internal_strconv_uint64pow10)) 5 (LU Rows.laid_unicode_utf8_acceptRanges)
 {w0 with heap:=TJ (TJ c 4 (LU Rows.laid_unicode_utf8_first)) 0 (kf Rows.laid_affidavit_patch_words)}
theorem jj(os:Os)(args:Array Vl):laidMet prog iQ ((ie os).forCall (fun _ _=>0) ⟨#[],args,[]⟩).memory:=
 (LaidIn.of_run [8,9,3,5,7,N0+1,6,N0,0,4] 8 Yb Yb Yb Yb).met
end
section
open _root_.Go.Proofs.Tryz
open Go Go.RowKit Ptr Tree
theorem iv(s:BY)(w:Wl)(h:s.size<=16777216):Cl prog 91 #[.string s] w fun e w'=>e= .returned (.bool (AD s).isNone)/\Chg w w' []:=by
 have a:=hZ (jm s w h);unfold gO at a
 cases c:AD s with
 |some ts=>
  rw[c]at a;clear c;go_enter func91,ntmps91
  go_wp2_with(go_at_call 79;refine a.o.mono ?_;rintro e i ⟨⟨j,rfl,_,_⟩,b⟩;have d:=hZ b;clear b)
  go_ret
  exact⟨rfl,d.o⟩
 |none=>
  rw[c]at a;clear c;go_enter func91,ntmps91
  go_wp2_with(go_at_call 79;refine a.o.mono ?_;rintro e i ⟨⟨k,y,f,rfl⟩,b⟩;have d:=hZ b;have g:(k==0)=false:=Qq.2 f;clear b f)
  go_ret
  exact⟨by show Ending.returned (.bool (k !=0))=_;rw[bne,g];rfl,d.o⟩
theorem jn(o:Bq)(sv:Vl)(ys:List Vl)(w:Wl)(D:T7 o)(Q:As w sv 6 o.steps.length ys)(W:Az w o.steps ys):
  Cl prog 54 #[.agg (BJ o sv).toArray] w fun e w'=>e= .returned (.int .i64 (Bn o))/\Chg w w' []:=by
 obtain⟨sa,sc,rfl,_⟩:=Q.form;have l:=UD (∀f,Cl prog 91 #[.string o.path] f fun e w'=>e= .returned (.bool (AD o.path).isNone)/\Chg f w' []) fun f=>iv o.path f D.path
 have r:=UD (∀f,Cl prog 91 #[.string o.frm] f fun e w'=>e= .returned (.bool (AD o.frm).isNone)/\Chg f w' []) fun f=>iv o.frm f D.frm
 have s:=UD (∀f,Chg w f []->Cl prog 41 #[.slice sa o.steps.length sc] f (ZY (AS o.steps) f)) fun f hx=>Vq o.steps _ ys f (Q.kept hx) (Az.kept hx W) D.steps D.len
 have G:=Iu (k:=o.kind);obtain⟨n,hn⟩:=Ue o.steps.length
 rw[<-hn]at s|-;unfold BJ;clear D Q W hn;by_cases m:o.kind<1\/6<o.kind
 .have j:=UD (Bn o=170) (SN (by cases h:CP o.kind with|false=>rfl|true=>exact absurd m (G.1 h)))
  obtain⟨k,Z⟩:=Ue o.kind
  rw[<-Z]at m|-;clear G Z l r s;have n4:(k==4)=false:=Qq.2 Zj;have n5:(k==5)=false:=Qq.2 Zj
  rcases m with m|m
  .have d1:decide (k<1)=true:=decide_eq_true m
   go_enter func54,ntmps54
   go_wp2_with fail
   go_ret
   exact⟨by rw[j.o];rfl,(Chg.refl w []).alloc _⟩
  .have d1:decide (k<1)=false:=decide_eq_false Zj
   have d6:decide (6<k)=true:=decide_eq_true m;go_enter func54,ntmps54
   go_wp2_with fail
   go_ret
   exact⟨by rw[j.o];rfl,(Chg.refl w []).alloc _⟩
 .have y:CP o.kind=true:=G.2 m
  have S:o.kind=1\/o.kind=2\/o.kind=3\/o.kind=4\/o.kind=5\/o.kind=6:=Zj
  have af:=hZ y
  cases A:AD o.path with
  |none=>
   have O:=UD (Bn o=171) (LT y (.inl A));rw[A]at l;clear G m y A r s
   rcases S with h|h|h|h|h|h
   all_goals
    rw[h];clear h;go_enter func54,ntmps54
    go_wp2_with(go_at_call 91;refine(l.o _).mono ?_;rintro e g ⟨rfl,a⟩;have d:=UD (Chg w g []) (ct cR a);clear a)
    go_ret
    exact⟨by rw[O.o];rfl,d.o⟩
  |some ts=>
   have H:¬(AD o.path=none\/(AO o.kind=true/\AD o.frm=none))\/(AO o.kind=true/\AD o.frm=none):=by
    by_cases h:AO o.kind=true/\AD o.frm=none
    .exact .inr h
    .exact .inl (by rw[A];rintro(a|a);cases a;exact h a)
   rw[A]at l;clear G m A
   rcases H with H|⟨p,R⟩
   .have X:=GH y H
    have Y:AO o.kind=true->(AD o.frm).isNone=false:=fun p=>by
     cases hf:AD o.frm with
     |some _=>rfl
     |none=>exact absurd (.inr ⟨p,hf⟩) H
    have V:=hZ Y;have B:=hZ X;clear y H X Y
    rcases S with h|h|h|h|h|h
    rotate_left 3
    .have C:=V.o (by rw[h];rfl)
     have j:=UD (Bn o=0) (by rw[B.o,Qs (by rw[h];simp[AN])]);rw[C]at r;clear C;rw[h];clear h;go_enter func54,ntmps54
     go_wp2_with(first
      |(go_at_call 91;have u:=d.o;refine(r.o _).mono ?_;rintro e w2 ⟨rfl,c⟩;have q:=UD (Chg w w2 []) (u.trans c);have y1:=c.keeps x;have y2:w.heap.size<w2.heap.size:=Q6 v c.size;clear c u)
      |(go_at_call 91;refine(l.o _).mono ?_;rintro e g ⟨rfl,a⟩;have d:=UD (Chg w g []) (ct cR a);obtain⟨v,I,x,J,K,L⟩:=Ac.cells4 ((Ac.new w _ _).kept a);clear a))
     go_ret
     exact⟨by rw[j.o];rfl,q.o⟩
    .have C:=V.o (by rw[h];rfl)
     have j:=UD (Bn o=0) (by rw[B.o,Qs (by rw[h];simp[AN])]);rw[C]at r;clear C;rw[h];clear h;go_enter func54,ntmps54
     go_wp2_with(first
      |(go_at_call 91;have u:=d.o;refine(r.o _).mono ?_;rintro e w2 ⟨rfl,c⟩;have q:=UD (Chg w w2 []) (u.trans c);have y1:=c.keeps x;have y2:w.heap.size<w2.heap.size:=Q6 v c.size;clear c u)
      |(go_at_call 91;refine(l.o _).mono ?_;rintro e g ⟨rfl,a⟩;have d:=UD (Chg w g []) (ct cR a);obtain⟨v,I,x,J,K,L⟩:=Ac.cells4 ((Ac.new w _ _).kept a);clear a))
     go_ret
     exact⟨by rw[j.o];rfl,q.o⟩
    rotate_left 2
    .have j:=UD (Bn o=0) (by rw[B.o,Qs (by rw[h];simp[AN])])
     rw[h];clear h;go_enter func54,ntmps54
     go_wp2_with(go_at_call 91;refine(l.o _).mono ?_;rintro e g ⟨rfl,a⟩;have d:=UD (Chg w g []) (ct cR a);obtain⟨v,I,x,J,K,L⟩:=Ac.cells4 ((Ac.new w _ _).kept a);clear a)
     go_ret
     exact⟨by rw[j.o];rfl,d.o⟩
    all_goals
     have p:AN o.kind=true:=by rw[h];rfl
     cases z:AS o.steps with
     |none=>
      have j:=UD (Bn o=174) (by rw[B.o,Qr ⟨p,by rw[z];rfl⟩]);rw[z]at s;rw[h];clear h z p;go_enter func54,ntmps54
      go_wp2_with(first
       |(go_at_call 91;refine(l.o _).mono ?_;rintro e g ⟨rfl,a⟩;have d:=UD (Chg w g []) (ct cR a);obtain⟨v,I,x,J,K,L⟩:=Ac.cells4 ((Ac.new w _ _).kept a);clear a)
       |(go_at_call 41;refine(s.o _ d.o).mono ?_;rintro e w2 ⟨rfl,c⟩;have q:=hZ (d.o.trans c);clear c)
       |(refine Ae rfl _ _ _ rfl w2.heap.size zV ZN ZN 29 zV (BD _ _ zV _ _ rfl rfl) A9 rfl Ya ?_;intro U T P E;have N:=UD (Chg w U []) (q.o.trans (Chg.step (b:=_) (by exact cg cR) E (fun i hi hl=>by simp at hi;omega)));clear T P E))
      go_ret
      exact⟨by rw[j.o];rfl,N.o⟩
     |some t=>
      have j:=UD (Bn o=0) (by rw[B.o,Qs (by rw[z];simp)]);rw[z]at s;rw[h];clear h z p;go_enter func54,ntmps54
      go_wp2_with(first
       |(go_at_call 91;refine(l.o _).mono ?_;rintro e g ⟨rfl,a⟩;have d:=UD (Chg w g []) (ct cR a);obtain⟨v,I,x,J,K,L⟩:=Ac.cells4 ((Ac.new w _ _).kept a);clear a)
       |(go_at_call 41;refine(s.o _ d.o).mono ?_;rintro e w2 ⟨⟨F,cs,rfl,M,_,_⟩,c⟩;have q:=hZ (d.o.trans c);have aa:=UD ((prog.info? 29).map (·.size)=some cs.length) (by rw[(E7 M).2];exact A9);have ab:=hZ (E7 M).1;have ad:=UD (zV.length=cs.length) (by rw[(E7 M).2];rfl);clear c M)
       |(refine Ae rfl _ _ _ rfl w2.heap.size cs ZN ZN 29 zV (BD _ _ zV _ _ rfl rfl) aa.o ad.o ab.o ?_;intro U T P E;have N:=UD (Chg w U []) (q.o.trans (Chg.step (b:=_) (by exact cg cR) E (fun i hi hl=>by simp at hi;omega)));clear T P E))
      go_ret
      exact⟨by rw[j.o];rfl,N.o⟩
   .have O:=UD (Bn o=171) (LT y (.inr ⟨p,R⟩))
    rw[R]at r;have ae:o.kind=4\/o.kind=5:=by unfold AO at p;simpa using p
    clear y S p R s
    rcases ae with h|h
    all_goals
     rw[h];clear h;go_enter func54,ntmps54
     go_wp2_with(first
      |(go_at_call 91;have u:=d.o;refine(r.o _).mono ?_;rintro e w2 ⟨rfl,c⟩;have q:=UD (Chg w w2 []) (u.trans c);have y1:=c.keeps x;have y2:w.heap.size<w2.heap.size:=Q6 v c.size;clear c u)
      |(go_at_call 91;refine(l.o _).mono ?_;rintro e g ⟨rfl,a⟩;have d:=UD (Chg w g []) (ct cR a);obtain⟨v,I,x,J,K,L⟩:=Ac.cells4 ((Ac.new w _ _).kept a);clear a))
     go_ret
     exact⟨by rw[O.o];rfl,q.o⟩
def ig:Array Vl:=#[.string ⟨#[]⟩,.string ⟨#[97,100,100]⟩,.string ⟨#[114,101,109,111,118,101]⟩,.string ⟨#[114,101,112,108,97,99,101]⟩,.string ⟨#[109,111,118,101]⟩,.string ⟨#[99,111,112,121]⟩,.string ⟨#[116,101,115,116]⟩]
theorem jB(k:Int)(h:1<=k/\k<=6)(w:Wl):Cl prog 93 #[.int .i64 k] w fun e w'=>e= .returned (.string (Ec k.toNat))/\Chg w w' []:=by
 have:k=1\/k=2\/k=3\/k=4\/k=5\/k=6:=Zj
 clear h;have a:∀(w:Wl),(Instr.index 252 (.agg ig) (.int .i64 1)).run prog w= .ok (.string ⟨#[97,100,100]⟩) w:=fun _=>Yb
 have b:∀(w:Wl),(Instr.index 252 (.agg ig) (.int .i64 2)).run prog w= .ok (.string ⟨#[114,101,109,111,118,101]⟩) w:=fun _=>Yb
 have c:∀(w:Wl),(Instr.index 252 (.agg ig) (.int .i64 3)).run prog w= .ok (.string ⟨#[114,101,112,108,97,99,101]⟩) w:=fun _=>Yb
 have d:∀(w:Wl),(Instr.index 252 (.agg ig) (.int .i64 4)).run prog w= .ok (.string ⟨#[109,111,118,101]⟩) w:=fun _=>Yb
 have f:∀(w:Wl),(Instr.index 252 (.agg ig) (.int .i64 5)).run prog w= .ok (.string ⟨#[99,111,112,121]⟩) w:=fun _=>Yb
 have g:∀(w:Wl),(Instr.index 252 (.agg ig) (.int .i64 6)).run prog w= .ok (.string ⟨#[116,101,115,116]⟩) w:=fun _=>Yb
 unfold ig at a b c d f g
 rcases this with rfl|rfl|rfl|rfl|rfl|rfl
 all_goals
  go_enter func93,ntmps93
  go_wp2_with fail
  go_ret
  exact⟨rfl,Chg.refl _ _⟩
def gY:Vl:= .slice none 0 0
def gL(s:BY):List Vl:=vC 4 false 0 s gY gY
theorem iF(s:BY)(w:Wl):Cl prog 92 #[.string s] w fun e w'=>e= .returned (.agg (gL s).toArray)/\Chg w w' []:=by
 go_enter func92,ntmps92
 go_wp2_with fail
 exact bodyPost_ret (Bi rfl _ _ w.heap.size 29 (gL s) _ rfl (BD _ _ _ _ _ rfl rfl) underlying29 rfl A9) rfl ⟨rfl,(Chg.refl w []).alloc _⟩
theorem gR(w:Wl)(F:Nat->Prop)(s:BY):AL w F (.text s) (gL s):=⟨none,0,none,0,rfl⟩
theorem Ba.lit(w:Wl)(cs:List Vl)(e:Ti)(sz n:Nat)(b:cs.length=n*sz)(a:n<=maxLen):Ba (w.alloc (.cells cs.toArray e)) (.slice (some ⟨w.heap.size,0,none⟩) n n) e sz n cs:=
 World.ownsRow_lit w cs.toArray n (Nat.zero_le _) a (by simpa using b)
theorem jo(s:BY):∀u∈gL s,u.oneCell'=true:=by
 intro u a;simp only[gL,vC,gY,Qh,List.not_mem_nil,or_false]at a
 rcases a with rfl|rfl|rfl|rfl|rfl|rfl<;>rfl
theorem iu(a b c:Tr):D1 [SB,Fj] [a,b]= .obj [SB,Fj] [a,b]/\D1 [SB,Fj,Oa] [a,b,c]= .obj [Oa,SB,Fj] [c,a,b]/\D1 [SB,Fj,SZ] [a,b,c]= .obj [SB,Fj,SZ] [a,b,c]:=by
 refine⟨eH.2.2.objT rfl,If (ks:=[SB,Fj]) (l:=[a,b]) (s:=Oa) (x:=c) (i:=0) eH.2.2 rfl (fun h=>by simp only[Qh,List.not_mem_nil,or_false]at h;rcases h with h|h<;>exact absurd (congrArg (fun b:BY=>b.data.toList) h) ZM) Zj (fun t k h=>Zj) (fun t k _ d=> ?_),eH.2.1.objT rfl⟩
 match t,d with
 |0,d=>injection d with d;subst d;decide+kernel
 |1,d=>injection d with d;subst d;decide+kernel
 |t+2,d=>simp at d
def jO(B:Nat)(k:Int)(a p:BY)(j:Nat)(y:Vl):Prop:=match j with
 |0=>y= .pointer (some ⟨B,0,none⟩)
 |1=>y= .int .i64 k
 |2=>y= .string a
 |3=>y= .agg (gL a).toArray
 |4=>y= .pointer (some ⟨B,1,none⟩)
 |5=>y= .string p
 |6=>y= .agg (gL p).toArray
 |_=>True
structure hJ(B:Nat)(k:Int)(wd p:BY)(w4:Wl)(d:Nat->Bool)(f:Nat->Vl)(w:Wl):Prop where
 chg:Chg w4 w []
 vals:∀j,d j=true->jO B k wd p j (f j)
 row:d 7=true->∃g,f 7= .slice (some ⟨g,0,none⟩) 2 2/\w4.heap.size<=g/\Ba w (.slice (some ⟨g,0,none⟩) 2 2) 29 6 2 (gL wd++gL p)
 last:d 8=true->d 7=true/\f 8=f 7
theorem hJ.put{B:Nat}{k:Int}{c p:BY}{n w w':Wl}{d:Nat->Bool}{f:Nat->Vl}{j:Nat}{y:Vl}(h:hJ B k c p n d f w)(b:(7:Nat)≠j)(i:(8:Nat)≠j)(s:jO B k c p j y)(l:Chg w w' []):hJ B k c p n (BA d j) (Eb f j y) w':=
 ⟨h.chg.trans l,fun k m=>by
  by_cases e:k=j
  .subst e;rw[Bf];exact s
  .rw[AA f y e];rw[An d e]at m;exact h.vals k m,fun a=>by
  rw[AA f y b];rw[An d b]at a;obtain⟨g,o,q,r⟩:=h.row a
  exact⟨g,o,q,r.kept l⟩,fun a=>by
  rw[AA f y b,AA f y i,An d b];rw[An d i]at a
  exact h.last a⟩
theorem hJ.put7{B:Nat}{k:Int}{c p:BY}{b w w':Wl}{d:Nat->Bool}{f:Nat->Vl}{g:Nat}(h:hJ B k c p b d f w)(j:d 8=false)(n:b.heap.size<=g)(l:Ba w' (.slice (some ⟨g,0,none⟩) 2 2) 29 6 2 (gL c++gL p))(m:Chg w w' []):hJ B k c p b (BA d 7) (Eb f 7 (.slice (some ⟨g,0,none⟩) 2 2)) w':=
 ⟨h.chg.trans m,fun k i=>by
  by_cases e:k=7
  .subst e;exact True.intro
  .rw[AA f _ e];rw[An d e]at i;exact h.vals k i,fun a=>by rw[Bf];exact⟨g,rfl,n,l⟩,fun a=>by
  rw[An d ZM]at a;rw[j]at a;cases a⟩
theorem hJ.put8{B:Nat}{k:Int}{g p:BY}{c w:Wl}{d:Nat->Bool}{f:Nat->Vl}(h:hJ B k g p c d f w)(a:d 7=true):hJ B k g p c (BA d 8) (Eb f 8 (f 7)) w:=
 ⟨h.chg,fun k b=>by
  by_cases e:k=8
  .subst e;exact True.intro
  .rw[AA f _ e];rw[An d e]at b;exact h.vals k b,fun i=>by
  rw[AA f _ ZM];exact h.row a,fun i=>by
  rw[Bf,AA f _ ZM,An d ZM];exact⟨a,rfl⟩⟩
theorem it{w:Wl}{F:Nat->Prop}{ks:List BY}{l:List Tr}{sk c:Vl}{vs:List Vl}(p:∀s∈ks,s∈[Oa,SB,Fj,SZ])(t:ks.Nodup)(q:ks.length=l.length)(y:ks.length<=3)(n:As w sk 1 ks.length (Ad ks))(m:As w c 6 l.length vs)(o:Aq w F l vs)(k:∀b,F b->b<w.heap.size):
  Cl prog 94 #[sk,c] w fun e w'=>∃(a:Nat->Prop) (cs:List Vl),e= .returned (.agg cs.toArray)/\AL w' a (D1 ks l) cs/\(∀b,a b->(F b\/w.heap.size<=b)/\b<w'.heap.size)/\Chg w w' []:=by
 have u:∀s∈ks,JA s:=fun s v=>by
  have h:=p s v;simp only[Qh,List.not_mem_nil,or_false]at h
  rcases h with rfl|rfl|rfl|rfl<;>exact⟨Yb,ZM⟩
 refine(Xz F ks l sk c vs w n m o k u t q Zj).mono ?_;rintro e w' ⟨a,cs,rfl,x,f,g,i,j⟩;refine⟨a,cs,rfl,i,fun b d=>⟨?_,g b d⟩,j⟩;by_cases r:b<w.heap.size
 .exact .inl (f b d r)
 .exact .inr Zj
theorem jF{o:Bq}(h:o.kind=2):OK o=D1 [SB,Fj] [.text (Ec o.kind.toNat),.text o.path]:=by
 rw[(iu _ _ .null).1,h];unfold OK Ze;rw[h];rfl
theorem jp{o:Bq}(h:o.kind=4\/o.kind=5):OK o=D1 [SB,Fj,Oa] [.text (Ec o.kind.toNat),.text o.path,.text o.frm]:=by
 rw[(iu _ _ _).2.1];unfold OK Ze;rw[Qr Zj]
theorem jG{o:Bq}{x:Tr}(h:o.kind=1\/o.kind=3\/o.kind=6)(a:AS o.steps=some x):OK o=D1 [SB,Fj,SZ] [.text (Ec o.kind.toNat),.text o.path,x]:=by
 rw[(iu _ _ _).2.2];unfold OK Ze;rw[Qs Zj,Qr Zj,a];rfl
theorem iC:([SB,Fj]:List BY).Nodup/\([SB,Fj,Oa]:List BY).Nodup/\([SB,Fj,SZ]:List BY).Nodup:=by
 have c:∀a b:BY,a.data.toList≠b.data.toList->a≠b:=fun a b h e=>h (by rw[e])
 have d:=c SB Fj ZM;have f:=c SB Oa ZM;have g:=c Fj Oa ZM;have i:=c SB SZ ZM;have j:=c Fj SZ ZM;simp[d,f,g,i,j]
def jc(t:Tr)(w:Wl)(e:Ending)(w':Wl):Prop:=∃(F:Nat->Prop) (cs:List Vl),e= .returned (.agg cs.toArray)/\AL w' F t cs/\(∀b,F b->w.heap.size<=b/\b<w'.heap.size)/\Chg w w' []
theorem kt{cs:List Vl}(h:cs.length=6):∃a b c d e f,cs=[a,b,c,d,e,f]:=by
 match cs,h with
 |[a,b,c,d,e,f],_=>exact⟨a,b,c,d,e,f,rfl⟩
theorem jg{c:Wl}{B g b:Nat}{o:Obj}(d:B+1+1<g)(e:g<c.heap.size)(a:(Vl.slice (some ⟨B+1+1,0,none⟩) 2 2).ownBlock=some b\/b=(c.alloc o).heap.size):b≠g:=by
 rcases a with a|a
 .have a:some (B+1+1)=some b:=a
  injection a with a
  omega
 .have:=((Chg.refl c []).alloc o).size
  omega
theorem iG{t:Tr}{w d c j:Wl}{F G:Nat->Prop}{cs:List Vl}(m:∀b,G b->w.heap.size+1<b)(p:w.heap.size+1<d.heap.size)(k:Chg w d [])(l:Chg d c [])(e:Chg c j [w.heap.size+1])(o:AL c F t cs)(f:∀b,F b->(G b\/d.heap.size<=b)/\b<c.heap.size):jc t w (.returned (.agg cs.toArray)) j:=by
 have g:∀b,F b->w.heap.size+1<b:=fun b a=>by
  rcases(f b a).1 with h|h
  .exact m b h
  .omega
 exact⟨F,cs,rfl,AL.kept (e.keepsF (fun b a=>(f b a).2) (fun b n a=>by have:=g b a;simp at n;omega)) (fun _ h=>h) _ _ o,fun b a=>⟨by have:=g b a;omega,Q6 (f b a).2 e.size⟩,(k.trans l).fresh e (fun i hi=>by simp at hi;omega)⟩
theorem jA(o:Bq)(sv:Vl)(ys:List Vl)(w:Wl)(hO:T7 o)(hR:As w sv 6 o.steps.length ys)(hS:Az w o.steps ys)(h0:Bn o=0):
  Cl prog 55 #[.agg (BJ o sv).toArray] w (jc (OK o) w):=by
 obtain⟨sa,sc,rfl,_⟩:=hR.form;obtain⟨hk,_,_,X⟩:=EK h0;have HV:=UD (∀C,Chg w C []->Cl prog 41 #[.slice sa o.steps.length sc] C (ZY (AS o.steps) C)) fun C hx=>Vq o.steps _ ys C (hR.kept hx) (Az.kept hx hS) hO.steps hO.len
 have ax:=UD (∀C,Cl prog 93 #[.int .i64 o.kind] C fun e w'=>e= .returned (.string (Ec o.kind.toNat))/\Chg C w' []) fun C=>jB o.kind hk C
 obtain⟨r,aE⟩:=Ue (Ec o.kind.toNat)
 obtain⟨n,hn⟩:=Ue o.steps.length
 rw[<-hn]at HV|-;rw[<-aE]at ax;have H4:=hZ X;have ay:=hZ aE;obtain⟨k,ao⟩:=Ue o.kind
 obtain⟨pa,aD⟩:=Ue o.path
 obtain⟨E,aC⟩:=Ue o.frm
 unfold BJ;rw[<-ao,<-aD,<-aC];rw[<-ao]at ax hk;have an:=hZ ao;have aw:=hZ aD;have a0:=hZ aC;have HK:=hZ hk;clear hO hR hS h0 X aE hn ao aD aC hk;obtain⟨t,aa⟩:=Ue (World.drew (((w.alloc (.cells #[.int .i64 k,.string pa,.string E,.slice sa n sc] 42)).alloc (.cells zV.toArray 29)).alloc (.cells #[.string SB,.string Fj] 9)))
 have aJ:=hZ aa;have aG:Hid (Chg w t []):=by rw[aa];exact hZ (((((Chg.refl w []).alloc _).alloc _).alloc _).drew)
 have am:Hid (Ac t w.heap.size [.int .i64 k,.string pa,.string E,.slice sa n sc] 42):=by rw[aa];exact hZ (((Ac.new w _ _).alloc _).alloc _).drew
 have aH:Hid (Ac t (w.heap.size+1) zV 29):=by rw[aa];exact hZ (((BD _ _ zV _ _ rfl Zh).alloc _).drew)
 have aq:Hid (Ac t (w.heap.size+1+1) [.string SB,.string Fj] 9):=by rw[aa];exact hZ ((BD _ _ [.string SB,.string Fj] _ _ rfl Zh).drew)
 clear aa;go_enter func55,ntmps55
 go_wp2_with fail
 refine wp_region_any Yb ?_;change wpAny _ _ _ _ _ _ _ (World.drew (((w.alloc (.cells #[.int .i64 k,.string pa,.string E,.slice sa n sc] 42)).alloc (.cells zV.toArray 29)).alloc (.cells #[.string SB,.string Fj] 9)));rw[<-aJ.o];refine Dg _ (hJ w.heap.size k r pa t) Yb ?_ ?_ _ ?_
 .intro ii op a wa dd f Y a7 M bg d K G
  match ii,f with
  |0,f=>
   obtain rfl:=Q5 f;have m:a.tmps.getD 1 undef= .pointer (some ⟨w.heap.size,0,none⟩):=Y.at 1 Yb;go_simp
   exact G _ _ Zh (d.put ZM ZM (by simp[jO]) cR)
  |1,f=>
   obtain rfl:=Q5 f;have h8:a.tmps.getD 8 undef= .pointer (some ⟨w.heap.size,0,none⟩):=d.vals 0 (M ⟨0,.data⟩ Zh rfl);have aB:=(am.o.kept d.chg).cell 0;simp only[Qa,Qb]at aB;go_simp
   exact G _ _ Zh (d.put ZM ZM (by simp[jO]) cR)
  |2,f=>
   obtain rfl:=Q5 f;have h9:a.tmps.getD 9 undef= .int .i64 k:=d.vals 1 (M ⟨1,.data⟩ Zh rfl);go_simp
   go_at_call 93;refine(ax.o wa).mono ?_;rintro e w1 ⟨rfl,m⟩;exact G _ _ Zh (d.put ZM ZM (by simp[jO]) m)
  |3,f=>
   obtain rfl:=Q5 f;have bc:a.tmps.getD 10 undef= .string r:=d.vals 2 (M ⟨2,.data⟩ Zh rfl);go_simp
   go_at_call 92;refine(iF r wa).mono ?_;rintro e w1 ⟨rfl,m⟩;exact G _ _ Zh (d.put ZM ZM (by simp[jO]) m)
  |4,f=>
   obtain rfl:=Q5 f;have m:a.tmps.getD 1 undef= .pointer (some ⟨w.heap.size,0,none⟩):=Y.at 1 Yb;go_simp
   exact G _ _ Zh (d.put ZM ZM (by simp[jO]) cR)
  |5,f=>
   obtain rfl:=Q5 f;have bd:a.tmps.getD 12 undef= .pointer (some ⟨w.heap.size,1,none⟩):=d.vals 4 (M ⟨4,.data⟩ Zh rfl);have aB:=(am.o.kept d.chg).cell 1;simp only[Qa,Qb]at aB;go_simp
   exact G _ _ Zh (d.put ZM ZM (by simp[jO]) cR)
  |6,f=>
   obtain rfl:=Q5 f;have be:a.tmps.getD 13 undef= .string pa:=d.vals 5 (M ⟨5,.data⟩ Zh rfl);go_simp
   go_at_call 92;refine(iF pa wa).mono ?_;rintro e w1 ⟨rfl,m⟩;exact G _ _ Zh (d.put ZM ZM (by simp[jO]) m)
  |7,f=>
   obtain rfl:=Q5 f
   have e8:dd 8=false:=by
    cases e:dd 8 with
    |false=>rfl
    |true=>have:=(d.last e).1;rw[a7]at this;cases this
   have a4:a.tmps.getD 11 undef= .agg (gL r).toArray:=d.vals 3 (M ⟨3,.data⟩ Zh rfl);have a5:a.tmps.getD 14 undef= .agg (gL pa).toArray:=d.vals 6 (M ⟨6,.data⟩ Zh rfl);have ba:a.tmps[11]?.getD undef= .agg #[.int .i64 4,.bool false,.int .u64 0,.string r,.slice none 0 0,.slice none 0 0]:=by rw[<-Qp];exact a4
   have bb:a.tmps[14]?.getD undef= .agg #[.int .i64 4,.bool false,.int .u64 0,.string pa,.slice none 0 0,.slice none 0 0]:=by rw[<-Qp];exact a5
   go_simp
   refine G _ _ Zh ?_;exact d.put7 e8 d.chg.size (Ba.lit wa (gL r++gL pa) _ 6 2 rfl ZM) ((Chg.refl _ _).alloc _)
  |8,f=>
   obtain rfl:=Q5 f;have d7:=M ⟨7,.data⟩ Zh rfl;obtain⟨g,f7,hg,hL⟩:=d.row d7;have bf:a.tmps.getD 15 undef= .slice (some ⟨g,0,none⟩) 2 2:=f7;go_simp
   have:=d.put8 d7;rw[f7]at this;exact G _ _ Zh this
  |_+9,f=>exact absurd f Zh
 .intro a B dd Y hd d
  obtain⟨g,f7,hg,hL⟩:=d.row (hd 7 ZM);have X:a.tmps.getD 4 undef= .slice (some ⟨g,0,none⟩) 2 2:=(d.last (hd 8 ZM)).2.trans f7;have ae:=hZ d.chg;have HG:=hZ hg;have V:=hZ hL;clear d hd aJ f7 hg hL;have Z:=Y.form' [8,9,10,11,12,13,14,15,4] Yb;have aO:=Y.defers;obtain⟨P,df⟩:=a;clear Y
  dsimp only at Z aO X
  simp only[List.foldl_cons,List.foldl_nil]at Z;rw[X]at Z;obtain⟨u8,aW⟩:=Ue (P.getD 8 undef)
  obtain⟨u9,aX⟩:=Ue (P.getD 9 undef)
  obtain⟨u10,aQ⟩:=Ue (P.getD 10 undef)
  obtain⟨u11,aR⟩:=Ue (P.getD 11 undef)
  obtain⟨u12,aS⟩:=Ue (P.getD 12 undef)
  obtain⟨u13,aT⟩:=Ue (P.getD 13 undef)
  obtain⟨u14,aU⟩:=Ue (P.getD 14 undef)
  obtain⟨u15,aV⟩:=Ue (P.getD 15 undef)
  rw[<-aW,<-aX,<-aQ,<-aR,<-aS,<-aT,<-aU,<-aV]at Z;clear aW aX aQ aR aS aT aU aV X;simp only[List.setIfInBounds_toArray,List.set_cons_zero,List.set_cons_succ]at Z;subst Z;subst aO;have aK:=hZ (am.o.kept ae.o);have ai:=hZ (aH.o.kept ae.o);have au:=hZ (aq.o.kept ae.o);have al:=UD (Chg w B []) (aG.o.trans ae.o);have H:=UD (w.heap.size+1+1<g) (by have m:=aq.o.lt;have W:=HG.o;omega);have av:=UD (AK B (.slice (some ⟨w.heap.size+1+1,0,none⟩) 2 2) 9 (Ad [SB,Fj])) (AK.ofBlk au.o rfl (Q8 _) ZM rfl rfl);obtain⟨x1,x2,x3,x4,x5,x6⟩:=Ac.cells4 aK.o;have a6:k=1\/k=2\/k=3\/k=4\/k=5\/k=6:=by have:=HK.o;omega
  clear ae HG am aH aq aG
  rcases a6 with rfl|rfl|rfl|rfl|rfl|rfl
  rotate_left
  .have hV:Aq B (fun _=>False) [.text r,.text pa] (gL r++gL pa):=by
    simp only[Aq];exact⟨_,_,rfl,gR _ _ _,_,[],Zh,gR _ _ _,rfl⟩
   have a1:=hZ (it (F:=fun _=>False) (ks:=[SB,Fj]) (l:=[.text r,.text pa]) (fun s h=>by simp at h|-;rcases h with h|h<;>simp[h]) iC.1 rfl ZM (av.o.rowC) (V.o.rowC rfl) hV (fun b (c:False)=>c.elim));clear hV
   go_wp2_with(first
    |(go_at_call 94;refine a1.o.mono ?_;rintro e w6 ⟨F6,cs,rfl,p,O,z⟩;have Q1:=hZ p;have Q2:=hZ O;have H6:=hZ z;have ah:=hZ (ai.o.kept z);have I:=UD ((prog.info? 29).map (·.size)=some cs.length) (by rw[(E7 p).2];exact A9);have af:=hZ (E7 p).1;have aj:=UD (zV.length=cs.length) (by rw[(E7 p).2];rfl);clear p O z)
    |(refine Ae rfl _ _ _ rfl (w.heap.size+1) cs ZN ZN 29 zV (by exact ah.o) I.o aj.o af.o ?_;intro w7 ak J L;have ad:=hZ J;have ab:=hZ L;clear ak J L))
   refine bodyPost_ret (Bi rfl _ _ (w.heap.size+1) 29 cs _ rfl ad.o underlying29 rfl I.o) rfl ?_;rw[jF an.o.symm,<-ay.o,<-aw.o];exact iG (fun b (c:False)=>c.elim) ai.o.lt al.o H6.o ab.o Q1.o Q2.o
  rotate_left
  iterate 2
   .go_wp2_with(first
     |(at_builtin;refine AM rfl _ _ _ rfl 9 Ho 16 underlying27 Cf rfl (.slice (some ⟨w.heap.size+1+1,0,none⟩) 2 2) (Ad [SB,Fj]) ZN (by exact av.o.kept (bs:=[]) (by exact cg cR) Zh) B.heap.size (.string Oa) ZN (by exact Bx rfl _ _) rfl ZM ZM ?_;intro T S w2 k1 k2 k3;have K1:=UD (AK w2 (.slice (some ⟨T,0,none⟩) 3 S) 9 (Ad [SB,Fj,Oa])) k1;have x:=UD (Chg B w2 [w.heap.size+1+1]) (Chg.trans (b:=_) ((Chg.refl B _).alloc _) k2);have K3:=hZ k3;have az:=hZ (aK.o.kept x.o (by simp;omega));obtain⟨y1,y2,y3,y4,y5,y6⟩:=Ac.cells4 az.o;show wpList _ _ _ _ (Act.put _ _ (.slice (some ⟨T,0,none⟩) 3 S)) _;clear k1 k2 k3 x1 x2 x3 x4 x5 x6)
     |(go_at_call 92;have hq:=x.o;refine(iF E w2).mono ?_;rintro e y ⟨rfl,h3⟩;have A:=hZ h3;unfold gL vC gY;clear h3 hq)
     |(at_builtin;go_loud(refine Er rfl _ _ 26 rfl 29 NP 6 88 ZM underlying26 Dp rfl (.slice (some ⟨g,0,none⟩) 2 2) 2 (gL r++gL pa) ZN (by exact Ba.kept (bs:=[]) ((V.o.kept x.o (fun b c q=>by have m:=H.o;have c:some g=some b:=c;injection c with c;simp only[Qh,List.not_mem_nil,or_false]at q;omega)).kept A.o) ((Chg.refl y []).alloc _) Zh) y.heap.size 0 1 1 (gL E) ZN ZM ZN (fun j v N=>by rw[Nat.zero_add];exact((BD y _ (gL E) _ _ rfl Zh).cell j).trans N) (jo E) ZM ZM ?_;intro g5 aA u m1 m2 m3;have M1:=UD (Ba u (.slice (some ⟨g5,0,none⟩) 3 aA) 29 6 3 ((gL r++gL pa)++gL E)) m1;have D:=UD (Chg y u [g]) (Chg.trans (b:=_) ((Chg.refl y _).alloc _) m2);have ar:=UD (AK u (.slice (some ⟨T,0,none⟩) 3 S) 9 (Ad [SB,Fj,Oa])) ((K1.o.kept A.o).kept D.o (fun b c q=>jg H.o (V.o.lt rfl) K3.o ((Q5 c).trans (List.mem_singleton.1 q))));have ag:=UD (Ac u (w.heap.size+1) zV 29) (((ai.o.kept x.o).kept A.o).kept D.o (by have m:=H.o;simp;omega));have ap:=UD (Chg w u []) (((al.o.fresh x.o (fun i hi=>by simp at hi;omega)).trans A.o).fresh D.o (fun i hi=>by have m:=H.o;simp at hi;omega));clear m1 m2 m3))
     |(go_at_call 94;go_loud(refine(it (w:=u) (F:=fun _=>False) (ks:=[SB,Fj,Oa]) (l:=[.text r,.text pa,.text E]) (fun s h=>by simp at h|-;rcases h with h|h|h<;>simp[h]) iC.2.1 rfl ZM (ar.o.rowC) (M1.o.rowC rfl) (by simp only[Aq];exact⟨_,_,List.append_assoc _ _ _,gR _ _ _,_,_,rfl,gR _ _ _,_,[],Zh,gR _ _ _,rfl⟩) (fun b (c:False)=>c.elim)).mono ?_;rintro e w6 ⟨F6,cs,rfl,p,O,z⟩;have Q1:=hZ p;have Q2:=hZ O;have H6:=hZ z;have ah:=hZ (ag.o.kept z);have I:=UD ((prog.info? 29).map (·.size)=some cs.length) (by rw[(E7 p).2];exact A9);have af:=hZ (E7 p).1;have aj:=UD (zV.length=cs.length) (by rw[(E7 p).2];rfl);clear p O z))
     |(refine Ae rfl _ _ _ rfl (w.heap.size+1) cs ZN ZN 29 zV (by exact ah.o) I.o aj.o af.o ?_;intro w7 ak J L;have ad:=hZ J;have ab:=hZ L;clear ak J L))
    refine bodyPost_ret (Bi rfl _ _ (w.heap.size+1) 29 cs _ rfl ad.o underlying29 rfl I.o) rfl ?_;rw[jp (by have:=an.o;omega),<-ay.o,<-aw.o,<-a0.o];exact iG (fun b (c:False)=>c.elim) ag.o.lt ap.o H6.o ab.o Q1.o Q2.o
  iterate 3
   .have hu:AN o.kind=true:=by rw[<-an.o];rfl
    obtain⟨xv,aF⟩:=H4.o hu;rw[aF]at HV;have a2:=hZ aF;clear hu aF H4
    go_wp2_with(first
     |(go_at_call 41;refine(HV.o _ al.o).mono ?_;rintro e w2 ⟨⟨F,cs,he,N,hf,_⟩,W⟩;obtain⟨Q,c1,R,c3,c4,c5,rfl⟩:=kt (E7 N).2;have he:e= .returned (.tuple #[.agg #[Q,c1,R,c3,c4,c5],.bool true]):=he;subst he;have QV:=hZ N;have QF:=hZ hf;have H2:=hZ W;have aI:=hZ (E7 N).1;clear W N hf x1 x2 x3 x4 x5 x6)
     |(refine Ae rfl _ _ _ rfl w2.heap.size [Q,c1,R,c3,c4,c5] ZN ZN 29 zV (BD _ _ zV _ _ rfl rfl) A9 rfl aI.o ?_;intro y a8 aN aP;have aY:=hZ aN;have A:=UD (Chg w2 y []) (Chg.step (b:=_) (by exact cg cR) aP (fun i hi hl=>by simp at hi;omega));have U:=UD (Chg B y []) (H2.o.trans A.o);clear a8 aN aP)
     |(at_builtin;refine AM rfl _ _ _ rfl 9 Ho 16 underlying27 Cf rfl (.slice (some ⟨w.heap.size+1+1,0,none⟩) 2 2) (Ad [SB,Fj]) ZN (by exact(av.o.kept U.o).kept (bs:=[]) (by exact cg cR) Zh) y.heap.size (.string SZ) ZN (by exact Bx rfl _ _) rfl ZM ZM ?_;intro T S t k1 k2 k3;have K1:=UD (AK t (.slice (some ⟨T,0,none⟩) 3 S) 9 (Ad [SB,Fj,SZ])) k1;have x:=UD (Chg y t [w.heap.size+1+1]) (Chg.trans (b:=_) ((Chg.refl y _).alloc _) k2);have K3:=hZ k3;have aZ:=UD (Ac t w2.heap.size [Q,c1,R,c3,c4,c5] 29) (aY.o.kept x.o (by have m:=au.o.lt;have W:=H2.o.size;simp;omega));show wpList _ _ _ _ (Act.put _ _ (.slice (some ⟨T,0,none⟩) 3 S)) _;clear k1 k2 k3)
     |(refine Bp rfl _ _ rfl w2.heap.size ZN 29 [Q,c1,R,c3,c4,c5] (by exact aZ.o) _ underlying29 rfl A9 ?_)
     |(at_builtin;go_loud(refine Er rfl _ _ 26 rfl 29 NP 6 88 ZM underlying26 Dp rfl (.slice (some ⟨g,0,none⟩) 2 2) 2 (gL r++gL pa) ZN (by exact Ba.kept (bs:=[]) ((V.o.kept U.o).kept x.o (fun b c q=>by have m:=H.o;have c:g=b:=Q5 c;have q:=List.mem_singleton.1 q;omega)) ((Chg.refl t []).alloc _) Zh) t.heap.size 0 1 1 [Q,c1,R,c3,c4,c5] ZN ZM ZN (fun j v N=>by rw[Nat.zero_add];exact((BD t _ [Q,c1,R,c3,c4,c5] _ _ rfl Zh).cell j).trans N) aI.o ZM ZM ?_;intro g5 aA u m1 m2 m3;have M1:=UD (Ba u (.slice (some ⟨g5,0,none⟩) 3 aA) 29 6 3 ((gL r++gL pa)++[Q,c1,R,c3,c4,c5])) m1;have D:=UD (Chg t u [g]) (Chg.trans (b:=_) ((Chg.refl t _).alloc _) m2);have a9:=UD (Chg B y []) U.o;have ar:=UD (AK u (.slice (some ⟨T,0,none⟩) 3 S) 9 (Ad [SB,Fj,SZ])) (K1.o.kept D.o (fun b c q=>jg H.o (Q6 (V.o.lt rfl) U.o.size) K3.o ((Q5 c).trans (List.mem_singleton.1 q))));have ag:=UD (Ac u (w.heap.size+1) zV 29) (((ai.o.kept U.o).kept x.o).kept D.o (by have m:=H.o;simp;omega));have az:=UD (Chg w y []) (al.o.trans U.o);have ap:=UD (Chg w u []) (((az.o.fresh x.o (fun i hi=>by simp at hi;omega))).fresh D.o (fun i hi=>by have m:=H.o;simp at hi;omega));have QL:=UD (∀b,F b->b<u.heap.size/\B.heap.size<=b) (fun b c=>⟨Q6 (QF.o b c).2 (Q7 A.o.size (Q7 x.o.size D.o.size)),(QF.o b c).1⟩);have aL:=AL.kept (A.o.keepsF (fun b c=>(QF.o b c).2) (fun b q c=>by simp at q)) (fun _ h=>h) _ _ QV.o;have aM:=AL.kept (x.o.keepsF (fun b c=>Q6 (QF.o b c).2 A.o.size) (fun b q c=>by have m:=(QL.o b c).2;have W:=au.o.lt;simp at q;omega)) (fun _ h=>h) _ _ aL;have a3:=hZ (AL.kept (D.o.keepsF (fun b c=>Q6 (QF.o b c).2 (Q7 A.o.size x.o.size)) (fun b q c=>by have m:=(QL.o b c).2;have W:g<B.heap.size:=V.o.lt rfl;have q:=List.mem_singleton.1 q;omega)) (fun _ h=>h) _ _ aM);clear m1 m2 m3 aL aM))
     |(go_at_call 94;go_loud(refine(it (w:=u) (F:=F) (ks:=[SB,Fj,SZ]) (l:=[.text r,.text pa,xv]) (fun s h=>by simp at h|-;rcases h with h|h|h<;>simp[h]) iC.2.2 rfl ZM (ar.o.rowC) (M1.o.rowC rfl) (by simp only[Aq];exact⟨_,_,List.append_assoc _ _ _,gR _ _ _,_,_,rfl,gR _ _ _,_,[],Zh,a3.o,rfl⟩) (fun b c=>(QL.o b c).1)).mono ?_;rintro e w6 ⟨F6,cs,rfl,p,O,z⟩;have Q1:=hZ p;have Q2:=hZ O;have H6:=hZ z;have ah:=hZ (ag.o.kept z);have I:=UD ((prog.info? 29).map (·.size)=some cs.length) (by rw[(E7 p).2];exact A9);have af:=hZ (E7 p).1;have aj:=UD (zV.length=cs.length) (by rw[(E7 p).2];rfl);clear p O z))
     |(refine Ae rfl _ _ _ rfl (w.heap.size+1) cs ZN ZN 29 zV (by exact ah.o) I.o aj.o af.o ?_;intro w7 ak J L;have ad:=hZ J;have ab:=hZ L;clear ak J L))
    refine bodyPost_ret (Bi rfl _ _ (w.heap.size+1) 29 cs _ rfl ad.o underlying29 rfl I.o) rfl ?_;rw[jG (by have:=an.o;omega) a2.o,<-ay.o,<-aw.o];exact iG (fun b c=>Q6 ai.o.lt (QL.o b c).2) ag.o.lt ap.o H6.o ab.o Q1.o Q2.o
 .exact⟨Chg.refl _ _,(fun _ e=>by cases e),(fun e=>by cases e),(fun e=>by cases e)⟩
end
section
open _root_.Go.Proofs.Tryz
open Go Go.Shelf Go.RowKit Go.Lib Tree Ptr
def iy(r:ZW)(w:Wl)(e:Ending)(w':Wl):Prop:=(match r with
 | .yes t=>∃(F:Nat->Prop) (cs:List Vl),e= .returned (.tuple #[.agg cs.toArray,.int .i64 0,.int .i64 0])/\AL w' F t cs/\(∀b,F b->w.heap.size<=b/\b<w'.heap.size)
 | .no k i=>∃cs:List Vl,(∀u∈cs,u.oneCell'=true)/\cs.length=6/\e= .returned (.tuple #[.agg cs.toArray,.int .i64 k,.int .i64 i]))/\Chg w w' []
structure il(w0:Wl)(R:Nat)(l:List Tr)(sl:Vl)(ys:List Vl)(F:Nat->Prop)(w:Wl):Prop where
 res:Ac w R zV 29
 bO:Ac w (R+1) (vC 5 false 0 ⟨#[]⟩ sl gY) 29
 row:Ba w sl 29 6 l.length ys
 at_:Aq w F l ys
 lt:∀b,F b->R+1<b/\b<w.heap.size
 own:∀g,sl.ownBlock=some g->R+1<g/\¬F g
 chg:Chg w0 w []
 big:w0.heap.size<=R
theorem il.kept{w0 w w':Wl}{R:Nat}{l:List Tr}{d:Vl}{ys:List Vl}{F:Nat->Prop}(h:il w0 R l d ys F w)(a:Chg w w' []):il w0 R l d ys F w':=
 ⟨h.res.kept a,h.bO.kept a,h.row.kept a,Aq.kept (a.keepsF (fun b c=>(h.lt b c).2)) (fun _ h=>h) _ _ h.at_,fun b c=>⟨(h.lt b c).1,Q6 (h.lt b c).2 a.size⟩,h.own,h.chg.trans a,h.big⟩
theorem il.val{w0 w:Wl}{R:Nat}{l:List Tr}{e:Vl}{ys:List Vl}{F:Nat->Prop}(h:il w0 R l e ys F w):
  AL w (fun b=>F b\/e.ownBlock=some b) (.list l) (vC 5 false 0 ⟨#[]⟩ e gY)/\∀b,(F b\/e.ownBlock=some b)->R+1<b/\b<w.heap.size:=by
 obtain⟨a,c,rfl,_⟩:=h.row.form;refine⟨?_,fun b d=> ?_⟩
 .simp only[AL]
  refine⟨a,c,none,0,ys,rfl,h.row.rowN (by have:=h.at_.length;omega) (fun g f=> .inr f),Aq.kept (fun _ _ _=>rfl) (fun _ h=> .inl h) _ _ h.at_⟩
 .rcases d with d|d
  .exact h.lt b d
  .exact⟨(h.own b d).1,h.row.lt d⟩
theorem il.start(w:Wl):il w w.heap.size [] (.slice none 0 0) [] (fun _=>False) ((w.alloc (.cells zV.toArray 29)).alloc (.cells (vC 5 false 0 ⟨#[]⟩ (.slice none 0 0) gY).toArray 29)):=
 ⟨(Ac.new w _ _).alloc _,BD _ _ _ _ _ rfl Zh,Ba.nil _ _ _,rfl,fun b (a:False)=>a.elim,(fun g c=>by cases c),((Chg.refl w []).alloc _).alloc _,Q8 _⟩
theorem il.push{w0 wr j m r:Wl}{R n g s:Nat}{l:List Tr}{t:Tr}{q:Vl}{ys cs:List Vl}{F F6:Nat->Prop}(h:il w0 R l q ys F wr)(o:Chg wr j [])(C:AL j F6 t cs)(f:∀b,F6 b->wr.heap.size<=b/\b<j.heap.size)(p:Chg j m q.ownBlock.toList)(z:Ba m (.slice (some ⟨g,0,none⟩) n s) 29 6 n (ys++cs))(B:n=l.length+1)(d:q.ownBlock=some g\/j.heap.size<=g)(k:Chg m r [R+1])(y:Ac r (R+1) (vC 5 false 0 ⟨#[]⟩ (.slice (some ⟨g,0,none⟩) n s) gY) 29):
  il w0 R (l++[t]) (.slice (some ⟨g,0,none⟩) n s) (ys++cs) (fun b=>F b\/F6 b) r:=by
 subst B;have D:=o.size;have H:=p.size;have I:=k.size;have G:=h.bO.lt
 have A:R+1<g:=by
  rcases d with d|d
  .exact(h.own g d).1
  .omega
 have E:BZ F wr j:=o.keepsF (fun b a=>(h.lt b a).2)
 have w:BZ (fun b=>F b\/F6 b) j m:=p.keepsF (fun b a=>by
  rcases a with a|a
  .exact Q6 (h.lt b a).2 D
  .exact(f b a).2) (fun b c a=>by
  have c:q.ownBlock=some b:=by simpa using c
  rcases a with a|a
  .exact(h.own b c).2 a
  .have:=h.row.lt c;have:=(f b a).1;omega)
 have x:BZ (fun b=>F b\/F6 b) m r:=k.keepsF (fun b a=>by
  rcases a with a|a
  .have:=(h.lt b a).2;omega
  .have:=(f b a).2;omega) (fun b c a=>by
  have c:b=R+1:=by simpa using c
  rcases a with a|a
  .have:=(h.lt b a).1;omega
  .have:=(f b a).1;omega)
 refine⟨((h.res.kept o).kept p (fun c=> ?_)).kept k,y, ?_, ?_,fun b a=> ?_,fun v u=> ?_, ?_,h.big⟩
 .have:=(h.own R (by simpa using c)).1;omega
 .rw[Qk,List.length_singleton]
  exact z.kept k (fun v u c=>by simp[Vl.ownBlock]at u c;omega)
 .refine Aq.append (Aq.kept x (fun _ h=>h) _ _ (Aq.kept w (fun _ h=>h) _ _ (Aq.kept E (fun _ h=> .inl h) _ _ h.at_))) ?_
  simp only[Aq];exact⟨cs,[],Zh,AL.kept x (fun _ h=>h) _ _ (AL.kept w (fun _ h=>h) _ _ (AL.kept (fun _ _ _=>rfl) (fun _ h=> .inr h) _ _ C)),rfl⟩
 .rcases a with a|a
  .have:=h.lt b a;omega
  .have:=f b a;omega
 .have e:g=v:=by simpa[Vl.ownBlock]using u
  subst e;refine⟨A,fun a=> ?_⟩
  rcases d with d|d
  .rcases a with a|a
   .exact(h.own g d).2 a
   .have:=h.row.lt d;have:=(f g a).1;omega
  .rcases a with a|a
   .have:=(h.lt g a).2;omega
   .have:=(f g a).2;omega
 .refine((h.chg.trans o).fresh p (fun i hi=> ?_)).fresh k (fun i hi=> ?_)
  .have:=(h.own i (by simpa using hi)).1;have:=h.big;omega
  .have hi:i=R+1:=by simpa using hi
   have:=h.big;omega
theorem jz(a:List Bq)(so:Vl)(xs:List Vl)(w:Wl)(hR:As w so 4 a.length xs)(hI:Cc w a xs)(hs:∀o∈a,T7 o/\o.path.size<=2097152/\o.frm.size<=2097152)(hn:a.length<=65536):
  Cl prog 25 #[so] w (iy (Sp [] 0 a) w):=by
 obtain⟨sa,sc,rfl,_⟩:=hR.form;have HR:=hZ hR;have HI:=hZ hI;have HS:=hZ hs;obtain⟨n,ap⟩:=Ue a.length
 have N:=hZ ap;rw[<-ap]at hn|-;have bf:decide ((65536:Int)<(n:Int))=false:=decide_eq_false Zj;clear hR hI hs ap;go_enter func25,ntmps25
 go_wp2_with fail
 obtain⟨R,an⟩:=Ue w.heap.size
 obtain⟨w4,ax⟩:=Ue ((w.alloc (.cells #[.int .i64 0,.bool false,.int .u64 0,.string ⟨#[]⟩,.slice none 0 0,.slice none 0 0] 29)).alloc (.cells #[.int .i64 5,.bool false,.int .u64 0,.string ⟨#[]⟩,.slice none 0 0,.slice none 0 0] 29))
 have aD:Hid (il w R [] (.slice none 0 0) [] (fun _=>False) w4):=by rw[ax,an];exact hZ (il.start w)
 rw[<-ax,<-an];clear ax an;go_loopw [6] (fun v6 wr=>∃(i:Nat) (sl:Vl) (ys:List Vl) (F:Nat->Prop),i<=n/\v6= .int .i64 i/\il w R ((a.take i).map OK) sl ys F wr/\(∀o∈a.take i,Bn o=0)/\(Ag (.list ((a.take i).map OK))).within=true/\∀r,Sp [] 0 a=r->Sp ((a.take i).map OK) i (a.drop i)=r) (fun v6 _=>n-(intOf v6).toNat)
 case atStart=>exact⟨0,_,_,_,Zj,rfl,aD.o,(fun o H=>by cases H),ZN,fun r h=>h⟩
 case round=>
  obtain⟨i,sl,ys,F,hi,rfl,s,aN,aL,aO⟩:=hrel;have c:=hZ s;have aY:=hZ aN;have aT:=hZ aL;have ai:=hZ aO;clear s aN aL aO aD;by_cases bg:i<n
  .obtain⟨o,H⟩:∃o,a[i]? =some o:=⟨_,Q9 (by have:=N.o;omega)⟩
   obtain⟨b,ob,rfl,_⟩:=HR.o.base (by have:=N.o;omega) ZM;obtain⟨sv,yv,ae,aj,av⟩:=Cc.item HR.o (by have:=N.o;omega) HI.o H;obtain⟨ay,az,rfl,_⟩:=ae.form;have O:∀j x,(BJ o (.slice ay o.steps.length az))[j]? =some x->wr.cell? ⟨b,ob+i*4+j,none⟩=some x:=fun j x A=>c.o.chg.keeps (av j x A)
   have c0:=O 0 _ rfl;have c1:=O 1 _ rfl;have c2:=O 2 _ rfl;have c3:=O 3 _ rfl;rw[Nat.add_zero]at c0;obtain⟨ad,aq,ar⟩:=HS.o o (Qi H);have L:=UD (∀d,Chg wr d []->Cl prog 54 #[.agg #[.int .i64 o.kind,.string o.path,.string o.frm,.slice ay o.steps.length az]] d fun e w'=>e= .returned (.int .i64 (Bn o))/\Chg d w' []) fun d A=>jn o _ yv d ad (ae.kept (c.o.chg.trans A)) (Az.kept (c.o.chg.trans A) aj)
   by_cases D:Bn o=0
   .have HT:=UD (∀d,Chg wr d []->Cl prog 55 #[.agg #[.int .i64 o.kind,.string o.path,.string o.frm,.slice ay o.steps.length az]] d (jc (OK o) d)) fun d A=>jA o _ yv d ad (ae.kept (c.o.chg.trans A)) (Az.kept (c.o.chg.trans A) aj) D
    rw[D]at L;have HO:=hZ H;obtain⟨m,B⟩:=Ue o.steps.length
    rw[<-B]at L HT c3;have al:=hZ D;have aV:=hZ (en (eo D aq ar ad.steps));clear B H ad aq ar O av ae aj D;have ab:((a.take i).map OK).length=i:=by rw[List.length_map,Ql];have:=N.o;omega
    obtain⟨I,J,rfl,_⟩:=c.o.row.form;have au:=c.o.row;rw[ab]at c au;have aC:=hZ au;have aB:=hZ ab;have ao:wr.cell? ⟨R+1,4,none⟩=some (.slice I i J):=c.o.bO.cell 4;clear au ab
    go_upto_region 10 with((go_at_call 54;refine(L.o _ (by exact cg cR)).mono ?_;rintro e w3 ⟨rfl,y⟩;have C:=hZ y;have aG:=y.keeps ao;have a1:=y.keeps c0;have a2:=y.keeps c1;have a3:=y.keeps c2;have a4:=y.keeps c3;have a9:=World.block_lt_of_cell? w3 _ aG;clear y))
    go_cut [29]from 29 to 38 (fun _ d=>∃aR aS F',il w R ((a.take i).map OK++[OK o]) aR aS F' d)
    case first=>
     go_region_law(first
      |(go_simp;go_at_call 55;refine(HT.o _ (by exact cg C.o)).mono ?_;rintro e M ⟨F6,bc,he,q1,q2,q3⟩;obtain⟨d0,d1,d2,d3,d4,d5,rfl⟩:=kt (E7 q1).2;have he:e= .returned (.agg #[d0,d1,d2,d3,d4,d5]):=he;subst he;have ag:=UD (Chg wr M []) (ct C.o q3);have Q1:=hZ q1;have Q2:=UD (∀b,F6 b->wr.heap.size<=b/\b<M.heap.size) (fun b f=>⟨Q7 (Chg.size (bs:=[]) (by exact cg C.o)) (q2 b f).1,(q2 b f).2⟩);have aX:=hZ (E7 q1).1;have a0:=ag.o.keeps ao;have bi:=World.block_lt_of_cell? M _ a0;clear q1 q2 q3)
      |(go_loud(refine Bw rfl _ _ _ rfl 29 NP 6 88 ZM underlying26 Dp rfl (.slice I i J) i ys ZN (by exact Ba.kept (bs:=[]) (aC.o.kept ag.o) (by exact cg cR) Zh) M.heap.size [d0,d1,d2,d3,d4,d5] ZN ZN (by exact Cm _ _ _) aX.o Zj Zj ?_;intro g bb w7 aJ aH aI;have aW:=hZ aJ;have aA:=UD (Chg M w7 (Vl.slice I i J).ownBlock.toList) ((((Chg.refl M []).alloc _).none _).trans aH);have aU:=UD ((Vl.slice I i J).ownBlock=some g\/M.heap.size<=g) (aI.imp id (fun h=>by rw[h];simp));have ah:=hZ ((c.o.bO.kept ag.o).kept aA.o (fun B=>by have:=(c.o.own (R+1) (by simpa using B)).1;omega));have ba:w7.cell? ⟨R+1,4,none⟩=some (.slice I i J):=ah.o.cell 4;have bd:∀j,w7.frozen? ⟨R+1,j,none⟩=false:=(fun j=>ah.o.frozen j);have bj:=ah.o.lt;clear aJ aH aI)))
     all_goals
      go_wp2_with fail
      go_meet
      exact⟨_,_,_,c.o.push ag.o Q1.o Q2.o aA.o aW.o (by have:=aB.o;omega) aU.o ((Chg.refl _ _).setCell _ _ Zh) ((ah.o.set 4 _).eq rfl)⟩
    case rest=>
     obtain⟨aR,aS,F',s⟩:=hcut;clear L HT C aG a1 a2 a3 a4 a9 c0 c1 c2 c3 ao aC c;have e1:(a.take (i+1)).map OK=(a.take i).map OK++[OK o]:=by rw[Cb HO.o,List.map_append];rfl
     have ab:((a.take i).map OK++[OK o]).length=i+1:=by rw[Qk,aB.o];rfl
     obtain⟨S,T,rfl,_⟩:=s.row.form;have a7:=ec ((a.take i).map OK) (OK o);have a8:=Ar aT.o;have a5:=aV.o;obtain⟨af,P⟩:=s.val
     have aa:=UD (∀d,Chg wc d []->Cl prog 56 #[.agg (vC 5 false 0 ⟨#[]⟩ (.slice S ((a.take i).map OK++[OK o]).length T) gY).toArray] d fun e w'=>e= .returned (.bool (Ag (.list ((a.take i).map OK++[OK o]))).within)/\Chg d w' []) fun d A=>
      Ex _ _ _ d Zj Zj Zj (AL.kept (A.keepsF (fun b f=>(P b f).2)) (fun _ h=>h) _ _ af) (fun b f=>Q6 (P b f).2 A.size)
     have v:=hZ s.bO;have Y:=hZ s.res;have X:=hZ s.chg;have W:=hZ s.big;have aZ:=hZ s;have t:=UD (∀u∈vC 5 false 0 ⟨#[]⟩ (.slice S ((a.take i).map OK++[OK o]).length T) gY,u.oneCell'=true) (Mz _ _ _ _ _ _ _ _ _ _);obtain⟨cs,p⟩:=Ue (vC 5 false 0 ⟨#[]⟩ (.slice S ((a.take i).map OK++[OK o]).length T) gY)
     have z:cs.length=6:=by rw[p];rfl
     have k:(prog.info? 29).map (·.size)=some cs.length:=by rw[z];exact A9
     rw[<-p]at v t aa;have ak:=hZ e1;clear p s a7 a8 a5 af P ab e1;by_cases Q:(Ag (.list ((a.take i).map OK++[OK o]))).within=true
     .have HW:=hZ Q
      rw[Q]at aa;clear Q
      go_wp2_with(first
       |(refine Bp rfl _ _ rfl (R+1) ZN 29 cs (by exact v.o) _ underlying29 rfl k ?_)
       |(go_at_call 56;refine(aa.o _ (by exact cg cR)).mono ?_;rintro e w8 ⟨rfl,h8⟩;have U:=hZ h8;clear h8))
      go_roundw
      case rel=>
       refine⟨i+1,_,_,_,Zj,by go_num,by rw[ak.o];exact aZ.o.kept U.o,fun o' aM=> ?_,by rw[ak.o];exact HW.o,fun r hr=> ?_⟩
       .rw[Cb HO.o,Qf]at aM
        rcases aM with h|h
        .exact aY.o _ h
        .rw[List.mem_singleton.1 h];exact al.o
       .have l:=ai.o r hr
        rw[eA HO.o,Sp,Qs (by rw[al.o];exact fun h=>h rfl),Qr HW.o]at l;rw[ak.o];exact l
      case measure=>simp[intOf];omega
     .have aP:(Ag (.list ((a.take i).map OK++[OK o]))).within=false:=by simpa using Q
      have Z:=UD (Sp [] 0 a= .no 3 i) (by
       have l:=ai.o _ rfl;rw[eA HO.o]at l
       rw[<-l,Sp,Qs (by rw[al.o];exact fun h=>h rfl),Qs Q])
      rw[aP]at aa;clear Q aP
      go_wp2_with(first
       |(refine Bp rfl _ _ rfl (R+1) ZN 29 cs (by first|exact v.o|exact v.o.kept U.o) _ underlying29 rfl k ?_)
       |(go_at_call 56;refine(aa.o _ (by exact cg cR)).mono ?_;rintro e w8 ⟨rfl,h8⟩;have U:=hZ h8;clear h8)
       |(refine Ae rfl _ _ _ rfl R cs ZN ZN 29 zV (by exact Y.o.kept U.o) k (by rw[z];rfl) t.o ?_;intro w5 aQ E G;have V:=hZ E;have K:=hZ G;clear E G))
      refine bodyPost_ret (DN rfl _ _ R 29 cs _ rfl V.o underlying29 rfl k) rfl ?_;rw[Z.o];exact⟨⟨cs,t.o,z,rfl⟩,(X.o.trans U.o).fresh K.o (fun g hg=>by simp at hg;have:=W.o;omega)⟩
   .obtain⟨q,hq⟩:=Ue (Bn o)
    rw[<-hq]at L D;have bh:((q:Int) !=0)=true:=by rw[bne_iff_ne];omega
    have Z:=UD (Sp [] 0 a= .no q i) (by
     have l:=ai.o _ rfl;rw[eA H]at l
     rw[<-l,Sp,Qr (by rw[<-hq];exact D),<-hq])
    obtain⟨m,B⟩:=Ue o.steps.length
    rw[<-B]at L c3;clear B H ad aq ar O av ae aj D hq;obtain⟨I,J,rfl,_⟩:=c.o.row.form;have t:=UD (∀u∈vC 5 false 0 ⟨#[]⟩ (.slice I ((a.take i).map OK).length J) gY,u.oneCell'=true) (Mz _ _ _ _ _ _ _ _ _ _);obtain⟨nq,a6⟩:=Ue (((a.take i).map OK).length)
    have aF:=UD (∃cs,cs=vC 5 false 0 ⟨#[]⟩ (.slice I ((a.take i).map OK).length J) gY) ⟨_,rfl⟩;obtain⟨cs,p⟩:=aF.o;have v:=hZ c.o.bO;have Y:=hZ c.o.res;have X:=hZ c.o.chg;have W:=hZ c.o.big;have z:cs.length=6:=by rw[p];rfl
    have k:(prog.info? 29).map (·.size)=some cs.length:=by rw[z];exact A9
    rw[<-p]at v t;clear p aF a6 nq c
    go_wp2_with(first
     |(go_at_call 54;refine(L.o _ (by exact cg cR)).mono ?_;rintro e w3 ⟨rfl,y⟩;have C:=hZ y;clear y)
     |(refine Bp rfl _ _ rfl (R+1) ZN 29 cs (by exact v.o.kept C.o) _ underlying29 rfl k ?_)
     |(refine Ae rfl _ _ _ rfl R cs ZN ZN 29 zV (by exact Y.o.kept C.o) k (by rw[z];rfl) t.o ?_;intro w5 aQ E G;have V:=hZ E;have K:=hZ G;clear E G))
    refine bodyPost_ret (DN rfl _ _ R 29 cs _ rfl V.o underlying29 rfl k) rfl ?_;rw[Z.o];exact⟨⟨cs,t.o,z,rfl⟩,(X.o.trans C.o).fresh K.o (fun g hg=>by simp at hg;have:=W.o;omega)⟩
  .obtain rfl:i=n:=by omega
   have aw:a.take i=a:=Qn (by have:=N.o;omega);have aK:a.drop i=[]:=List.drop_eq_nil_of_le (by have:=N.o;omega)
   have Z:=UD (Sp [] 0 a= .yes (.list (a.map OK))) (by
    have l:=ai.o _ rfl;rw[aK,aw,Sp]at l
    exact l.symm)
   rw[aw]at c;clear aw aK;obtain⟨S,T,rfl,_⟩:=c.o.row.form;obtain⟨af,P⟩:=c.o.val;have aE:=hZ af;have am:=hZ P;have v:=hZ c.o.bO;have Y:=hZ c.o.res;have X:=hZ c.o.chg;have W:=hZ c.o.big;have t:=UD (∀u∈vC 5 false 0 ⟨#[]⟩ (.slice S (a.map OK).length T) gY,u.oneCell'=true) (Mz _ _ _ _ _ _ _ _ _ _);obtain⟨cs,p⟩:=Ue (vC 5 false 0 ⟨#[]⟩ (.slice S (a.map OK).length T) gY)
   have z:cs.length=6:=by rw[p];rfl
   have k:(prog.info? 29).map (·.size)=some cs.length:=by rw[z];exact A9
   rw[<-p]at v t aE;clear p c af P
   go_wp2_with(first
    |(refine Bp rfl _ _ rfl (R+1) ZN 29 cs (by exact v.o) _ underlying29 rfl k ?_)
    |(refine Ae rfl _ _ _ rfl R cs ZN ZN 29 zV (by exact Y.o) k (by rw[z];rfl) t.o ?_;intro w5 aQ E G;have V:=hZ E;have K:=hZ G;clear E G))
   refine bodyPost_ret (DN rfl _ _ R 29 cs _ rfl V.o underlying29 rfl k) rfl ?_;rw[Z.o];have hz:=K.o.size;have be:=W.o;refine⟨⟨_,cs,rfl,AL.kept (K.o.keepsF (fun b f=>(am.o b f).2) (fun b B f=> ?_)) (fun _ h=>h) _ _ aE.o,fun b f=> ?_⟩,X.o.fresh K.o (fun g hg=>by simp at hg;omega)⟩
   .simp at B;have:=(am.o b f).1;omega
   .have:=am.o b f;omega
end
section
open _root_.Go.Proofs.Tryz
open Go Go.Shelf Go.RowKit Go.Lib
theorem iR(k a:Int)(c:k≠0)(b:a<0)(w:Wl):Cl prog 20 #[.iface 50 (.int .i64 k),.int .i64 k,.int .i64 a] w (BU true w):=by
 have d:(k==0)=false:=by simpa using c
 have e:decide (a<0)=true:=decide_eq_true b;have f:(k==k)=true:=Zh
 have g:∀w:Wl,(Instr.typeAssert (.iface 50 (.int .i64 k)) 35 50 true).run prog w= .ok (.tuple #[.int .i64 k,.bool true]) w:=fun _=>Yb
 go_enter func20,ntmps20
 go_wp2_with fail
 go_ret
 exact⟨rfl,Chg.refl _ _⟩
theorem iE(k i:Int)(a:k≠0)(hi:0<=i)(w:Wl):Cl prog 20 #[Hk k i,.int .i64 k,.int .i64 i] w (BU true w):=by
 have b:(k==0)=false:=by simpa using a
 have c:decide (i<0)=false:=decide_eq_false Zj;have d:(k==k)=true:=Zh
 have e:∀w:Wl,(Instr.typeAssert (.iface 52 (.agg #[.int .i64 k,.int .i64 i])) 35 52 true).run prog w= .ok (.tuple #[.agg #[.int .i64 k,.int .i64 i],.bool true]) w:=fun _=>Yb
 unfold Hk;go_enter func20,ntmps20
 go_wp2_with fail
 go_ret
 exact⟨rfl,(Chg.refl _ _).alloc _⟩
end
section
open _root_.Go.Proofs.Tryz
open Go Go.Shelf Go.RowKit Go.Lib Tree Ptr
theorem iM(a:Option Addr)(n c:Nat)(w:Wl)(e:65536<n)(f:n<=4294967296):
  Cl prog 25 #[.slice a n c] w (iy (.no 3 (-1)) w):=by
 have d:(65536:Int)<(n:Int):=Zj
 have b:=UD (∀u∈vC 5 false 0 ⟨#[]⟩ gY gY,u.oneCell'=true) (Mz _ _ _ _ _ _ _ _ _ _);go_enter func25,ntmps25
 go_wp2_with fail
 refine bodyPost_ret (DN rfl _ _ w.heap.size 29 (vC 5 false 0 ⟨#[]⟩ gY gY) _ rfl ((Ac.new w _ _).alloc _) underlying29 rfl A9) rfl ?_;exact⟨⟨_,b.o,rfl,rfl⟩,((Chg.refl _ _).alloc _).alloc _⟩
theorem im(h:List Bq)(j:Vl)(ys:List Vl)(w:Wl)(J:Ti)(x:Vl)(k i:Int)(B:Br w)(v:10<=w.heap.size)(c:UG w j h ys)(hk:(k !=0)=true)(D:∀d o xs G,Chg w d []->EW w d h o xs G->Cl prog 24 #[o] d fun e w'=>e= .returned (.tuple #[.pointer none,.iface J x])/\Chg d w' [])(C:∀f,Chg w f []->Cl prog 25 #[j] f fun e w'=>(∃cs:List Vl,(∀u∈cs,u.oneCell'=true)/\cs.length=6/\e= .returned (.tuple #[.agg cs.toArray,.int .i64 k,.int .i64 i]))/\Chg f w' [])(A:∀f,Cl prog 20 #[.iface J x,.int .i64 k,.int .i64 i] f (BU true f)):
  Cl prog 6 #[j] w (BU true w):=by
 have q:=hZ (iD h j ys w c.row c.at_ c.small c.many);obtain⟨sa,sc,rfl,_⟩:=c.row.form;have S:=hZ B;have M:=hZ v;have U:=hZ D;have s:=hZ C;have R:=hZ A;obtain⟨n,m⟩:=Ue h.length
 have r:=hZ m;rw[<-m]at q s|-;clear B v c D C A m;go_enter func6,ntmps6
 go_wp2_with(first
  |(go_at_call 14;refine q.o.mono ?_;rintro e d ⟨o,xs,G,rfl,g,a⟩;have L:=hZ g;have N:=hZ a;obtain⟨la,lc,rfl,_⟩:=g.row.form;rw[<-r.o]at L;have t:=hZ (U.o d _ xs G a g);rw[<-r.o]at t|-;clear g a)
  |(go_at_call 24;refine t.o.mono ?_;rintro e w2 ⟨rfl,a⟩;have p:=UD (Chg w w2 []) (N.o.trans a);clear a)
  |(go_at_call 25;refine(s.o w2 p.o).mono ?_;rintro e K ⟨⟨cs,F,H,rfl⟩,I⟩;have O:=UD (Chg w K []) (p.o.trans I);obtain⟨V,W,X,Y,Z,d5,rfl⟩:=kt H;have T:=hZ F;clear F H I)
  |(refine Ae rfl _ _ _ rfl K.heap.size [V,W,X,Y,Z,d5] ZN ZN 29 zV (BD _ _ zV _ _ rfl rfl) A9 rfl T.o ?_;intro w4 ab aa E;have P:=UD (Chg w w4 []) (O.o.trans (Chg.step (b:=_) (by exact cg cR) E (fun i hi hl=>by simp at hi;omega)));clear ab aa E)
  |(go_at_call 20;refine(R.o _).mono ?_;rintro e w5 ⟨rfl,y⟩;have l:=UD (Chg w w5 []) (P.o.trans y);clear y)
  |(go_at_call 13;refine(Ko _ (S.o.kept l.o) (Q7 M.o l.o.size)).mono ?_;rintro e w6 ⟨rfl,z⟩;have Q:=UD (Chg w w6 []) (l.o.trans z);clear z))
 go_ret
 exact⟨rfl,Q.o⟩
theorem iL(j:List Bq)(l:Vl)(ys:List Vl)(w:Wl)(t:Tr)(R:Br w)(N:10<=w.heap.size)(a:UG w l j ys)(U:Bt t)(T:∀c s xs G,Chg w c []->EW w c j s xs G->Cl prog 24 #[s] c (F9 t c))(S:∀x,Chg w x []->Cl prog 25 #[l] x (iy (.yes t) x)):
  Cl prog 6 #[l] w (BU true w):=by
 have A:=hZ (iD j l ys w a.row a.at_ a.small a.many);obtain⟨sa,sc,rfl,_⟩:=a.row.form;have HL:=hZ R;have aa:=hZ N;have HT:=hZ T;have C:=hZ S;have ab:=hZ U;obtain⟨n,q⟩:=Ue j.length
 have B:=hZ q;rw[<-q]at A C|-;clear R N a T S U q;go_enter func6,ntmps6
 go_wp2_with(first
  |(go_at_call 14;refine A.o.mono ?_;rintro e c ⟨s,xs,G,rfl,g,o⟩;have H1:=hZ g;have H2:=hZ o;obtain⟨la,lc,rfl,_⟩:=g.row.form;rw[<-B.o]at H1;have D:=hZ (HT.o c _ xs G o g);rw[<-B.o]at D|-;clear g o)
  |(go_at_call 24;refine D.o.mono ?_;rintro e w2 ⟨F2,tb,rfl,X,Y,Z,t4,t5⟩;have z:=UD (Chg w w2 []) (H2.o.trans Z);have T1:=hZ X;have F:=hZ Y;clear X Y Z t4 t5)
  |(go_at_call 25;refine(C.o w2 z.o).mono ?_;rintro e u ⟨⟨F3,cs,p,k,W⟩,r⟩;have y:=hZ r;have H4:=UD (Chg w u []) (z.o.trans r);obtain⟨H,I,J,K,L,M,rfl⟩:=kt (E7 k).2;have p:e= .returned (.tuple #[.agg #[H,I,J,K,L,M],.int .i64 0,.int .i64 0]):=p;subst p;have ad:=hZ (E7 k).1;have Q1:=hZ k;have E:=hZ W;clear k W r)
  |(refine Ae rfl _ _ _ rfl u.heap.size [H,I,J,K,L,M] ZN ZN 29 zV (BD _ _ zV _ _ rfl rfl) A9 rfl ad.o ?_;intro v ae Q V;have d:=UD (Chg u v []) (Chg.step (b:=_) (by exact cg cR) V (fun i hi hl=>by simp at hi;omega));have H5:=UD (Chg w v []) (H4.o.trans d.o);obtain⟨ag,af,y0,y1,y2,y3,y4,y5⟩:=Ac.cells6 Q;clear ae Q V)
  |(go_at_call 19;refine(dt t F3 F2 tb _ v ab.o (T1.o.kept (y.o.trans d.o) F.o) (fun b f=>Q6 (F.o b f) (y.o.trans d.o).size) (AL.kept (d.o.keepsF (fun b f=>(E.o b f).2)) (fun _ h=>h) _ _ Q1.o) (fun b f=>Q6 (E.o b f).2 d.o.size)).mono ?_;rintro e w5 ⟨rfl,O⟩;have m:=UD (Chg w w5 []) (H5.o.trans O);clear O)
  |(go_at_call 13;refine(Ko _ (HL.o.kept m.o) (Q7 aa.o m.o.size)).mono ?_;rintro e w6 ⟨rfl,P⟩;have H7:=UD (Chg w w6 []) (m.o.trans P);clear P))
 go_ret
 exact⟨rfl,H7.o⟩
theorem i7:∀{c:List Bq} {l:List Tr} {j k:Nat} {i:Int},Sp l j c= .no k i->k≠0/\0<=i
 |[],l,j,k,i,h=>by simp only[Sp]at h;cases h
 |o::r,l,j,k,i,h=>by
  simp only[Sp]at h;split at h
  .rename_i d
   injection h with a b
   exact⟨Zj,Zj⟩
  .split at h
   .exact i7 h
   .injection h with a b
    exact⟨Zj,Zj⟩
theorem jk(b:List Bq)(h:Vl)(ys:List Vl)(w:Wl)(r:Br w)(B:dM w)(q:10<=w.heap.size)(e:UG w h b ys)(y:∀o∈b,o.path.size<=1048576/\o.frm.size<=1048576):
  Cl prog 6 #[h] w (BU true w):=by
 have v:∀o∈b,T7 o/\o.path.size<=2097152/\o.frm.size<=2097152:=fun o u=>⟨e.small o u,by have:=(y o u).1;omega,by have:=(y o u).2;omega⟩
 by_cases j:65536<b.length
 .refine im b h ys w _ _ 3 (-1) r q e rfl (fun f m xs G C s=> ?_) (fun d g=> ?_) (fun d=>iR 3 (-1) ZM ZM d)
  .obtain⟨a,c,rfl,_⟩:=s.row.form
   exact gh a _ c f j e.many
  .obtain⟨a,c,rfl,_⟩:=e.row.form
   exact iM a _ c d j e.many
 .have j:b.length<=65536:=by omega
  have p:∀f m xs G,Chg w f []->EW w f b m xs G->Cl prog 24 #[m] f (ez (Sp [] 0 b) f):=fun f m xs G g s=>gy b m xs f (r.kept g) (Q7 q g.size) (B.kept g) s.row s.ops.toIn v j
  have n:∀d,Chg w d []->Cl prog 25 #[h] d (iy (Sp [] 0 b) d):=fun d g=>jz b h ys d (e.row.kept g) (Cc.kept g e.at_) v j
  cases l:Sp [] 0 b with
  |no k i=>
   rw[l]at p n;obtain⟨D,hi⟩:=i7 l;have x:(k:Int)≠0:=Zj
   exact im b h ys w _ _ k i r q e (bne_iff_ne.2 x) p n (fun d=>iE k i x hi d)
  |yes t=>
   rw[l]at p n;obtain⟨A,z⟩:=XY l;rw[List.nil_append]at z;subst z;exact iL b h ys w _ r q e (eJ A v (gf l ZN)) p n
end
end Go.Proofs.YtkfnkppdhcaeoaaGreatDoor

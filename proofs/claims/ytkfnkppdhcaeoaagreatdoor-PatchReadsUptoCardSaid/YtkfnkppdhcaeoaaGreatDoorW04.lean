/- Part 4 of the proof of patchReads_card. -/
import Derived.Test.YtkfnkppdhcaeoaaGreatDoorM28
import Derived.Test.YtkfnkppdhcaeoaaGreatDoorW03
set_option maxRecDepth 100000
set_option maxHeartbeats 32000000
set_option linter.all false
namespace Go.Proofs.YtkfnkppdhcaeoaaGreatDoor
open Go renaming Calls->Cl,TypeId->Ti,Value->Vl,World->Wl
open Go.Value renaming agg->nA,iface->nF,int->nI,slice->nS,string->nG,tuple->nT
open Go.IntKind renaming i64->nX
open Go.Ending renaming returned->nR
open Go.Obj renaming cells->nC
open Option renaming none->nN,some->nM
section
open _root_.Go.Proofs.Tryz
open Go Go.RowKit Go.ChangeShapes Go.WideShapes Go.ChangeAt
theorem iK{H:Type}{enc:Ti×Vl->H}{P:Program}{w:Wl}{base:Nat}{C:Nat->Bool}{v:Bool}{c:Nat}{t e:Ti}{n:Nat}{cs:List Vl}{a:List (List UInt8)}{p:List MemPlace}(y:P.underlying t=some (.array n e))(u:P.underlying e=some .string)(q:P.cellsOf e=1)(r:P.cellsOf t=n)(h:DataW.trod enc P w base C v c t cs=some (.agg (a.map fun s=> .lit (.string s)),p)):cs=a.map fun s=>Vl.string ⟨s.toArray⟩:=by
 cases c with
 |zero=>simp[DataW.trod]at h
 |succ c=>
  simp only[DataW.trod,y,q,r,Nat.mul_one]at h;split at h
  .rename_i D
   obtain⟨xs,f,A⟩:=Option.map_eq_some_iff.1 h
   have g:xs.map (·.1)=a.map fun s=>(DataW.lit (.string s):DataW H):=by
    have:=congrArg Prod.fst A;simpa using this
   have E:xs.length=n:=by simpa using Lib.mapM_length f
   have F:a.length=n:=by
    have:=congrArg List.length g;simp at this;omega
   apply List.ext_getElem?;intro i;by_cases hi:i<n
   .obtain⟨b,m,x⟩:=Lib.mapM_at f i i (by simp[hi])
    obtain⟨z,o,j,_⟩:=DataW.trod_string u x
    have l:cs[i]? =some (.string z):=by
     have:=congrArg (·[0]?) o;simpa[List.getElem?_take,List.getElem?_drop]using this
    have d:(xs.map (·.1))[i]? =some (DataW.lit (.string z.data.toList):DataW H):=by simp[m,j]
    rw[g]at d;simp only[List.getElem?_map,Option.map_eq_some_iff,DataW.lit.injEq,Lit.string.injEq]at d;obtain⟨G,B,k⟩:=d;simp[l,B,k]
   .rw[List.getElem?_eq_none Zj,List.getElem?_eq_none (by simp;omega)]
  .cases h
theorem jf{W:Wl}{rest:List (String×DataW Unit)}(h:laidMet prog (("affidavit/patch.words",Rows.laid_affidavit_patch_words)::rest) W):dM W:=by
 obtain⟨k,⟨i,l,cs,g,p,q,c,d,f,b,_,_⟩,_⟩:=h;obtain rfl:=Q5 ((show prog.globalNamed "affidavit/patch.words" =some 0 by kernel_rfl).symm.trans c);obtain rfl:=Q5 ((show(prog.globals[0]?).map (·.type)=some 187 by kernel_rfl).symm.trans d);have a:cs.toList=([[97,100,100],[114,101,109,111,118,101],[114,101,112,108,97,99,101],[109,111,118,101],[99,111,112,121],[116,101,115,116]]:List (List UInt8)).map fun s=>Vl.string ⟨s.toArray⟩:=iK underlying187 underlying9 F4 Yb b
 intro m j;have e:W.var? prog "affidavit/patch.words" =some (([[97,100,100],[114,101,109,111,118,101],[114,101,112,108,97,99,101],[109,111,118,101],[99,111,112,121],[116,101,115,116]]:List (List UInt8)).map fun s=>Vl.string ⟨s.toArray⟩).toArray:=by rw[f,<-a]
 have:=World.var?_cell (show prog.globalNamed "affidavit/patch.words" =some 0 by kernel_rfl) e m;rw[this];have:m=0\/m=1\/m=2\/m=3\/m=4\/m=5:=Zj
 rcases this with rfl|rfl|rfl|rfl|rfl|rfl<;>rfl
def iQ:List (String×DataW Unit):=Rows.patchBackUptoRow.laid
theorem iX(W:Wl):laidMetH prog iQ W=laidMet prog [("math/bits.deBruijn32tab",Rows.laid_math_bits_deBruijn32tab),("math/bits.deBruijn64tab",Rows.laid_math_bits_deBruijn64tab),("internal/strconv.uint64pow10",Lib.tabData .u64 Lib.pow10Tab),("unicode/utf8.acceptRanges",Rows.laid_unicode_utf8_acceptRanges),("strconv.ErrRange",Rows.laid_strconv_ErrRange),("strconv.ErrSyntax",Rows.laid_strconv_ErrSyntax),("affidavit/patch.words",Rows.laid_affidavit_patch_words),("unicode/utf8.first",Rows.laid_unicode_utf8_first)] W:=Yb
theorem jv{W:Wl}(h:laidMetH prog iQ W)(i:W.ShapedOpen prog):Br W/\dM W/\10<=W.heap.size:=by
 rw[iX]at h;have b:=laidMet.tail (laidMet.tail h);have c:=laidMet.tail (laidMet.tail b);have d:=laidMet.tail c;have y:=jf (laidMet.tail d);have B:=Lib.tabIs_of_head (g:=3) Yb Yb underlying343 underlying25 Yb Yb b;obtain⟨C,E,w,_⟩:=laid_sentinel (g:=7) c Yb Yb underlying35 Ur underlying394 underlying396 rfl rfl underlying9 Yb Yb;obtain⟨D,F,x,_⟩:=laid_sentinel (g:=6) d Yb Yb underlying35 Ur underlying394 underlying396 rfl rfl underlying9 Yb Yb;obtain⟨z,A⟩:=i;obtain⟨cs,l,e,r⟩:=z 2 _ _ (by rw[N4];decide) Yx;obtain⟨ts,s,_,j⟩:=r WU;obtain rfl:=Q5 (U9.symm.trans s);obtain⟨v,f⟩:∃v,cs[0]? =some v:=⟨cs[0]'(by rw[e];decide),Array.getElem?_eq_getElem (by rw[e];decide)⟩
 obtain⟨u,t,a⟩:=j 0 v f;obtain rfl:u=3:=by simpa using t.symm
 have p:∃m,v= .int .i64 m:=by
  unfold Cell.ok at a;rw[underlying3]at a
  cases v with
  |int k n=>exact⟨n,by rw[a.1]⟩
  |_=>exact a.elim
 obtain⟨m,rfl⟩:=p;refine⟨⟨⟨m, ?_⟩,B,⟨_,_,x⟩,⟨_,_,w⟩⟩,y, ?_⟩
 .exact UM l f
 .obtain⟨o,_,q,_⟩:=A 14 (by rw[N4];decide) (by rw[SP];decide)
  have:=(Array.getElem?_eq_some_iff.1 q).1;omega
def kf:DataW Unit->Array Vl
 | .agg l=>(l.flatMap fun| .lit (.string b)=>[Vl.string ⟨b.toArray⟩]|_=>[]).toArray
 |_=>#[]
noncomputable def ie(os:Os):Wl:=
 let N:=(World.settled prog os).heap.size
 let w0:=World.holding prog os ⟨#[.cells #[.string (Zd Rows.laid_strconv_ErrSyntax)] 396,.cells #[.string (Zd Rows.laid_strconv_ErrRange)] 396],#[],[]⟩
 let a:=TJ (TJ w0.heap 6 #[.iface 394 (.pointer (some ⟨N,0,none⟩))]) 7 #[.iface 394 (.pointer (some ⟨N+1,0,none⟩))]
 let b:=TJ (TJ a 8 (LU Rows.laid_math_bits_deBruijn32tab)) 9 (LU Rows.laid_math_bits_deBruijn64tab)
 let c:=TJ (TJ b 3 (LU Rows.laid_internal_strconv_uint64pow10)) 5 (LU Rows.laid_unicode_utf8_acceptRanges)
 {w0 with heap:=TJ (TJ c 4 (LU Rows.laid_unicode_utf8_first)) 0 (kf Rows.laid_affidavit_patch_words)}
theorem jj(os:Os)(args:Array Vl):laidMet prog iQ ((ie os).forCall (fun _ _=>0) ⟨#[],args,[]⟩).memory:=
 (LaidIn.of_run [8,9,3,5,7,N0+1,6,N0,0,4] 8 Yb Yb Yb Yb).met
end
section
open _root_.Go.Proofs.Tryz
open Go Go.RowKit Ptr Tree
theorem iv(s:BY)(w:Wl)(h:s.size<=16777216):Cl prog 91 #[nG s] w fun e w'=>e= nR (.bool (AD s).isNone)/\Chg w w' []:=by
 have a:=hZ (jm s w h);unfold gO at a
 cases c:AD s with
 |some ts=>
  rw[c]at a;clear c;go_enter func91,ntmps91
  go_wp2_with(go_at_call 79;refine a.o.mono ?_;rintro e i ⟨⟨j,rfl,_,_⟩,b⟩;have d:=hZ b;clear b)
  go_ret
  exact⟨rfl,d.o⟩
 |none=>
  rw[c]at a;clear c;go_enter func91,ntmps91
  go_wp2_with(go_at_call 79;refine a.o.mono ?_;rintro e i ⟨⟨k,y,f,rfl⟩,b⟩;have d:=hZ b;have g:(k==0)=false:=Qq.2 f;clear b f)
  go_ret
  exact⟨by show Ending.returned (.bool (k !=0))=_;rw[bne,g];rfl,d.o⟩
def ig:Array Vl:=#[nG ⟨#[]⟩,nG ⟨#[97,100,100]⟩,nG ⟨#[114,101,109,111,118,101]⟩,nG ⟨#[114,101,112,108,97,99,101]⟩,nG ⟨#[109,111,118,101]⟩,nG ⟨#[99,111,112,121]⟩,nG ⟨#[116,101,115,116]⟩]
theorem jB(k:Int)(h:1<=k/\k<=6)(w:Wl):Cl prog 93 #[nI nX k] w fun e w'=>e= nR (nG (Ec k.toNat))/\Chg w w' []:=by
 have:k=1\/k=2\/k=3\/k=4\/k=5\/k=6:=Zj
 clear h;have a:∀(w:Wl),(Instr.index 252 (nA ig) (nI nX 1)).run prog w= .ok (nG ⟨#[97,100,100]⟩) w:=fun _=>Yb
 have b:∀(w:Wl),(Instr.index 252 (nA ig) (nI nX 2)).run prog w= .ok (nG ⟨#[114,101,109,111,118,101]⟩) w:=fun _=>Yb
 have c:∀(w:Wl),(Instr.index 252 (nA ig) (nI nX 3)).run prog w= .ok (nG ⟨#[114,101,112,108,97,99,101]⟩) w:=fun _=>Yb
 have d:∀(w:Wl),(Instr.index 252 (nA ig) (nI nX 4)).run prog w= .ok (nG ⟨#[109,111,118,101]⟩) w:=fun _=>Yb
 have f:∀(w:Wl),(Instr.index 252 (nA ig) (nI nX 5)).run prog w= .ok (nG ⟨#[99,111,112,121]⟩) w:=fun _=>Yb
 have g:∀(w:Wl),(Instr.index 252 (nA ig) (nI nX 6)).run prog w= .ok (nG ⟨#[116,101,115,116]⟩) w:=fun _=>Yb
 unfold ig at a b c d f g
 rcases this with rfl|rfl|rfl|rfl|rfl|rfl
 all_goals
  go_enter func93,ntmps93
  go_wp2_with fail
  go_ret
  exact⟨rfl,Chg.refl _ _⟩
theorem Ba.lit(w:Wl)(cs:List Vl)(e:Ti)(sz n:Nat)(b:cs.length=n*sz)(a:n<=maxLen):Ba (w.alloc (nC cs.toArray e)) (nS (nM ⟨w.heap.size,0,nN⟩) n n) e sz n cs:=
 World.ownsRow_lit w cs.toArray n (Nat.zero_le _) a (by simpa using b)
end
section
open _root_.Go.Proofs.Tryz
open Go Go.Shelf Go.RowKit Go.Lib Tree
theorem lG(t:Tr)(F:Nat->Prop)(cs:List Vl)(d:BY)(w:Wl)(E:AL w F t cs)(C:(Aa t).keys.length<=4294967296):
  Cl prog 124 #[nA cs.toArray,nG d] w fun e w'=>e= nR (nI nX (eN (Aa t).keys d))/\Chg w w' []:=by
 obtain⟨H,I,x,G,xs,rfl,v,_⟩:=E.uni;obtain⟨ks,a⟩:=Ue ((Aa t).keys)
 rw[<-a]at v C|-;obtain⟨W,X,P,B⟩:=v.cell
 injection P with M N s
 subst M;subst s;rw[Jy]
 have K:=UD (∀i k,ks[i]? =nM k->∃b o,x=nM ⟨b,o,nN⟩/\w.cell? ⟨b,o+i,nN⟩=nM (nG k)) fun i k c=>by
  obtain⟨b,o,e,_,g⟩:=B i (nG k) (by simp[Ad,c]);exact⟨b,o,e,g⟩
 clear E v B a N
 generalize (Ab t).length=ln
 generalize (Aa t).sort=so
 generalize (Aa t).flag=fl
 generalize (Aa t).bits=bi
 generalize (Aa t).text=tx
 obtain⟨n,u⟩:=Ue ks.length
 have A:=hZ u;rw[<-u]at C|-;clear u;go_enter func124,ntmps124
 go_wp2_with fail
 obtain⟨w0,l⟩:=Ue (w.alloc (nC #[nI nX so,.bool fl,nI .u64 bi,nG tx,nS H ln I,nS x n G] 29))
 have m:Hid (Chg w w0 []):=by rw[l];exact hZ ((Chg.refl w []).alloc _)
 have J:Hid (Ac w0 w.heap.size [nI nX so,.bool fl,nI .u64 bi,nG tx,nS H ln I,nS x n G] 29):=by rw[l];exact hZ (Ac.new w _ _)
 rw[<-l];clear l;obtain⟨Y,T,Z,y1,y2,y3,y4,y5⟩:=Ac.cells6 J.o;go_loopw [5] (fun y wr=>∃i:Nat,i<=n/\y= nI nX i/\w0=wr/\∀j k,j<i->ks[j]? =nM k->k≠d) (fun y _=>n-(intOf y).toNat)
 case atStart=>exact⟨0,Zj,rfl,rfl,fun j k h=>absurd h (Nat.not_lt_zero j)⟩
 case round=>
  obtain⟨i,U,rfl,rfl,D⟩:=hrel;have r:=hZ D;clear D;by_cases V:i<n
  .obtain⟨k,c⟩:∃k,ks[i]? =nM k:=⟨_,Q9 (by have:=A.o;omega)⟩
   obtain⟨b,o,rfl,g⟩:=K.o i k c;have S:=m.o.keeps g;have z:=hZ c;clear c g;by_cases a:k=d
   .have O:(k.toList==d.toList)=true:=by rw[a];simp
    have p:=hZ a;clear a;go_wp2_with fail
    go_ret
    exact⟨by rw[eO (p.o▸z.o) r.o];rfl,m.o⟩
   .have s:¬k.toList=d.toList:=fun e=>a (by rw[Lib.toList_data,Lib.toList_data]at e;exact ByteArray.ext (Array.toList_inj.1 e))
    have O:(k.toList==d.toList)=false:=by simpa using s
    have p:=hZ a;clear a;go_wp2_with fail
    go_roundw
    case rel=>
     refine⟨i+1,Zj,by go_num,trivial,fun j q Q f=> ?_⟩;by_cases R:j=i
     .subst R
      have L:=z.o;rw[L]at f
      injection f with f
      rw[<-f];exact p.o
     .exact r.o j q Zj f
    case measure=>simp[intOf];omega
  .obtain rfl:i=n:=by omega
   go_wp2_with fail
   go_ret
   exact⟨by rw[eL (fun j k Q c=>r.o j k (by have:=A.o;omega) c)];rfl,m.o⟩
theorem lC(w:Wl)(x:Nat)(c:x<256):(Go.convert 196 9 (nS (nM ⟨w.heap.size,0,nN⟩) 1 1)).run prog (w.alloc (nC #[nI .u8 x] 5))= .ok (nG ⟨#[UInt8.ofNat x]⟩) (w.alloc (nC #[nI .u8 x] 5)):=by
 have h:=AK.lit w [nI .u8 x] 5 1 rfl ZM;have a:=AK.convert (P:=prog) (xs:=[(x:Int)]) h _ _ underlying196 underlying5 underlying9
 have b:strOfNums [(x:Int)]=⟨#[UInt8.ofNat x]⟩:=by
  have:=jD [UInt8.ofNat x];simp only[List.map_cons,List.map_nil]at this;rw[show((UInt8.ofNat x).toNat:Int)=(x:Int) by simp;omega]at this;exact this
 rw[b]at a;exact a
theorem lH(n:Nat)(w:Wl)(k:n<100000):
  Cl prog 72 #[nI nX n] w fun e w'=>e= nR (nG ⟨(Go.Lib.decDigits n).toArray⟩)/\Chg w w' []:=by
 have r:(decDigits n).length<=11:=by have:=fX n k;simpa[ByteArray.size]using this
 go_enter func72,ntmps72
 go_wp2_with fail
 go_loopw [0,3] (fun f l wr=>∃(m:Nat) (s:List UInt8),m<=n/\f= nI nX m/\l= nG ⟨s.toArray⟩/\decDigits n=decDigits m++s/\Chg w wr []) (fun f _ _=>(intOf f).toNat)
 case atStart=>exact⟨n,[],Zj,rfl,rfl,Zh,Chg.refl _ _⟩
 case round=>
  obtain⟨m,s,p,rfl,rfl,d,j⟩:=hrel
  have q:s.length<=11:=by
   have:=congrArg List.length d;rw[Qk]at this;omega
  have h:=hZ d;have g:=hZ j;clear d j;by_cases o:9<m
  .have b:=lC wr (48+m % 10) Zj
   rw[show((48+m % 10:Nat):Int)=48+(m:Int) % 10 by omega]at b;obtain⟨i,a⟩:=Ue (UInt8.ofNat (48+m % 10))
   have c:=hZ a;rw[<-a]at b;clear a;go_wp2_with fail
   go_roundw
   case rel=>
    refine⟨m/10,i::s,Zj,by go_num, ?_, ?_,g.o.alloc _⟩
    .congr 1
    .rw[h.o,decDigits.eq_1 m,dif_neg Zj,List.append_assoc,c.o];rfl
   case measure=>simp[intOf];omega
  .have b:=lC wr (48+m) Zj
   rw[show((48+m:Nat):Int)=48+(m:Int) by omega]at b;obtain⟨i,a⟩:=Ue (UInt8.ofNat (48+m))
   have c:=hZ a;rw[<-a]at b;clear a;go_wp2_with fail
   go_ret
   refine⟨?_,g.o.alloc _⟩;rw[h.o,decDigits.eq_1 m,dif_pos Zj,<-c.o];rfl
end
section
open _root_.Go.Proofs.Tryz
open Go Go.Shelf Go.RowKit Go.Lib Tree Ptr
theorem AL.kid{w:Wl}{F:Nat->Prop}{t:Tr}{l:Option Addr}{xs:List Vl}(r:LP w F l xs)(x:Aq w F (Ab t) xs){i:Nat}{u:Tr}(s:(Ab t)[i]? =nM u):
  ∃b o f g a d,l=nM ⟨b,o,nN⟩/\AL w F u (vC (Aa u).sort (Aa u).flag (Aa u).bits (Aa u).text (nS f (Ab u).length g) (nS a (Aa u).keys.length d))/\
   ∀j v,(vC (Aa u).sort (Aa u).flag (Aa u).bits (Aa u).text (nS f (Ab u).length g) (nS a (Aa u).keys.length d))[j]? =nM v->w.cell? ⟨b,o+i*6+j,nN⟩=nM v:=by
 obtain⟨c,h,k⟩:=x.get i u s;have n:=h;obtain⟨f,g,a,d,ys,rfl,_⟩:=h.uni
 rcases r with m|⟨b,o,e,_,p⟩
 .have:=k 0 _ rfl
  rw[m]at this;cases this
 .exact⟨b,o,f,g,a,d,e,n,fun j v q=>by rw[show o+i*6+j=o+(6*i+j) by omega];exact p _ _ (k j v q)⟩
def ld(ks:List BY)(l:List Tr)(a:BY):Nat×BY:=
 if C4 ks a=true then(match eS (l.getD (A5 ks a) .null)with|some s=>(0,s)|none=>(2,Dz))else(1,Dz)
theorem mb(u:Tr):(((Aa u).sort:Int)=4/\eS u=nM (Aa u).text)\/(((Aa u).sort:Int)≠4/\eS u=nN):=by
 cases u<;>simp[Aa,eS]
theorem l0(ks:List BY)(l:List Tr)(F:Nat->Prop)(cs:List Vl)(a:BY)(w:Wl)(E:AL w F (.obj ks l) cs)(S:∀b,F b->b<w.heap.size)(y:ks.length<=4294967296):
  Cl prog 123 #[nA cs.toArray,nG a] w fun e w'=>e= nR (nT #[nG (ld ks l a).2,nI nX (ld ks l a).1])/\Chg w w' []:=by
 have f:=UD (∀p,Chg w p []->Cl prog 124 #[nA cs.toArray,nG a] p fun e w'=>e= nR (nI nX (eN ks a))/\Chg p w' []) fun p T=>lG (.obj ks l) F cs a p (AL.kept (T.keepsF S) (fun _ h=>h) _ _ E) y
 simp only[AL]at E;obtain⟨la,N,L,M,xs,rfl,r,_,A,G⟩:=E;rw[Jy]at f|-;unfold ld;by_cases i:C4 ks a=true
 .have s:=Dk (Cp.1 i)
  have k:eN ks a=(A5 ks a:Int):=by unfold eN;rw[Qr i]
  rw[k]at f;rw[Qr i];obtain⟨u,D⟩:∃u,l[A5 ks a]? =nM u:=⟨_,Q9 (by rw[<-r];exact s)⟩
  obtain⟨b,o,ae,af,ab,ad,rfl,_,x⟩:=AL.kid (t:= .obj ks l) A G D;have I:l.getD (A5 ks a) .null=u:=by rw[List.getD_eq_getElem?_getD,D];rfl
  rw[I];have j:=x 0 _ rfl;have c3:=x 3 _ rfl;rw[Nat.add_zero]at j;rw[r]at s;obtain⟨pl,K⟩:=Ue (A5 ks a)
  rw[<-K]at f j c3 s;obtain⟨n,z⟩:=Ue l.length
  obtain⟨H,J⟩:=Ue ks.length
  rw[<-z,<-J]at f|-;rw[<-z]at s;obtain⟨O,B⟩:=Ue (((Aa u).sort:Int):Int)
  obtain⟨tx,C⟩:=Ue ((Aa u).text)
  have g:=mb u;rw[<-B,<-C]at g;rw[<-B]at j;rw[<-C]at c3;have C0:=hZ j;have C3:=hZ c3;clear k i D x I A G r y z J K B C j c3
  rcases g with⟨q,g⟩|⟨q,g⟩
  .rw[g]
   have q:O=4:=Zj
   subst q;clear g;go_enter func123,ntmps123
   go_wp2_with((go_at_call 124;refine(f.o _ (by exact cg cR)).mono ?_;rintro e m ⟨rfl,c⟩;have d:=UD (Chg w m []) (ct cR c);have v:=hZ ((Ac.new w [nI nX 6,.bool false,nI .u64 0,nG Dz,nS (nM ⟨b,o,nN⟩) n N,nS L H M] 29).kept c);obtain⟨U,R,V,W,X,Y,Z,y5⟩:=Ac.cells6 v.o;have P:=d.o.keeps C0.o;have Q:=d.o.keeps C3.o;clear c))
   go_ret2
   exact⟨rfl,d.o⟩
  .rw[g]
   have aa:(O !=4)=true:=bne_iff_ne.2 (by simpa using q);clear g;go_enter func123,ntmps123
   go_wp2_with((go_at_call 124;refine(f.o _ (by exact cg cR)).mono ?_;rintro e m ⟨rfl,c⟩;have d:=UD (Chg w m []) (ct cR c);have v:=hZ ((Ac.new w [nI nX 6,.bool false,nI .u64 0,nG Dz,nS (nM ⟨b,o,nN⟩) n N,nS L H M] 29).kept c);obtain⟨U,R,V,W,X,Y,Z,y5⟩:=Ac.cells6 v.o;have P:=d.o.keeps C0.o;have Q:=d.o.keeps C3.o;clear c))
   go_ret2
   exact⟨rfl,d.o⟩
 .have k:eN ks a= -1:=by unfold eN;rw[Qs i]
  rw[k]at f;rw[Qs i];clear i k A G r y
  generalize l.length=n at*
  generalize ks.length=H at*
  go_enter func123,ntmps123
  go_wp2_with((go_at_call 124;refine(f.o _ (by exact cg cR)).mono ?_;rintro e m ⟨rfl,c⟩;have d:=UD (Chg w m []) (ct cR c);clear c))
  go_ret2
  exact⟨rfl,d.o⟩
def lS(r:ap)(w:Wl)(e:Ending)(w':Wl):Prop:=(match r with
 | .no k q=>∃cs:List Vl,(∀u∈cs,u.oneCell'=true)/\cs.length=4/\e= nR (nT #[nA cs.toArray,nI nX k,nG q])
 | .yes o=>∃sv ys G,e= nR (nT #[nA (BJ o.toI sv).toArray,nI nX 0,nG ⟨#[]⟩])/\As w' sv 6 o.toI.steps.length ys/\SE G sv/\Cr w' G o.toI.steps ys/\∀b,G b->w.heap.size<=b/\b<w'.heap.size)/\Chg w w' []
structure mH(w:Wl)(A R M O:Nat)(vc:List Vl)(oc:List Vl)(wr:Wl):Prop where
 kva:Ac wr A vc 29
 kvr:Ac wr R gj 42
 kvm:Ac wr M [nG SB,nG Fj,nG Oa] 238
 kvo:Ac wr O oc 42
 chg:Chg w wr []
theorem mH.kept{w wr w':Wl}{A R M O:Nat}{c b:List Vl}(h:mH w A R M O c b wr)(a:Chg wr w' []):mH w A R M O c b w':=
 ⟨h.kva.kept a,h.kvr.kept a,h.kvm.kept a,h.kvo.kept a,h.chg.trans a⟩
structure mI(w:Wl)(A R M O:Nat):Prop where
 a:w.heap.size<=A
 r:A<R
 m:R<M
 o:M<O
theorem mH.set{w wr:Wl}{A R M O:Nat}{c b:List Vl}(h:mH w A R M O c b wr)(a:mI w A R M O)(j:Nat)(v:Vl):mH w A R M O c (b.set j v) (wr.setCell ⟨O,j,nN⟩ v):=by
 have d:=a.a;have e:=a.r;have f:=a.m;have g:=a.o;exact⟨h.kva.set_other _ _ (by simp;omega),h.kvr.set_other _ _ (by simp;omega),h.kvm.set_other _ _ (by simp;omega),h.kvo.set j v,h.chg.setCell _ _ (by simp;omega)⟩
def mA(ks:List BY)(l:List Tr)(p:BY):Nat->Nat->BY->BY->Prop
 |0,k,pa,a=>k=0/\pa=Dz/\a=Dz
 |1,k,pa,a=>∃s,E4 ks l p SB= .yes s/\Ob s≠0/\k=Ob s/\pa=Dz/\a=Dz
 |2,k,pa,a=>∃s,E4 ks l p SB= .yes s/\Ob s≠0/\k=Ob s/\RL ks l p Fj= .yes pa/\a=Dz
 |_,k,pa,a=>∃s,E4 ks l p SB= .yes s/\Ob s≠0/\k=Ob s/\RL ks l p Fj= .yes pa/\AO k=true/\RL ks l p Oa= .yes a
theorem lD(ks:List BY)(l:List Tr)(p a:BY):
  (ld ks l a=(1,Dz)/\E4 ks l p a= .no 4 p)\/(ld ks l a=(2,Dz)/\E4 ks l p a= .no 5 (X1 p a))\/∃s,ld ks l a=(0,s)/\E4 ks l p a= .yes s:=by
 unfold ld E4;by_cases h:C4 ks a=true
 .rw[Qr h,Qr h]
  cases l.getD (A5 ks a) .null<;>simp[eS]
 .rw[Qs h,Qs h]
  exact .inl ⟨rfl,rfl⟩
theorem l9{j:Nat}(a:1<=j/\j<=6){s:BY}:Ec j=s↔Ob s=j:=by
 constructor
 .intro h;rw[<-h];exact S9 a
 .intro h
  unfold Ob at h;have:j=1\/j=2\/j=3\/j=4\/j=5\/j=6:=Zj
  (repeat' split at h)<;>first|(rename_i e;rw[e];congr 1;omega)|omega
def mD(i:Nat):BY:=if i=0 then SB else if i=1 then Fj else Oa
theorem l6{ks:List BY}{l:List Tr}{p a:BY}{n:Nat}{q:BY}(h:E4 ks l p a= .no n q):RL ks l p a= .no n q:=by unfold RL;rw[h]
theorem mq{ks:List BY}{l:List Tr}{p a s:BY}(h:E4 ks l p a= .yes s)(b:AD s=nN):RL ks l p a= .no 171 (X1 p a):=by unfold RL;rw[h];simp[b]
theorem mz{ks:List BY}{l:List Tr}{p c s:BY}(h:E4 ks l p c= .yes s)(b:(AD s).isNone=false):RL ks l p c= .yes s:=by
 unfold RL;rw[h]
 cases a:AD s with
 |none=>rw[a]at b;cases b
 |some ts=>simp[a]
theorem mc{ks:List BY}{l:List Tr}{p:BY}{i k n:Nat}{pa f q:BY}(hi:i<3)(h:mA ks l p i k pa f)(b:i=2->AO k=true)(a:(if i=0 then E4 ks l p SB else RL ks l p (mD i))= .no n q):Xi ks l p= .no n q:=by
 have:i=0\/i=1\/i=2:=Zj
 unfold Xi
 rcases this with rfl|rfl|rfl
 .have a:E4 ks l p SB= .no n q:=a
  rw[a]
 .obtain⟨s,c,d,e,_⟩:=h
  have a:RL ks l p Fj= .no n q:=a;rw[c];simp only[d,if_false,a]
 .obtain⟨s,c,d,e,g,_⟩:=h
  have a:RL ks l p Oa= .no n q:=a;have b:=b rfl;rw[e]at b;rw[c];simp only[d,if_false,g,b,if_true,a]
theorem lU{ks:List BY}{l:List Tr}{p s pa a:BY}{k:Nat}(c:E4 ks l p SB= .yes s)(d:Ob s≠0)(e:k=Ob s)(f:RL ks l p Fj= .yes pa)(g:AO k=true->RL ks l p Oa= .yes a)(h:AO k=false->a=Dz):
  Xi ks l p=if AN k=true then(if C4 ks SZ=true then .yes ⟨k,pa,a,Ai (l.getD (A5 ks SZ) .null)⟩else .no 4 p)else .yes ⟨k,pa,a,[]⟩:=by
 subst e;unfold Xi;rw[c];simp only[d,if_false,f]
 cases b:AO (Ob s)with
 |true=>simp only[if_true,g b]
 |false=>simp only[Bool.false_eq_true,if_false,h b]
theorem mm{ks:List BY}{l:List Tr}{p e s:BY}(h:E4 ks l p e= .yes s)(c:ks.length=l.length): .text s∈l:=by
 unfold E4 at h;split at h
 .rename_i b
  have d:=Dk (Cp.1 b);split at h
  .rename_i f a
   injection h with h
   subst h;rw[List.getD_eq_getElem?_getD,Q9 (by rw[<-c];exact d),Option.getD_some]at a;rw[<-a];exact List.getElem_mem _
  .cases h
 .cases h
theorem mf{a b c d:Vl}{x:Option Addr}{n m:Nat}(h:∀u∈[a,b,c,d],u.oneCell'=true):∀u∈[a,b,c,Vl.slice x n m],u.oneCell'=true:=by
 intro u e;simp only[Qh,List.not_mem_nil,or_false]at e
 rcases e with rfl|rfl|rfl|rfl
 .exact h _ Zh
 .exact h _ Zh
 .exact h _ Zh
 .rfl
theorem four{cs:List Vl}(h:cs.length=4):∃a b c d,cs=[a,b,c,d]:=by
 match cs,h with
 |[a,b,c,d],_=>exact⟨a,b,c,d,rfl⟩
theorem kS{w b c:Wl}{A R M O:Nat}(a:mI w A R M O)(h:Chg w b [])(d:Chg b c [R]):Chg w c []:=
 h.fresh d (fun g e=>by simp at e;have:=a.a;have:=a.r;omega)
theorem l7(ks:List BY)(l:List Tr)(F:Nat->Prop)(cs:List Vl)(p:BY)(w:Wl)(hv:AL w F (.obj ks l) cs)(hF:∀b,F b->b<w.heap.size)(hp:p.size<=1000)(hf:Bt (.obj ks l)):
  Cl prog 73 #[nA cs.toArray,nG p] w (lS (Xi ks l p) w):=by
 have bv:ks.length<=65536:=by have:=hf.many;have:=hf.good.1;have e:=hv;simp only[AL]at e;obtain⟨_,_,_,_,_,_,E,_⟩:=e;simp only[Ab]at*;omega
 have au:=UD (∀x a,Chg w a []->Cl prog 123 #[nA cs.toArray,nG x] a fun e w'=>e= nR (nT #[nG (ld ks l x).2,nI nX (ld ks l x).1])/\Chg a w' []) fun x a B=>l0 ks l F cs x a (AL.kept (B.keepsF hF) (fun _ h=>h) _ _ hv) (fun b C=>Q6 (hF b C) B.size) Zj
 have ag:=UD (∀a,Chg w a []->Cl prog 124 #[nA cs.toArray,nG SZ] a fun e w'=>e= nR (nI nX (eN ks SZ))/\Chg a w' []) fun a B=>lG (.obj ks l) F cs SZ a (AL.kept (B.keepsF hF) (fun _ h=>h) _ _ hv) (by show ks.length<=_;omega)
 have bp:=hZ (fY (fun u Q=>gd hf Q));have bl:=hZ hf;have bB:=hZ hv;have aY:=hZ hF;simp only[AL]at hv;obtain⟨la,lc,ka,kc,xs,rfl,a9,_,hr,bc⟩:=hv;have aG:=hZ a9;have bo:=hZ hr;have bq:=hZ bc;rw[Jy]at au ag|-;obtain⟨n,aO⟩:=Ue l.length
 obtain⟨kn,ba⟩:=Ue ks.length
 have bn:=hZ aO;rw[<-aO,<-ba]at au ag|-;have bD:p.size<=1000:=hp;clear a9 hr bc aO ba hF hf bv hp;go_enter func73,ntmps73
 go_wp2_with fail
 obtain⟨w4,aS⟩:=Ue ((((w.alloc (nC #[nI nX 6,.bool false,nI .u64 0,nG Dz,nS la n lc,nS ka kn kc] 29)).alloc (nC gj.toArray 42)).alloc (nC #[nG SB,nG Fj,nG Oa] 238)).alloc (nC gj.toArray 42))
 have aj:mH w w.heap.size (w.heap.size+1) (w.heap.size+1+1) (w.heap.size+1+1+1) [nI nX 6,.bool false,nI .u64 0,nG Dz,nS la n lc,nS ka kn kc] gj w4:=by
  rw[aS];exact⟨(((Ac.new w _ _).alloc _).alloc _).alloc _,((BD _ _ _ _ _ rfl Zh).alloc _).alloc _,(BD _ _ [nG SB,nG Fj,nG Oa] _ _ rfl Zh).alloc _,BD _ _ _ _ _ rfl Zh,((((Chg.refl w []).alloc _).alloc _).alloc _).alloc _⟩
 change Code.wp _ _ _ _ ((((w.alloc (nC #[nI nX 6,.bool false,nI .u64 0,nG Dz,nS la n lc,nS ka kn kc] 29)).alloc (nC gj.toArray 42)).alloc (nC #[nG SB,nG Fj,nG Oa] 238)).alloc (nC gj.toArray 42));rw[<-aS];have ax:mI w w.heap.size (w.heap.size+1) (w.heap.size+1+1) (w.heap.size+1+1+1):=⟨Zj,Zj,Zj,Zj⟩;obtain⟨O,hO⟩:=Ue (w.heap.size+1+1+1)
 obtain⟨M,hM⟩:=Ue (w.heap.size+1+1)
 obtain⟨R,hR⟩:=Ue (w.heap.size+1)
 obtain⟨A,hA⟩:=Ue w.heap.size
 rw[<-hO,<-hM,<-hR]at aj ax|-;rw[<-hA]at aj ax|-;have aj:mH w A R M O [nI nX 6,.bool false,nI .u64 0,nG Dz,nS la n lc,nS ka kn kc] [nI nX 0,nG Dz,nG Dz,nS nN 0 0] w4:=by rw[hA];rw[hA]at aj;exact aj
 have g:Hid (mI w A R M O):=by rw[hA];rw[hA]at ax;exact hZ ax
 have aX:=hZ aj;clear aS hO hM hR hA aj ax;go_loopw [9] (fun v9 wr=>∃(i k:Nat) (pa r:BY),i<=3/\v9= nI nX i/\mA ks l p i k pa r/\mH w A R M O [nI nX 6,.bool false,nI .u64 0,nG Dz,nS la n lc,nS ka kn kc] [nI nX k,nG pa,nG r,nS nN 0 0] wr) (fun v9 _=>3-(intOf v9).toNat)
 case atStart=>exact⟨0,0,Dz,Dz,Zj,rfl,⟨rfl,rfl,rfl⟩,aX.o⟩
 case round=>
  obtain⟨i,k,pa,r,hi,rfl,ap,h4⟩:=hrel;have S:=hZ h4;obtain⟨aE,aB,y0,y1,y2,y3,y4,y5⟩:=Ac.cells6 h4.kva;obtain⟨aT,aI,x0,x1,x2,x3⟩:=Ac.cells4 h4.kvo;have m0:wr.cell? ⟨M,0,nN⟩=nM (nG SB):=h4.kvm.cell 0;have m1:wr.cell? ⟨M,1,nN⟩=nM (nG Fj):=h4.kvm.cell 1;have m2:wr.cell? ⟨M,2,nN⟩=nM (nG Oa):=h4.kvm.cell 2;have bj:=h4.kvm.lt;clear h4 aX;by_cases aJ:(i=2/\AO k=false)\/i=3
  .have hs:∃s,E4 ks l p SB= .yes s/\Ob s≠0/\k=Ob s/\RL ks l p Fj= .yes pa/\(AO k=true->i=3/\RL ks l p Oa= .yes r)/\(AO k=false->i=2/\r=Dz):=by
    rcases aJ with⟨rfl,Q⟩|rfl
    .obtain⟨s,W,X,Y,g4,Z⟩:=ap
     exact⟨s,W,X,Y,g4,fun h=>(by rw[Q]at h;cases h),fun _=>⟨rfl,Z⟩⟩
    .obtain⟨s,W,X,Y,g4,Z,g6⟩:=ap
     exact⟨s,W,X,Y,g4,fun _=>⟨rfl,g6⟩,fun h=>(by rw[Z]at h;cases h)⟩
   obtain⟨s,W,X,Y,g4,Z,g6⟩:=hs;have aM:=gg s;have al:=hZ (lU W X Y g4 (fun h=>(Z h).2) (fun h=>(g6 h).2));have aZ:=hZ fun h=>(Z h).1
   have a0:=hZ fun h=>(g6 h).1
   obtain⟨oc,J⟩:=Ue ([nI nX k,nG pa,nG r,nS nN 0 0]:List Vl)
   have aq:oc.length=4:=by rw[J];rfl
   have ai:=UD (∀u∈oc,u.oneCell'=true) (by rw[J];exact Dx ⟨k,pa,r,[]⟩ nN 0 0);rw[<-J]at S;obtain⟨K,L,E,V,rfl⟩:=four aq;have av:=hZ J;clear J aq;have bs:k=1\/k=3\/k=6\/k=2\/k=4\/k=5:=Zj
   obtain⟨iv,aa⟩:=Ue ((i:Int):Int)
   obtain⟨kv,af⟩:=Ue ((k:Int):Int)
   rw[<-aa];rw[<-af]at x0;have ah:=hZ af;clear W X Y g4 Z g6 aJ ap aM af au
   rcases bs with rfl|rfl|rfl|rfl|rfl|rfl
   all_goals
    first
     |(obtain rfl:=a0.o rfl;have e:iv=2:=aa;subst e)
     |(obtain rfl:=aZ.o rfl;have e:iv=3:=aa;subst e)
    clear aa aZ a0
   all_goals
    first
     |(have e:kv=1:=ah.o;subst e)
     |(have e:kv=2:=ah.o;subst e)
     |(have e:kv=3:=ah.o;subst e)
     |(have e:kv=4:=ah.o;subst e)
     |(have e:kv=5:=ah.o;subst e)
     |(have e:kv=6:=ah.o;subst e)
    clear ah
   rotate_left 3
   iterate 3
    .have D:Hid (Xi ks l p= .yes ⟨_,pa,r,[]⟩):=al
     clear al y0 y1 y2 y3 y4 y5 m0 m1 m2 aE aB bj
     go_wp2_with(first
      |(refine Bp rfl _ _ rfl O ZN 42 [K,L,E,V] (by exact S.o.kvo) _ underlying42 rfl A0 ?_)
      |(refine Ae rfl _ _ _ rfl R [K,L,E,V] ZN ZN 42 gj (by exact S.o.kvr) A0 rfl ai.o ?_;intro w5 ae H I;have ab:=hZ H;have y:=hZ I;clear H I ae))
     refine bodyPost_ret (DN rfl _ _ R 42 [K,L,E,V] _ rfl ab.o underlying42 rfl A0) rfl ?_;rw[D.o,av.o];exact⟨⟨nS nN 0 0,[],fun _=>False,rfl,As.nil _ 6,(fun b o n c e=>by cases e),rfl,fun b (C:False)=>C.elim⟩,kS g.o S.o.chg y.o⟩
   all_goals
    by_cases hh:C4 ks SZ=true
    .have D:=UD (Xi ks l p= .yes ⟨_,pa,r,Ai (l.getD (A5 ks SZ) .null)⟩) (al.o.trans ((Qr rfl).trans (Qr hh)))
     have aw:eN ks SZ=(A5 ks SZ:Int):=by unfold eN;rw[Qr hh]
     rw[aw]at ag;have aP:=Dk (Cp.1 hh);obtain⟨u,Q⟩:∃u,l[A5 ks SZ]? =nM u:=⟨_,Q9 (by rw[<-aG.o];exact aP)⟩
     obtain⟨b,o,bh,bi,bf,bg,rfl,bd,ak⟩:=AL.kid (t:= .obj ks l) bo.o bq.o Q;have a7:l.getD (A5 ks SZ) .null=u:=by rw[List.getD_eq_getElem?_getD,Q];rfl
     rw[a7]at D;have aC:Bt u:=gd bl.o (Qi Q)
     have a3:=UD (∀a,Chg w a []->Cl prog 46 #[nA (vC (Aa u).sort (Aa u).flag (Aa u).bits (Aa u).text (nS bh (Ab u).length bi) (nS bf (Aa u).keys.length bg)).toArray] a (mg u a)) fun a B=>
      lZ u F _ a (Ar aC.fits).1 (fun s hs=>(Uy u aC.good aC.fits s hs).keys) (AL.kept (B.keepsF aY.o) (fun _ h=>h) _ _ bd) (fun b C=>Q6 (aY.o b C) B.size)
     rw[Jy]at a3;have c0:=ak 0 _ rfl;have c1:=ak 1 _ rfl;have c2:=ak 2 _ rfl;have c3:=ak 3 _ rfl;have c4:=ak 4 _ rfl;have c5:=ak 5 _ rfl;rw[Nat.add_zero]at c0;rw[aG.o,<-bn.o]at aP;obtain⟨pl,bb⟩:=Ue (A5 ks SZ)
     rw[<-bb]at ag c0 c1 c2 c3 c4 c5 aP;have HC:=UD (∀a,Chg w a []->a.cell? ⟨b,o+pl*6,nN⟩=nM (nI nX (Aa u).sort)/\a.cell? ⟨b,o+pl*6+1,nN⟩=nM (.bool (Aa u).flag)/\a.cell? ⟨b,o+pl*6+2,nN⟩=nM (nI .u64 (Aa u).bits)/\a.cell? ⟨b,o+pl*6+3,nN⟩=nM (nG (Aa u).text)/\a.cell? ⟨b,o+pl*6+4,nN⟩=nM (nS bh (Ab u).length bi)/\a.cell? ⟨b,o+pl*6+5,nN⟩=nM (nS bf (Aa u).keys.length bg)) fun a B=>⟨B.keeps c0,B.keeps c1,B.keeps c2,B.keeps c3,B.keeps c4,B.keeps c5⟩
     have bA:=hZ (Ju u);clear aw hh Q ak a7 bd aC bb c0 c1 c2 c3 c4 c5 al
     generalize (Ab u).length=un at*
     generalize (Aa u).keys.length=ukn at*
     generalize (Aa u).text=utx at*
     generalize (Aa u).flag=ufl at*
     generalize ((Aa u).sort:Int)=uso at*
     generalize ((Aa u).bits:Int)=ubi at*
     go_wp2_with(first
      |(go_at_call 124;refine(ag.o _ (by exact cg S.o.chg)).mono ?_;rintro e U ⟨rfl,N⟩;have d:=hZ (S.o.kept (ct cR N));clear y0 y1 y2 y3 y4 y5 aE aB;obtain⟨aE,aB,y0,y1,y2,y3,y4,y5⟩:=Ac.cells6 d.o.kva;obtain⟨c0,c1,c2,c3,c4,c5⟩:=HC.o U d.o.chg;clear N)
      |(go_at_call 46;refine(a3.o _ (by exact cg d.o.chg)).mono ?_;rintro e w2 ⟨sv,zs,G,rfl,r1,r2,r3,r4,z⟩;have R1:=hZ r1;have R2:=hZ r2;have R3:=hZ r3;have R4:=hZ r4;obtain⟨aU,aV,rfl,_⟩:=r1.form;have m:=hZ (d.o.kept z);clear x0 x1 x2 x3 aT aI;obtain⟨aT,aI,x0,x1,x2,x3⟩:=Ac.cells4 m.o.kvo;clear z r1 r2 r3 r4)
      |(refine Bp rfl _ _ rfl O ZN 42 [K,L,E,nS aU (MW u).length aV] (by exact(m.o.kvo.set 3 _)) _ underlying42 rfl A0 ?_)
      |(refine Ae rfl _ _ _ rfl R [K,L,E,nS aU (MW u).length aV] ZN ZN 42 gj (by exact(m.o.set g.o 3 _).kvr) A0 rfl (mf ai.o) ?_;intro w5 ae H I;have ab:=hZ H;have y:=hZ I;clear H I ae))
     refine bodyPost_ret (DN rfl _ _ R 42 [K,L,E,nS aU (MW u).length aV] _ rfl ab.o underlying42 rfl A0) rfl ?_;rw[D.o];have J:=av.o;simp only[List.cons.injEq,and_true]at J;obtain⟨rfl,rfl,rfl,rfl⟩:=J;have n1:=g.o.a;have n2:=g.o.r;have n3:=g.o.m;have n4:=g.o.o;have z1:=d.o.chg.size;have l1:=d.o.kvo.lt;have a5:Chg w2 w5 [O,R]:=((Chg.refl w2 _).setCell _ _ Zh).step y.o (fun i hi _=>by simp at hi;simp[hi]);have be:BZ G w2 w5:=a5.keepsF (fun b C=>(R4.o b C).2) (fun b P C=>by have:=(R4.o b C).1;simp at P;omega);exact⟨⟨_,zs,G,rfl,R1.o.keptF R2.o be,R2.o,Cr.kept be (fun _ h=>h) R3.o,fun b C=>⟨by have:=(R4.o b C).1;omega,Q6 (R4.o b C).2 a5.size⟩⟩,kS g.o (m.o.chg.setCell _ _ (by simp;omega)) y.o⟩
    .have D:=UD (Xi ks l p= .no 4 p) (al.o.trans ((Qr rfl).trans (Qs hh)))
     have aw:eN ks SZ= -1:=by unfold eN;rw[Qs hh]
     rw[aw]at ag;clear aw hh al
     go_wp2_with(first
      |(go_at_call 124;refine(ag.o _ (by exact cg S.o.chg)).mono ?_;rintro e U ⟨rfl,N⟩;have d:=hZ (S.o.kept (ct cR N));clear N)
      |(refine Bp rfl _ _ rfl O ZN 42 [K,L,E,V] (by exact d.o.kvo) _ underlying42 rfl A0 ?_)
      |(refine Ae rfl _ _ _ rfl R [K,L,E,V] ZN ZN 42 gj (by exact d.o.kvr) A0 rfl ai.o ?_;intro w5 ae H I;have ab:=hZ H;have y:=hZ I;clear H I ae))
     refine bodyPost_ret (DN rfl _ _ R 42 [K,L,E,V] _ rfl ab.o underlying42 rfl A0) rfl ?_;rw[D.o];exact⟨⟨_,ai.o,rfl,rfl⟩,kS g.o d.o.chg y.o⟩
  .have a6:¬(i=2/\AO k=false):=fun h=>aJ (.inl h)
   have bu:i<3:=Zj
   have aK:i=0\/i=1\/i=2:=Zj
   obtain⟨x,aN⟩:=Ue (mD i)
   have bt:x.size<=1000:=by rw[aN];rcases aK with rfl|rfl|rfl<;>decide
   have Q:i=2->AO k=true:=fun z=>by simpa[z]using a6
   obtain⟨mi,ao⟩:=Ue (((ld ks l x).1:Int):Int)
   obtain⟨f,aD⟩:=Ue ((ld ks l x).2)
   have a1:=UD (∀a,Chg w a []->Cl prog 123 #[nA #[nI nX 6,.bool false,nI .u64 0,nG Dz,nS la n lc,nS ka kn kc],nG x] a fun e w'=>e= nR (nT #[nG f,nI nX mi])/\Chg a w' []) fun a B=>by rw[ao,aD];exact au.o x a B
   have aA:=UD ((mi=1/\E4 ks l p x= .no 4 p)\/(mi=2/\E4 ks l p x= .no 5 (X1 p x))\/(mi=0/\E4 ks l p x= .yes f)) (by
    rcases lD ks l p x with⟨N,h3⟩|⟨N,h3⟩|⟨s,N,h3⟩<;>rw[N]at ao aD
    .exact .inl ⟨ao,h3⟩
    .exact .inr (.inl ⟨ao,h3⟩)
    .exact .inr (.inr ⟨ao,by rw[aD];exact h3⟩))
   have am:=UD (∀n q,(if i=0 then E4 ks l p SB else RL ks l p (mD i))= .no n q->Xi ks l p= .no n q) fun n q hq=>mc bu ap Q hq
   have aF:=hZ aN;have aH:=hZ ap
   have hc:i=0\/i=1\/(i=2/\k=4)\/(i=2/\k=5):=by
    rcases aK with h|h|h
    .exact .inl h
    .exact .inr (.inl h)
    .have:=Q h
     unfold AO at this;simp at this;exact .inr (.inr Zj)
   obtain⟨oc,J⟩:=Ue ([nI nX k,nG pa,nG r,nS nN 0 0]:List Vl)
   have aq:oc.length=4:=by rw[J];rfl
   have ai:=UD (∀u∈oc,u.oneCell'=true) (by rw[J];exact Dx ⟨k,pa,r,[]⟩ nN 0 0);have aL:(prog.info? 42).map (·.size)=nM oc.length:=by rw[aq];exact A0
   rw[<-J]at S;obtain⟨K,L,E,V,rfl⟩:=four aq;have av:=hZ J;clear J aq;obtain⟨iv,aa⟩:=Ue ((i:Int):Int)
   obtain⟨kv,af⟩:=Ue ((k:Int):Int)
   rw[<-aa];rw[<-af]at x0;clear ao aD aN Q a6 aK ap
   rcases hc with rfl|rfl|⟨rfl,rfl⟩|⟨rfl,rfl⟩
   all_goals
    first
     |(have e:iv=0:=aa;subst e;have e:x=SB:=aF.o;subst e)
     |(have e:iv=1:=aa;subst e;have e:x=Fj:=aF.o;subst e)
     |(have e:iv=2:=aa;subst e;have e:x=Oa:=aF.o;subst e;first|(have e:kv=4:=af;subst e)|(have e:kv=5:=af;subst e))
    clear aa af
    go_upto_region 7 with fail
    go_region_held3(fun w'=>w'.cell? ⟨A,0,nN⟩=nM (nI nX 6)/\w'.cell? ⟨A,1,nN⟩=nM (.bool false)/\w'.cell? ⟨A,2,nN⟩=nM (nI .u64 0)/\w'.cell? ⟨A,3,nN⟩=nM (nG Dz)/\w'.cell? ⟨A,4,nN⟩=nM (nS la n lc)/\w'.cell? ⟨A,5,nN⟩=nM (nS ka kn kc)/\w'.cell? ⟨M,0,nN⟩=nM (nG SB)/\w'.cell? ⟨M,1,nN⟩=nM (nG Fj)/\w'.cell? ⟨M,2,nN⟩=nM (nG Oa)) (first|exact⟨y0,y1,y2,y3,y4,y5,m0,m1,m2⟩|exact⟨z0,z1,z2,z3,z4,z5,d.o.kvm.cell 0,d.o.kvm.cell 1,d.o.kvm.cell 2⟩)
     ((go_at_call 123;refine(a1.o _ (by exact cg S.o.chg)).mono ?_;rintro e U ⟨rfl,N⟩;have d:=hZ (S.o.kept (ct cR N));obtain⟨lz,fz,z0,z1,z2,z3,z4,z5⟩:=Ac.cells6 d.o.kva;clear N))
    clear a1 au y0 y1 y2 y3 y4 y5 m0 m1 m2 x0 x1 x2 x3 aE aB aT aI bj z0 z1 z2 z3 z4 z5 lz fz
    rcases aA.o with⟨e,P⟩|⟨e,P⟩|⟨e,P⟩<;>subst e
    .have D:=UD (Xi ks l p= .no 4 p) (am.o _ _ (by first|exact P|exact l6 P))
     clear P aA
     go_wp2_with(first
      |(refine Bp rfl _ _ rfl O ZN 42 [K,L,E,V] (by exact d.o.kvo) _ underlying42 rfl aL ?_)
      |(refine Ae rfl _ _ _ rfl R [K,L,E,V] ZN ZN 42 gj (by exact d.o.kvr) aL rfl ai.o ?_;intro w5 ae H I;have ab:=hZ H;have y:=hZ I;clear H I ae))
     refine bodyPost_ret (DN rfl _ _ R 42 [K,L,E,V] _ rfl ab.o underlying42 rfl aL) rfl ?_;rw[D.o];exact⟨⟨_,ai.o,rfl,rfl⟩,kS g.o d.o.chg y.o⟩
    .have D:=UD (Xi ks l p= .no 5 (p++⟨#[47]⟩++_)) (am.o _ _ (by first|exact P|exact l6 P))
     have m0:U.cell? ⟨M,0,nN⟩=nM (nG SB):=d.o.kvm.cell 0;have m1:U.cell? ⟨M,1,nN⟩=nM (nG Fj):=d.o.kvm.cell 1;have m2:U.cell? ⟨M,2,nN⟩=nM (nG Oa):=d.o.kvm.cell 2;clear P aA;obtain⟨lq,fq,T,q1,q2,q3⟩:=Ac.cells4 d.o.kvo
     go_upto_region 11 with fail
     have p3:¬9223372036854775807<p.size+1:=Zj
     have p4:¬9223372036854775807<p.size+1+SB.size:=by have:SB.size=2:=rfl;omega
     have p5:¬9223372036854775807<p.size+1+Fj.size:=by have:Fj.size=4:=rfl;omega
     have p6:¬9223372036854775807<p.size+1+Oa.size:=by have:Oa.size=4:=rfl;omega
     have v:=av.o
     injection v with E0 v
     injection v with E1 v
     injection v with E2 v
     injection v with E3 v
     subst E0 E1 E2 E3;clear v;obtain⟨lr,br,r0,r1,r2,r3⟩:=Ac.cells4 (show Ac U R [nI nX 0,nG ⟨#[]⟩,nG ⟨#[]⟩,nS nN 0 0] 42 from d.o.kvr);have aQ:R≠M:=by have:=g.o.m;omega
     have bw:M≠R:=aQ.symm;have aR:R≠O:=by have:=g.o.m;have:=g.o.o;omega
     have bx:O≠R:=aR.symm;go_region
     go_wp2_with fail
     have ad:¬R<w.heap.size:=by have:=g.o.a;have:=g.o.r;omega
     refine bodyPost_ret (DN rfl _ _ R 42 [nI nX _,nG pa,nG r,nS nN 0 0] _ rfl ((((((d.o.kvr.set 0 _).set 1 _).set 2 _).set 3 _).drew).eq rfl) underlying42 rfl A0) rfl ?_;rw[D.o];exact⟨⟨[nI nX _,nG pa,nG r,nS nN 0 0],Dx ⟨_,pa,r,[]⟩ nN 0 0,rfl,rfl⟩,((((d.o.chg.setCell _ _ (fun h=>absurd h ad)).setCell _ _ (fun h=>absurd h ad)).setCell _ _ (fun h=>absurd h ad)).setCell _ _ (fun h=>absurd h ad)).drew⟩
    have HM:=hZ P;clear P aA;have bm:=UD (f.size<=16777216) (bp.o f (by show _∈l;exact mm HM.o aG.o));obtain⟨lq,fq,T,q1,q2,q3⟩:=Ac.cells4 d.o.kvo;have m0:U.cell? ⟨M,0,nN⟩=nM (nG SB):=d.o.kvm.cell 0;have m1:U.cell? ⟨M,1,nN⟩=nM (nG Fj):=d.o.kvm.cell 1;have m2:U.cell? ⟨M,2,nN⟩=nM (nG Oa):=d.o.kvm.cell 2;have v:=av.o
    injection v with E0 v
    injection v with E1 v
    injection v with E2 v
    injection v with E3 v
    subst E0 E1 E2 E3;clear v
   .obtain⟨rfl,rfl,rfl⟩:k=0/\pa=Dz/\r=Dz:=aH.o
    clear am bt;go_wp2_with fail
    have H1:=UD (mH w A R M O [nI nX 6,.bool false,nI .u64 0,nG Dz,nS la n lc,nS ka kn kc] [nI nX (if Ob f<1 then Ob f else 0:Nat),nG Dz,nG Dz,nS nN 0 0] U) (by
     have:(if Ob f<1 then Ob f else 0)=0:=by split<;>omega
     rw[this];exact d.o)
    clear d T q1 q2 q3 m0 m1 m2 lq fq;go_loopw [12] (fun aW wr=>∃j:Nat,1<=j/\j<=7/\aW= nI nX j/\mH w A R M O [nI nX 6,.bool false,nI .u64 0,nG Dz,nS la n lc,nS ka kn kc] [nI nX (if Ob f<j then Ob f else 0:Nat),nG Dz,nG Dz,nS nN 0 0] wr) (fun aW _=>7-(intOf aW).toNat)
    case atStart=>exact⟨1,Zj,Zj,rfl,H1.o⟩
    case round=>
     obtain⟨j,a8,bC,rfl,h5⟩:=hrel;have y:=hZ h5;obtain⟨lq,fq,T,q1,q2,q3⟩:=Ac.cells4 h5.kvo;clear h5 H1;by_cases hj:j<=6
     .have a4:=UD (∀a,Cl prog 93 #[nI nX j] a fun e w'=>e= nR (nG (Ec j))/\Chg a w' []) fun a=>jB j Zj a
      by_cases hw:Ec j=f
      .have C:((Ec j).toList==f.toList)=true:=by rw[hw];simp
       have HK:=hZ (((l9 ⟨a8,hj⟩).1 hw));clear hw;go_wp2_with((go_at_call 93;refine(a4.o _).mono ?_;rintro e w2 ⟨rfl,z⟩;have ay:=hZ (y.o.kept z);clear T q1 q2 q3 lq fq;obtain⟨lq,fq,T,q1,q2,q3⟩:=Ac.cells4 ay.o.kvo;clear z))
       go_roundw
       case rel=>
        refine⟨j+1,Zj,Zj,by go_num, ?_⟩;have h:=ay.o.set g.o 0 (nI nX j);rw[Qr (by rw[HK.o];omega),HK.o];exact h
       case measure=>simp[intOf];omega
      .have C:((Ec j).toList==f.toList)=false:=by
        have h3:¬(Ec j).toList=f.toList:=fun e=>hw (by rw[Lib.toList_data,Lib.toList_data]at e;exact ByteArray.ext (Array.toList_inj.1 e))
        simpa using h3
       have HK:=UD (Ob f≠j) fun e=>hw ((l9 ⟨a8,hj⟩).2 e)
       clear hw;go_wp2_with((go_at_call 93;refine(a4.o _).mono ?_;rintro e w2 ⟨rfl,z⟩;have ay:=hZ (y.o.kept z);clear z))
       go_roundw
       case rel=>
        refine⟨j+1,Zj,Zj,by go_num, ?_⟩
        have e:(if Ob f<j+1 then Ob f else 0)=(if Ob f<j then Ob f else 0):=by
         have:=HK.o;split<;>split<;>omega
        rw[e];exact ay.o
       case measure=>simp[intOf];omega
     .obtain rfl:j=7:=by omega
      have aM:=gg f;rw[Qr (show Ob f<7 by omega)]at y T;obtain⟨kk,an⟩:=Ue (Ob f)
      rw[<-an]at y T;have bz:=hZ an;by_cases h0:kk=0
      .subst h0
       have D:=UD (Xi ks l p= .no 170 (p++⟨#[47,111,112]⟩)) (by
        unfold Xi;rw[HM.o];simp only;rw[Qr an.symm];unfold X1
        rw[ByteArray.append_assoc];rfl)
       clear an aM
       go_wp2_with(first
        |(refine Bp rfl _ _ rfl O ZN 42 [nI nX 0,nG Dz,nG Dz,nS nN 0 0] (by exact y.o.kvo) _ underlying42 rfl A0 ?_)
        |(refine Ae rfl _ _ _ rfl R [nI nX 0,nG Dz,nG Dz,nS nN 0 0] ZN ZN 42 gj (by exact y.o.kvr) A0 rfl (Dx ⟨0,Dz,Dz,[]⟩ nN 0 0) ?_;intro w5 ae H I;have ab:=hZ H;have bk:=hZ I;clear H I ae))
       refine bodyPost_ret (DN rfl _ _ R 42 [nI nX 0,nG Dz,nG Dz,nS nN 0 0] _ rfl ab.o underlying42 rfl A0) rfl ?_;rw[D.o];exact⟨⟨[nI nX 0,nG Dz,nG Dz,nS nN 0 0],Dx ⟨0,Dz,Dz,[]⟩ nN 0 0,rfl,rfl⟩,kS g.o y.o.chg bk.o⟩
      .have C:((kk:Int)==0)=false:=by simpa using h0
       go_wp2_with fail
       go_roundw
       case rel=>exact⟨1,kk,Dz,Dz,Zj,by go_num,⟨f,HM.o,by rw[<-an];exact h0,an,rfl,rfl⟩,y.o⟩
       case measure=>simp[intOf]
   all_goals
    have az:=UD (∀a,Cl prog 91 #[nG f] a fun e w'=>e= nR (.bool (AD f).isNone)/\Chg a w' []) fun a=>iv f a bm.o
    cases ar:(AD f).isNone with
    |true=>
     rw[ar]at az;have D:=UD (Xi ks l p= .no 171 (p++⟨#[47]⟩++_)) (am.o _ _ (mq HM.o (Option.isNone_iff_eq_none.1 ar)));clear ar am
     go_upto_region 13 with((go_at_call 91;refine(az.o _).mono ?_;rintro e w2 ⟨rfl,z⟩;have m:=hZ (d.o.kept z);clear T q1 q2 q3 lq fq m0 m1 m2;obtain⟨lq,fq,T,q1,q2,q3⟩:=Ac.cells4 m.o.kvo;have m0:w2.cell? ⟨M,0,nN⟩=nM (nG SB):=m.o.kvm.cell 0;have m1:w2.cell? ⟨M,1,nN⟩=nM (nG Fj):=m.o.kvm.cell 1;have m2:w2.cell? ⟨M,2,nN⟩=nM (nG Oa):=m.o.kvm.cell 2;clear z))
     have p3:¬9223372036854775807<p.size+1:=Zj
     have p4:¬9223372036854775807<p.size+1+SB.size:=by have:SB.size=2:=rfl;omega
     have p5:¬9223372036854775807<p.size+1+Fj.size:=by have:Fj.size=4:=rfl;omega
     have p6:¬9223372036854775807<p.size+1+Oa.size:=by have:Oa.size=4:=rfl;omega
     obtain⟨lr,br,r0,r1,r2,r3⟩:=Ac.cells4 (show Ac w2 R [nI nX 0,nG ⟨#[]⟩,nG ⟨#[]⟩,nS nN 0 0] 42 from m.o.kvr);have aQ:R≠M:=by have:=g.o.m;omega
     have bw:M≠R:=aQ.symm;have aR:R≠O:=by have:=g.o.m;have:=g.o.o;omega
     have bx:O≠R:=aR.symm;go_region
     go_wp2_with fail
     have ad:¬R<w.heap.size:=by have:=g.o.a;have:=g.o.r;omega
     refine bodyPost_ret (DN rfl _ _ R 42 [nI nX _,nG pa,nG r,nS nN 0 0] _ rfl ((((((m.o.kvr.set 0 _).set 1 _).set 2 _).set 3 _).drew).eq rfl) underlying42 rfl A0) rfl ?_;rw[D.o];exact⟨⟨[nI nX _,nG pa,nG r,nS nN 0 0],Dx ⟨_,pa,r,[]⟩ nN 0 0,rfl,rfl⟩,((((m.o.chg.setCell _ _ (fun h=>absurd h ad)).setCell _ _ (fun h=>absurd h ad)).setCell _ _ (fun h=>absurd h ad)).setCell _ _ (fun h=>absurd h ad)).drew⟩
    |false=>
     rw[ar]at az;have a2:=hZ (mz HM.o ar);clear ar am;go_wp2_with((go_at_call 91;refine(az.o _).mono ?_;rintro e w2 ⟨rfl,z⟩;have m:=hZ (d.o.kept z);clear T q1 q2 q3 lq fq m0 m1 m2;obtain⟨lq,fq,T,q1,q2,q3⟩:=Ac.cells4 m.o.kvo;have m0:w2.cell? ⟨M,0,nN⟩=nM (nG SB):=m.o.kvm.cell 0;have m1:w2.cell? ⟨M,1,nN⟩=nM (nG Fj):=m.o.kvm.cell 1;have m2:w2.cell? ⟨M,2,nN⟩=nM (nG Oa):=m.o.kvm.cell 2;clear z))
     go_roundw
     case rel=>
      first
       |(obtain⟨s,W,X,Y,g4,Z⟩:=aH.o;exact⟨2,_,f,r,Zj,by go_num,⟨s,W,X,Y,a2.o,Z⟩,m.o.set g.o 1 _⟩)
       |(obtain⟨s,W,X,Y,g4,Z⟩:=aH.o;exact⟨3,_,pa,f,Zj,by go_num,⟨s,W,X,Y,g4,rfl,a2.o⟩,m.o.set g.o 2 _⟩)
     case measure=>simp[intOf]
def kW(r:ZV)(w:Wl)(e:Ending)(w':Wl):Prop:=match r with
 | .no k q=>e= nR (nT #[nS nN 0 0,nI nX k,nG q])/\Chg w w' []
 | .yes os=>∃a xs G,e= nR (nT #[a,nI nX 0,nG ⟨#[]⟩])/\EW w w' (os.map CW.toI) a xs G/\Chg w w' []
theorem ma(t:Tr):(((Aa t).sort:Int)=5/\∃l,t= .list l)\/(((Aa t).sort:Int)≠5/\∀l,t≠ .list l):=by cases t<;>simp[Aa]
theorem mj(t:Tr):(((Aa t).sort:Int)=6/\∃ks l,t= .obj ks l)\/(((Aa t).sort:Int)≠6/\∀ks l,t≠ .obj ks l):=by cases t<;>simp[Aa]
theorem ml{ks:List BY}{l:List Tr}{p b q:BY}{k:Nat}(h:E4 ks l p b= .no k q):k≠0:=by
 rcases lD ks l p b with⟨_,a⟩|⟨_,a⟩|⟨s,_,a⟩<;>rw[a]at h<;>injection h<;>omega
theorem l4{ks:List BY}{l:List Tr}{p c q:BY}{k:Nat}(h:RL ks l p c= .no k q):k≠0:=by
 unfold RL at h;split at h
 .rename_i e f b
  injection h with a d
  exact a▸ml b
 .split at h
  .cases h
  .injection h;omega
theorem mn{ks:List BY}{l:List Tr}{p q:BY}{k:Nat}(h:Xi ks l p= .no k q):k≠0:=by
 unfold Xi at h;split at h
 .rename_i e d a
  injection h with b c
  exact b▸ml a
 .split at h
  .injection h;omega
  .split at h
   .rename_i e d a
    injection h with b c
    exact b▸l4 a
   .split at h
    .rename_i e d a
     injection h with b c
     split at a
     .exact b▸l4 a
     .cases a
    .split at h
     .split at h
      .cases h
      .injection h;omega
     .cases h
theorem lf(t:Tr)(F:Nat->Prop)(cs:List Vl)(w:Wl)(b:AL w F t cs)(a:∀l,t≠ .list l):
  Cl prog 36 #[nA cs.toArray] w (kW (.no 5 Dz) w):=by
 obtain⟨i,j,f,g,xs,rfl,_⟩:=b.uni
 have c:((Aa t).sort:Int)≠5:=by
  rcases ma t with⟨_,l,e⟩|⟨h,_⟩
  .exact absurd e (a l)
  .exact h
 rw[Jy];clear b a
 generalize ((Aa t).sort:Int)=so at*
 generalize (Aa t).flag=fl
 generalize ((Aa t).bits:Int)=bi
 generalize (Aa t).text=tx
 generalize (Ab t).length=n
 generalize (Aa t).keys.length=kn
 have d:(so !=5)=true:=bne_iff_ne.2 c;go_enter func36,ntmps36
 go_wp2_with fail
 refine bodyPost_ret (results_tmp3 rfl _ _ _) rfl ?_;exact⟨rfl,(Chg.refl _ _).alloc _⟩
theorem lh(l:List Tr)(F:Nat->Prop)(cs:List Vl)(w:Wl)(hv:AL w F (.list l) cs)(hF:∀b,F b->b<w.heap.size)(hf:Bt (.list l)):
  Cl prog 36 #[nA cs.toArray] w (kW (RV [] 0 l) w):=by
 have av:l.length<=65536:=by have:=hf.many;simp only[Ab]at this;omega
 have aI:=hZ hf;have ap:=hZ hF;simp only[AL]at hv;obtain⟨la,lc,ka,kc,aW,rfl,hr,aB⟩:=hv;have aK:=hZ hr;have aL:=hZ aB;rw[Jy];obtain⟨n,hn⟩:=Ue l.length
 have HN:=hZ hn;rw[<-hn]at av|-;have aU:n<=65536:=av;clear hr aB hn hF hf av;go_enter func36,ntmps36
 go_wp2_with fail
 obtain⟨w0,an⟩:=Ue (w.alloc (nC #[nI nX 5,.bool false,nI .u64 0,nG Dz,nS la n lc,nS ka 0 kc] 29))
 have T:Hid (Chg w w0 []):=by rw[an];exact hZ ((Chg.refl w []).alloc _)
 have HB:Hid (Ac w0 w.heap.size [nI nX 5,.bool false,nI .u64 0,nG Dz,nS la n lc,nS ka 0 kc] 29):=by rw[an];exact hZ (Ac.new w _ _)
 change Code.wp _ _ _ _ (w.alloc (nC #[nI nX 5,.bool false,nI .u64 0,nG Dz,nS la n lc,nS ka 0 kc] 29));rw[<-an];clear an;obtain⟨A,hA⟩:=Ue w.heap.size
 rw[<-hA]at HB|-;clear hA;have aw:=UD (fT w0 [] 0 (nS nN 0 0) w0) (fT.start cR);go_loopw [6,5] (fun v6 v5 wr=>∃(i:Nat) (q:Option Addr) (au:Nat),i<=n/\v6= nI nX i/\v5= nS q i au/\∃os:List CW,os.length=i/\fT w0 (os.map CW.toI) i v5 wr/\∀r,RV [] 0 l=r->RV os i (l.drop i)=r) (fun v6 _ _=>n-(intOf v6).toNat)
 case atStart=>exact⟨0,nN,0,Zj,rfl,rfl,[],rfl,aw.o,fun r h=>h⟩
 case round=>
  obtain⟨i,q,au,hi,rfl,rfl,os,az,al,aA⟩:=hrel;have U:=hZ az;have ah:=hZ aA;have ar:=hZ al;have HC:=hZ al.chg;have ag:=hZ (HB.o.kept al.chg);clear az aA al aw;obtain⟨L,I,N,O,P,Q,R,S⟩:=Ac.cells6 ag.o;by_cases aT:i<n
  .obtain⟨t,K⟩:∃t,l[i]? =nM t:=⟨_,Q9 (by have:=HN.o;omega)⟩
   have ak:l.drop i=t::l.drop (i+1):=by
    obtain⟨p,h2⟩:=Qc.1 K;rw[List.drop_eq_getElem_cons p,h2]
   have ao:=hZ ak;have ab:Bt t:=gd aI.o (Qi K);obtain⟨b,o,aE,aF,aC,aD,rfl,am,aj⟩:=AL.kid (t:= .list l) aK.o aL.o K;have E:Chg w wr []:=T.o.trans HC.o;have x:∀a,Chg wr a []->∀j v,(vC (Aa t).sort (Aa t).flag (Aa t).bits (Aa t).text (nS aE (Ab t).length aF) (nS aC (Aa t).keys.length aD))[j]? =nM v->a.cell? ⟨b,o+i*6+j,nN⟩=nM v:=fun a d j v hj=>(E.trans d).keeps (aj j v hj)
   have s:=UD (∀a,Chg wr a []->a.cell? ⟨b,o+i*6,nN⟩=nM (nI nX (Aa t).sort)/\a.cell? ⟨b,o+i*6+1,nN⟩=nM (.bool (Aa t).flag)/\a.cell? ⟨b,o+i*6+2,nN⟩=nM (nI .u64 (Aa t).bits)/\a.cell? ⟨b,o+i*6+3,nN⟩=nM (nG (Aa t).text)/\a.cell? ⟨b,o+i*6+4,nN⟩=nM (nS aE (Ab t).length aF)/\a.cell? ⟨b,o+i*6+5,nN⟩=nM (nS aC (Aa t).keys.length aD)) fun a d=>
    ⟨by have:=x a d 0 _ rfl;rwa[Nat.add_zero]at this,x a d 1 _ rfl,x a d 2 _ rfl,x a d 3 _ rfl,x a d 4 _ rfl,x a d 5 _ rfl⟩
   obtain⟨aa,B⟩:=Ue (⟨(Go.Lib.decDigits i).toArray⟩:BY)
   have aR:aa.size<=11:=by rw[B];exact fX i Zj
   have aq:=UD (∀a,Cl prog 72 #[nI nX i] a (fun e w'=>e= nR (nG aa)/\Chg a w' [])) fun a=>by
    rw[B];exact lH i a Zj
   rcases mj t with⟨ae,ks,m,rfl⟩|⟨ae,ay⟩
   .have ai:=UD (∀a,Chg wr a []->AL a F (.obj ks m) _) fun a d=>AL.kept ((E.trans d).keepsF ap.o) (fun _ h=>h) _ _ am
    cases D:Xi ks m (XP i)with
    |no k qq=>
     have u:=UD (∀a,Chg wr a []->Cl prog 73 #[nA _,nG (⟨#[47]⟩++aa)] a (lS (.no k qq) a)) fun a d=>by
      have:=l7 ks m F _ (XP i) a (ai.o a d) (fun b J=>Q6 (ap.o b J) (E.trans d).size) (gu i Zj) ab;rw[D]at this;rw[B];exact this
     have C:=UD (RV [] 0 l= .no k qq) (by
      have p:=ah.o _ rfl;rw[ao.o,RV,D]at p
      exact p.symm)
     rw[Jy]at u;simp only[Aa,Ab]at u s;obtain⟨un,af⟩:=Ue m.length
     obtain⟨kn,ad⟩:=Ue ks.length
     rw[<-af,<-ad]at u s;have aS:((k:Int) !=0)=true:=by have:=mn D;rw[bne_iff_ne];omega
     clear D K ak ab am aj E x B ae ai af ad;obtain⟨z,V,W,X,Y,Z⟩:=s.o wr cR
     go_wp2_with(first
      |(go_at_call 72;refine(aq.o _).mono ?_;rintro e M ⟨rfl,f⟩;have y:=hZ f;clear z V W X Y Z N O P Q R S L I;obtain⟨L,I,N,O,P,Q,R,S⟩:=Ac.cells6 (ag.o.kept f);obtain⟨z,V,W,X,Y,Z⟩:=s.o M f;clear f)
      |(go_at_call 73;refine(u.o _ y.o).mono ?_;rintro e H ⟨⟨zs,z1,z2,rfl⟩,q5⟩;obtain⟨e0,e1,e2,e3,rfl⟩:=four z2;have aJ:=hZ z1;have H4:=hZ (y.o.trans q5);clear q5 z1 z2)
      |(refine Ae rfl _ _ _ rfl H.heap.size [e0,e1,e2,e3] ZN ZN 42 gj (BD _ _ gj _ _ rfl rfl) A0 rfl aJ.o ?_;intro w5 aQ aN ax;have aH:=UD (Chg H w5 []) (Chg.step (b:=_) (by exact cg cR) ax (fun i hi hl=>by simp at hi;omega));clear aN ax aQ))
     refine bodyPost_ret (results_tmp3 rfl _ _ _) rfl ?_;rw[C.o];exact⟨rfl,T.o.trans (HC.o.trans (H4.o.trans aH.o))⟩
    |yes c=>
     have u:=UD (∀a,Chg wr a []->Cl prog 73 #[nA _,nG (⟨#[47]⟩++aa)] a (lS (.yes c) a)) fun a d=>by
      have:=l7 ks m F _ (XP i) a (ai.o a d) (fun b J=>Q6 (ap.o b J) (E.trans d).size) (gu i Zj) ab;rw[D]at this;rw[B];exact this
     have C:=UD (∀r,RV [] 0 l=r->RV (os++[c]) (i+1) (l.drop (i+1))=r) (by
      intro r hr;have p:=ah.o r hr;rw[ao.o,RV,D]at p
      exact p)
     rw[Jy]at u;simp only[Aa,Ab]at u s;obtain⟨un,af⟩:=Ue m.length
     obtain⟨kn,ad⟩:=Ue ks.length
     rw[<-af,<-ad]at u s;clear D K ak ab am aj E x B ae ai af ad;obtain⟨z,V,W,X,Y,Z⟩:=s.o wr cR
     go_wp2_with(first
      |(go_at_call 72;refine(aq.o _).mono ?_;rintro e M ⟨rfl,f⟩;have y:=hZ f;clear z V W X Y Z N O P Q R S L I;obtain⟨L,I,N,O,P,Q,R,S⟩:=Ac.cells6 (ag.o.kept f);obtain⟨z,V,W,X,Y,Z⟩:=s.o M f;clear f)
      |(go_at_call 73;refine(u.o _ y.o).mono ?_;rintro e H ⟨⟨sv,ys,G1,he,q1,q2,q3,q4⟩,q5⟩;obtain⟨sa,sc,rfl,_⟩:=q1.form;have he:e= nR (nT #[nA #[nI nX c.toI.kind,nG c.toI.path,nG c.toI.frm,nS sa c.toI.steps.length sc],nI nX 0,nG ⟨#[]⟩]):=he;subst he;have Q1:=hZ q1;have Q2:=hZ q2;have Q3:=hZ q3;have Q4:=hZ q4;have H4:=hZ (y.o.trans q5);have aG:=UD (wr.heap.size<=M.heap.size) y.o.size;clear q1 q2 q3 q4 q5)
      |(refine Bp rfl _ _ rfl H.heap.size ZN 42 [nI nX c.toI.kind,nG c.toI.path,nG c.toI.frm,nS sa c.toI.steps.length sc] (by exact BD H _ [nI nX c.toI.kind,nG c.toI.path,nG c.toI.frm,nS sa c.toI.steps.length sc] _ _ rfl rfl) _ underlying42 rfl A0 ?_)
      |(obtain⟨xs,G2,e1,e2,e3,e4⟩:=ar.o.ex;refine Er rfl _ _ 23 rfl 42 _ 4 64 ZM underlying23 JK rfl (nS q i au) i xs ZN ((e1.kept H4.o).kept (bs:=[]) (((Chg.refl _ _).alloc _).alloc _) Zh) (H.heap.size+1) 0 1 1 (BJ c.toI (nS sa c.toI.steps.length sc)) ZN Zj ZN (fun j v hv=>by rw[Nat.zero_add];exact((BD _ _ (BJ c.toI (nS sa c.toI.steps.length sc)) _ _ rfl Zh).cell j).trans hv) (Dx _ _ _ _) Zj Zj ?_;intro g aM w7 k1 k2 k3;have K1:=hZ k1;have K2:=hZ k2;have K3:=hZ k3;have E1:=hZ e1;have E2:=hZ e2;have E3:=hZ e3;have E4:=hZ e4;clear k1 k2 k3 e1 e2 e3 e4))
     go_roundw
     case rel=>
      have aP:=fT.next (os:=(os++[c]).map CW.toI) (o:=c.toI) ar.o.chg E1.o (by rw[List.map_append,List.take_append_of_le_length (by rw[List.length_map,U.o];exact Q8 _)];exact E2.o) E3.o E4.o (by rw[List.map_append,List.getElem?_append_right (by rw[List.length_map,U.o];exact Q8 _),List.length_map,U.o,Nat.sub_self];rfl) H4.o (As.kept Q1.o cR) Q2.o Q3.o (fun b J=>⟨Q7 aG.o (Q4.o b J).1,(Q4.o b J).2⟩) (((Chg.refl H []).alloc _).alloc _) K1.o K2.o K3.o;exact⟨i+1,_,aM,Zj,by go_num,rfl,os++[c],by rw[Qk,U.o];rfl,aP,C.o⟩
     case measure=>simp[intOf];omega
   .have C:=UD (RV [] 0 l= .no 5 (⟨#[47]⟩++aa)) (by
     have p:=ah.o _ rfl;rw[ao.o]at p;rw[<-p,B]
     cases t<;>first|rfl|exact absurd rfl (ay _ _))
    generalize ((Aa t).sort:Int)=so at*
    have aV:(so !=6)=true:=bne_iff_ne.2 ae;clear K ak ab am aj E x B ae ay;obtain⟨z,_⟩:=s.o wr cR;go_wp2_with((go_at_call 72;refine(aq.o _).mono ?_;rintro e M ⟨rfl,f⟩;have y:=hZ f;clear z N O P Q R S L I;obtain⟨L,I,N,O,P,Q,R,S⟩:=Ac.cells6 (ag.o.kept f);obtain⟨z,_⟩:=s.o M f;clear f))
    refine bodyPost_ret (results_tmp3 rfl _ _ _) rfl ?_;rw[C.o];exact⟨rfl,T.o.trans (HC.o.trans y.o)⟩
  .obtain rfl:i=n:=by omega
   have C:=UD (RV [] 0 l= .yes os) (by
    have p:=ah.o _ rfl;rw[List.drop_eq_nil_of_le (by have:=HN.o;omega),RV]at p
    exact p.symm)
   go_wp2_with fail
   refine bodyPost_ret (results_tmp3 rfl _ _ _) rfl ?_;rw[C.o];obtain⟨xs,G,aO⟩:=fT.done ar.o (by rw[List.length_map,U.o]);exact⟨_,xs,G,rfl,aO.kept cR (fun b h=>absurd h List.not_mem_nil) T.o.size,T.o.trans HC.o⟩
theorem mt(t:Tr)(F:Nat->Prop)(cs:List Vl)(w:Wl)(a:AL w F t cs)(c:∀b,F b->b<w.heap.size)(d:Bt t):
  Cl prog 36 #[nA cs.toArray] w (kW (aM t) w):=by
 cases t with
 |list l=>exact lh l F cs w a c d
 |_=>exact lf _ F cs w a (fun l h=>by cases h)
end
section
open _root_.Go.Proofs.Tryz
open Go Go.Shelf Go.RowKit Go.Lib
theorem jw(p:BY)(w:Wl):Cl prog 35 #[.nilIface,nI nX 0,nG p] w (BU true w):=by
 go_enter func35,ntmps35
 go_wp2_with fail
 go_ret
 exact⟨rfl,Chg.refl _ _⟩
theorem jL(k:Int)(a:k≠0)(p:BY)(w:Wl):Cl prog 35 #[eT k p,nI nX k,nG p] w (BU true w):=by
 have b:(k==0)=false:=by simpa using a
 have c:(k==k)=true:=Zh
 have e:(p.toList==p.toList)=true:=Zh
 have d:∀w:Wl,(Instr.typeAssert (nF 126 (nA #[nI nX k,nG p])) 35 126 true).run prog w= .ok (nT #[nA #[nI nX k,nG p],.bool true]) w:=fun _=>Yb
 unfold eT;go_enter func35,ntmps35
 go_wp2_with fail
 go_ret
 exact⟨rfl,(Chg.refl _ _).alloc _⟩
end
section
open _root_.Go.Proofs.Tryz
open Go Go.Shelf Go.RowKit Go.Lib Tree Ptr
theorem me{ks:List BY}{l:List Tr}{p:BY}{o:CW}(h:Xi ks l p= .yes o)(f:ks.length=l.length):o.steps=[]\/∃u∈l,o.steps=Ai u:=by
 obtain⟨s,_,_,i,_,_,_,b,c⟩:=gn h
 cases a:AN (Ob s)with
 |false=>exact .inl (c a)
 |true=>
  obtain⟨d,e⟩:=b a;have g:=Dk (Cp.1 d);refine .inr ⟨_, ?_,e⟩;rw[List.getD_eq_getElem?_getD,Q9 (by rw[<-f];exact g),Option.getD_some];exact List.getElem_mem _
def mB(p:Bq):Prop:=p.steps.length<=4294967296/\∀s∈p.steps,s.keys.length<=4294967296
theorem mh{p:Bq}(h:p.steps=[]):mB p:=by unfold mB;rw[h];exact⟨Zh,fun s a=>by cases a⟩
theorem mx{p:Bq}{u:Tr}(a:Bt u)(h:p.steps=MW u):mB p:=by
 unfold mB;rw[h,Ju];exact⟨by have:=(Ar a.fits).1;omega,fun s b=>by have:=(KI a s b).keys;omega⟩
theorem lJ:∀{l:List Tr} {a os:List CW} {i:Nat},(∀u∈l,Bt u)->RV a i l= .yes os->(∀o∈a,mB o.toI)->os.length=a.length+l.length/\∀o∈os,mB o.toI
 |[],a,os,i,_,h,c=>by simp only[RV]at h;injection h with h;subst h;exact⟨Zh,c⟩
 |t::r,a,os,i,f,h,c=>by
  cases t with
  |obj ks m=>
   simp only[RV]at h;split at h
   .cases h
   .rename_i o k
    have g:=f (.obj ks m) Zh;have j:ks.length=m.length:=g.good.2.1
    have:=lJ (fun u d=>f u (by simp[d])) h (fun p n=>by
     rcases Qf.1 n with b|b
     .exact c p b
     .rw[List.mem_singleton.1 b]
      rcases me k j with e|⟨u,d,e⟩
      .exact mh (by show o.steps.map Aw.toI=[];rw[e];rfl)
      .exact mx (gd g d) (by show o.steps.map Aw.toI=_;rw[e];rfl))
    rw[Qk,List.length_singleton]at this;exact⟨by rw[this.1,Qj];omega,this.2⟩
  |_=>simp only[RV]at h;cases h
theorem lI:∀{l:List Tr} {a:List CW} {i k:Nat} {q:BY},RV a i l= .no k q->k≠0
 |[],a,i,k,q,h=>by simp only[RV]at h;cases h
 |t::r,a,i,k,q,h=>by
  cases t with
  |obj ks m=>
   simp only[RV]at h;split at h
   .rename_i e p c
    injection h with b d
    exact b▸mn c
   .exact lI h
  |_=>simp only[RV]at h;injection h;omega
theorem mu{t:Tr}{os:List CW}(b:Bt t)(h:aM t= .yes os):(os.map CW.toI).length<=4294967296/\∀p∈os.map CW.toI,mB p:=by
 cases t with
 |list l=>
  have:=lJ (l:=l) (fun u e=>gd b e) h (fun o a=>by cases a);have c:=b.many;simp only[Ab]at c;refine⟨by rw[List.length_map,this.1,List.length_nil];omega,fun p d=> ?_⟩;obtain⟨o,a,rfl⟩:=List.mem_map.1 d;exact this.2 o a
 |_=>cases h
theorem lT(l:List Ap)(S:Vl)(xs:List Vl)(w:Wl)(hL:Br w)(ak:dM w)(ag:10<=w.heap.size)(r:aq w S l xs):
  Cl prog 9 #[S] w (BU true w):=by
 have v:=hZ (WL l S xs w r.row r.at_ r.small r.many);have P:=hZ hL;have ae:=hZ ak;have V:=hZ ag;obtain⟨au,av,rfl,_⟩:=r.row.form;obtain⟨ln,am⟩:=Ue l.length
 rw[<-am]at v|-;clear hL ak ag r am
 cases I:AS l with
 |none=>
  rw[I]at v;clear I ae;go_enter func9,ntmps9
  go_wp2_with fail
  refine v.o.mono ?_;rintro e g ⟨rfl,x⟩;have J:=hZ x;clear x
  go_wp2_with(first
   |(refine Ae rfl _ _ _ rfl g.heap.size zV ZN ZN 29 zV (BD _ _ zV _ _ rfl rfl) A9 rfl Ya ?_;intro w2 R H A;have c:=UD (Chg w w2 []) (J.o.trans (Chg.step (b:=_) (by exact cg cR) A (fun i hi hl=>by simp at hi;omega)));clear R H A)
   |(go_at_call 13;refine(Ko w2 (P.o.kept c.o) (Q7 V.o c.o.size)).mono ?_;rintro e w3 ⟨rfl,f⟩;have d:=hZ (c.o.trans f);clear f))
  go_ret
  exact⟨rfl,d.o⟩
 |some t=>
  rw[I]at v;clear I;go_enter func9,ntmps9
  go_wp2_with fail
  refine v.o.mono ?_;rintro e g ⟨⟨F,U,cs,tb,rfl,B,aj,hT,ai,al⟩,x⟩;have J:=hZ x;have HT:=hZ hT;have HV:=hZ B;have ab:=UD (∀b,F b->b<g.heap.size) (fun b j=>(aj b j).2);have aa:=UD (∀b,U b->b<g.heap.size) (fun b j=>(ai b j).2);have N:=hZ al;have O:=UD ((prog.info? 29).map (·.size)=nM cs.length) (by rw[(E7 B).2];exact A9);have ap:=hZ (E7 B).1;have ar:=UD (zV.length=cs.length) (by rw[(E7 B).2];rfl);clear x B aj hT ai al;go_wp2_with(refine Ae rfl _ _ _ rfl g.heap.size cs ZN ZN 29 zV (BD _ _ zV _ _ rfl rfl) O.o ar.o ap.o ?_;intro w2 R H A;have Z:=hZ H;have s:=UD (Chg g w2 []) (Chg.step (b:=_) (by exact cg cR) A (fun i hi hl=>by simp at hi;omega));clear R H A)
  have c:=UD (Chg w w2 []) (J.o.trans s.o);have af:=UD (∀a,Chg w2 a []->Cl prog 13 #[] a (BU true a)) fun a C=>Ko a (P.o.kept (c.o.trans C)) (Q7 V.o (c.o.trans C).size)
  have E:=hZ (mF t U tb w2 (P.o.kept c.o) (ae.o.kept c.o) (HT.o.kept s.o aa.o) (fun b j=>Q6 (aa.o b j) s.o.size) N.o);have G:=UD (∀a,Chg w2 a []->Cl prog 36 #[nA cs.toArray] a (kW (aM t) a)) fun a C=>mt t F cs a (AL.kept ((s.o.trans C).keepsF ab.o) (fun _ h=>h) _ _ HV.o) (fun b j=>Q6 (ab.o b j) (s.o.trans C).size) N.o
  cases m:aM t with
  |no k q=>
   rw[m]at E G
   have hk:(k:Int)≠0:=by
    have:k≠0:=by
     cases t with
     |list l=>exact lI m
     |_=>injection m;omega
    omega
   have D:=UD (∀a,Cl prog 35 #[eT k q,nI nX k,nG q] a (BU true a)) fun a=>jL k hk q a
   unfold eT at D;have ao:=UD (∀a,Cl prog 17 #[nS nN 0 0,nS nN 0 0,.func (.func 18) #[] #[]] a (BU true a)) fun a=>lj [] _ _ a ⟨nN,0,rfl,fun i p h=>by cases h⟩ ⟨nN,0,rfl,fun i p h=>by cases h⟩ ZM (fun p hp=>by cases hp)
   clear m hk
   go_wp2_with(first
    |(go_at_call 34;refine E.o.mono ?_;rintro e w3 ⟨rfl,f⟩;unfold eT;have d:=hZ f;clear f)
    |(refine Bp rfl _ _ rfl g.heap.size ZN 29 cs (by exact Z.o.kept d.o) _ underlying29 rfl O.o ?_)
    |(go_at_call 36;refine(G.o _ d.o).mono ?_;rintro e w4 ⟨rfl,n⟩;have K:=hZ (d.o.trans n);clear n)
    |(go_at_call 35;refine(D.o _).mono ?_;rintro e T ⟨rfl,o⟩;have L:=hZ (K.o.trans o);clear o)
    |(go_at_call 17;refine(ao.o T).mono ?_;rintro e w6 ⟨rfl,y⟩;have u:=hZ (L.o.trans y);clear y)
    |(go_at_call 13;refine(af.o _ u.o).mono ?_;rintro e w7 ⟨rfl,z⟩;have M:=hZ (u.o.trans z);clear z))
   go_ret
   exact⟨rfl,c.o.trans M.o⟩
  |yes os=>
   rw[m]at E G;have ad:=hZ (mu N.o m);have D:=UD (∀a,Cl prog 35 #[.nilIface,nI nX 0,nG ⟨#[]⟩] a (BU true a)) fun a=>jw _ a
   clear m
   go_wp2_with(first
    |(go_at_call 34;refine E.o.mono ?_;rintro e w3 ⟨s3,x3,G3,rfl,f,ah⟩;have X:=hZ (iI.ofAt f);obtain⟨a3,c3,rfl,_⟩:=f.row.form;rw[List.length_map]at X|-;have d:=hZ ah;clear f ah)
    |(refine Bp rfl _ _ rfl g.heap.size ZN 29 cs (by exact Z.o.kept d.o) _ underlying29 rfl O.o ?_)
    |(go_at_call 36;refine(G.o _ d.o).mono ?_;rintro e w4 ⟨s4,x4,G4,rfl,n,Q⟩;have Y:=hZ (iI.ofAt n);obtain⟨a4,c4,rfl,_⟩:=n.row.form;rw[List.length_map]at Y|-;have an:=hZ Q;have K:=hZ (d.o.trans Q);clear n Q)
    |(go_at_call 35;refine(D.o _).mono ?_;rintro e T ⟨rfl,o⟩;have W:=hZ o;have L:=hZ (K.o.trans o);clear o)
    |(go_at_call 17;refine(lj _ _ _ T (X.o.kept (an.o.trans W.o)) (Y.o.kept W.o) ad.o.1 ad.o.2).mono ?_;rintro e w6 ⟨rfl,y⟩;have u:=hZ (L.o.trans y);clear y)
    |(go_at_call 13;refine(af.o _ u.o).mono ?_;rintro e w7 ⟨rfl,z⟩;have M:=hZ (u.o.trans z);clear z))
   go_ret
   exact⟨rfl,c.o.trans M.o⟩
end
end Go.Proofs.YtkfnkppdhcaeoaaGreatDoor

/- Part 3 of the proof of patchKnown_card. -/
import Derived.Test.YtkfnkppdhcaeoaaGreatDoorM28
import Derived.Test.YtkfnkppdhcaeoaaGreatDoorW02
set_option maxRecDepth 100000
set_option maxHeartbeats 32000000
set_option linter.all false
namespace Go.Proofs.YtkfnkppdhcaeoaaGreatDoor
open Go renaming Calls->Cl,TypeId->Ti,Value->Vl,World->Wl
open Go.Value renaming agg->nA,iface->nF,int->nI,pointer->nP,slice->nS,string->nG,tuple->nT
open Go.IntKind renaming i64->nX
open Go.Ending renaming returned->nR
open Option renaming none->nN
section
open _root_.Go.Proofs.Tryz
open Go Go.RowKit Go.ChangeShapes Go.WideShapes Go.ChangeAt
theorem iK{H:Type}{enc:Ti×Vl->H}{P:Program}{w:Wl}{base:Nat}{C:Nat->Bool}{v:Bool}{c:Nat}{t e:Ti}{n:Nat}{cs:List Vl}{a:List (List UInt8)}{p:List MemPlace}(y:P.underlying t=some (.array n e))(u:P.underlying e=some .string)(q:P.cellsOf e=1)(r:P.cellsOf t=n)(h:DataW.trod enc P w base C v c t cs=some (.agg (a.map fun s=> .lit (.string s)),p)):cs=a.map fun s=>Vl.string ⟨s.toArray⟩:=by
 cases c with
 |zero=>simp[DataW.trod]at h
 |succ c=>
  simp only[DataW.trod,y,q,r,Nat.mul_one]at h;split at h
  .rename_i D
   obtain⟨xs,f,A⟩:=Option.map_eq_some_iff.1 h
   have g:xs.map (·.1)=a.map fun s=>(DataW.lit (.string s):DataW H):=by
    have:=congrArg Prod.fst A;simpa using this
   have E:xs.length=n:=by simpa using Lib.mapM_length f
   have F:a.length=n:=by
    have:=congrArg List.length g;simp at this;omega
   apply List.ext_getElem?;intro i;by_cases hi:i<n
   .obtain⟨b,m,x⟩:=Lib.mapM_at f i i (by simp[hi])
    obtain⟨z,o,j,_⟩:=DataW.trod_string u x
    have l:cs[i]? =some (.string z):=by
     have:=congrArg (·[0]?) o;simpa[List.getElem?_take,List.getElem?_drop]using this
    have d:(xs.map (·.1))[i]? =some (DataW.lit (.string z.data.toList):DataW H):=by simp[m,j]
    rw[g]at d;simp only[List.getElem?_map,Option.map_eq_some_iff,DataW.lit.injEq,Lit.string.injEq]at d;obtain⟨G,B,k⟩:=d;simp[l,B,k]
   .rw[List.getElem?_eq_none Zj,List.getElem?_eq_none (by simp;omega)]
  .cases h
theorem jf{W:Wl}{rest:List (String×DataW Unit)}(h:laidMet prog (("affidavit/patch.words",Rows.laid_affidavit_patch_words)::rest) W):dM W:=by
 obtain⟨k,⟨i,l,cs,g,p,q,c,d,f,b,_,_⟩,_⟩:=h;obtain rfl:=Q5 ((show prog.globalNamed "affidavit/patch.words" =some 0 by kernel_rfl).symm.trans c);obtain rfl:=Q5 ((show(prog.globals[0]?).map (·.type)=some 187 by kernel_rfl).symm.trans d);have a:cs.toList=([[97,100,100],[114,101,109,111,118,101],[114,101,112,108,97,99,101],[109,111,118,101],[99,111,112,121],[116,101,115,116]]:List (List UInt8)).map fun s=>Vl.string ⟨s.toArray⟩:=iK underlying187 underlying9 F4 Yb b
 intro m j;have e:W.var? prog "affidavit/patch.words" =some (([[97,100,100],[114,101,109,111,118,101],[114,101,112,108,97,99,101],[109,111,118,101],[99,111,112,121],[116,101,115,116]]:List (List UInt8)).map fun s=>Vl.string ⟨s.toArray⟩).toArray:=by rw[f,<-a]
 have:=World.var?_cell (show prog.globalNamed "affidavit/patch.words" =some 0 by kernel_rfl) e m;rw[this];have:m=0\/m=1\/m=2\/m=3\/m=4\/m=5:=Zj
 rcases this with rfl|rfl|rfl|rfl|rfl|rfl<;>rfl
def iQ:List (String×DataW Unit):=Rows.patchBackUptoRow.laid
theorem iX(W:Wl):laidMetH prog iQ W=laidMet prog [("math/bits.deBruijn32tab",Rows.laid_math_bits_deBruijn32tab),("math/bits.deBruijn64tab",Rows.laid_math_bits_deBruijn64tab),("internal/strconv.uint64pow10",Lib.tabData .u64 Lib.pow10Tab),("unicode/utf8.acceptRanges",Rows.laid_unicode_utf8_acceptRanges),("strconv.ErrRange",Rows.laid_strconv_ErrRange),("strconv.ErrSyntax",Rows.laid_strconv_ErrSyntax),("affidavit/patch.words",Rows.laid_affidavit_patch_words),("unicode/utf8.first",Rows.laid_unicode_utf8_first)] W:=Yb
theorem jv{W:Wl}(h:laidMetH prog iQ W)(i:W.ShapedOpen prog):Br W/\dM W/\10<=W.heap.size:=by
 rw[iX]at h;have b:=laidMet.tail (laidMet.tail h);have c:=laidMet.tail (laidMet.tail b);have d:=laidMet.tail c;have y:=jf (laidMet.tail d);have B:=Lib.tabIs_of_head (g:=3) Yb Yb underlying343 underlying25 Yb Yb b;obtain⟨C,E,w,_⟩:=laid_sentinel (g:=7) c Yb Yb underlying35 Ur underlying394 underlying396 rfl rfl underlying9 Yb Yb;obtain⟨D,F,x,_⟩:=laid_sentinel (g:=6) d Yb Yb underlying35 Ur underlying394 underlying396 rfl rfl underlying9 Yb Yb;obtain⟨z,A⟩:=i;obtain⟨cs,l,e,r⟩:=z 2 _ _ (by rw[N4];decide) Yx;obtain⟨ts,s,_,j⟩:=r WU;obtain rfl:=Q5 (U9.symm.trans s);obtain⟨v,f⟩:∃v,cs[0]? =some v:=⟨cs[0]'(by rw[e];decide),Array.getElem?_eq_getElem (by rw[e];decide)⟩
 obtain⟨u,t,a⟩:=j 0 v f;obtain rfl:u=3:=by simpa using t.symm
 have p:∃m,v= .int .i64 m:=by
  unfold Cell.ok at a;rw[underlying3]at a
  cases v with
  |int k n=>exact⟨n,by rw[a.1]⟩
  |_=>exact a.elim
 obtain⟨m,rfl⟩:=p;refine⟨⟨⟨m, ?_⟩,B,⟨_,_,x⟩,⟨_,_,w⟩⟩,y, ?_⟩
 .exact UM l f
 .obtain⟨o,_,q,_⟩:=A 14 (by rw[N4];decide) (by rw[SP];decide)
  have:=(Array.getElem?_eq_some_iff.1 q).1;omega
def kf:DataW Unit->Array Vl
 | .agg l=>(l.flatMap fun| .lit (.string b)=>[Vl.string ⟨b.toArray⟩]|_=>[]).toArray
 |_=>#[]
noncomputable def ie(os:Os):Wl:=
 let N:=(World.settled prog os).heap.size
 let w0:=World.holding prog os ⟨#[.cells #[.string (Zd Rows.laid_strconv_ErrSyntax)] 396,.cells #[.string (Zd Rows.laid_strconv_ErrRange)] 396],#[],[]⟩
 let a:=TJ (TJ w0.heap 6 #[.iface 394 (.pointer (some ⟨N,0,none⟩))]) 7 #[.iface 394 (.pointer (some ⟨N+1,0,none⟩))]
 let b:=TJ (TJ a 8 (LU Rows.laid_math_bits_deBruijn32tab)) 9 (LU Rows.laid_math_bits_deBruijn64tab)
 let c:=TJ (TJ b 3 (LU Rows.laid_internal_strconv_uint64pow10)) 5 (LU Rows.laid_unicode_utf8_acceptRanges)
 {w0 with heap:=TJ (TJ c 4 (LU Rows.laid_unicode_utf8_first)) 0 (kf Rows.laid_affidavit_patch_words)}
theorem jj(os:Os)(args:Array Vl):laidMet prog iQ ((ie os).forCall (fun _ _=>0) ⟨#[],args,[]⟩).memory:=
 (LaidIn.of_run [8,9,3,5,7,N0+1,6,N0,0,4] 8 Yb Yb Yb Yb).met
end
section
open _root_.Go.Proofs.Tryz
open Go Go.Shelf Go.RowKit Go.Lib
theorem iR(k a:Int)(c:k≠0)(b:a<0)(w:Wl):Cl prog 20 #[nF 50 (nI nX k),nI nX k,nI nX a] w (BU true w):=by
 have d:(k==0)=false:=by simpa using c
 have e:decide (a<0)=true:=decide_eq_true b;have f:(k==k)=true:=Zh
 have g:∀w:Wl,(Instr.typeAssert (nF 50 (nI nX k)) 35 50 true).run prog w= .ok (nT #[nI nX k,.bool true]) w:=fun _=>Yb
 go_enter func20,ntmps20
 go_wp2_with fail
 go_ret
 exact⟨rfl,Chg.refl _ _⟩
theorem iE(k i:Int)(a:k≠0)(hi:0<=i)(w:Wl):Cl prog 20 #[Hk k i,nI nX k,nI nX i] w (BU true w):=by
 have b:(k==0)=false:=by simpa using a
 have c:decide (i<0)=false:=decide_eq_false Zj;have d:(k==k)=true:=Zh
 have e:∀w:Wl,(Instr.typeAssert (nF 52 (nA #[nI nX k,nI nX i])) 35 52 true).run prog w= .ok (nT #[nA #[nI nX k,nI nX i],.bool true]) w:=fun _=>Yb
 unfold Hk;go_enter func20,ntmps20
 go_wp2_with fail
 go_ret
 exact⟨rfl,(Chg.refl _ _).alloc _⟩
theorem jL(k:Int)(a:k≠0)(p:BY)(w:Wl):Cl prog 35 #[eT k p,nI nX k,nG p] w (BU true w):=by
 have b:(k==0)=false:=by simpa using a
 have c:(k==k)=true:=Zh
 have e:(p.toList==p.toList)=true:=Zh
 have d:∀w:Wl,(Instr.typeAssert (nF 126 (nA #[nI nX k,nG p])) 35 126 true).run prog w= .ok (nT #[nA #[nI nX k,nG p],.bool true]) w:=fun _=>Yb
 unfold eT;go_enter func35,ntmps35
 go_wp2_with fail
 go_ret
 exact⟨rfl,(Chg.refl _ _).alloc _⟩
end
section
open _root_.Go.Proofs.Tryz
open Go Go.Shelf Go.RowKit Go.Lib Tree Ptr
structure nf(w:Wl)(ops:List Bq)(so:Vl)(ys:List Vl):Prop where
 row:As w so 4 ops.length ys
 at_:Cc w ops ys
 small:∀o∈ops,T7 o
 many:ops.length<=65536
theorem nf.kept{w w':Wl}{b:List Bq}{c:Vl}{ys:List Vl}(h:nf w b c ys)(a:Chg w w' []):nf w' b c ys:=⟨h.row.kept a,Cc.kept a h.at_,h.small,h.many⟩
theorem nz(f:List Bq)(D:Vl)(ys:List Vl)(a:Option Addr)(n c:Nat)(w:Wl)(u:Br w)(r:10<=w.heap.size)(h:nf w f D ys)(k i:Nat)(N:k≠0)(v:BR T0 [] 0 f= .no k i):
  Cl prog 32 #[nS a n c,nI nX k,nI nX i,D] w (BU true w):=by
 have I:=hZ u;have E:=hZ r;have b:=hZ h;have J:=hZ v;have l:(k:Int)≠0:=Zj
 have q:=UD (∀j,Cl prog 20 #[Hk k i,nI nX k,nI nX i] j (BU true j)) fun j=>iE k i l Zj j
 unfold Hk at q;have Q:((k:Int) !=0)=true:=bne_iff_ne.2 l;obtain⟨R,S,rfl,_⟩:=h.row.form;obtain⟨m,o⟩:=Ue f.length
 have P:=hZ o;rw[<-o]at b|-;clear u r h v N l o;go_enter func32,ntmps32
 go_wp2_with(first
  |(go_at_call 33;refine(Tc w).mono ?_;rintro e T ⟨g,xs,rfl,x,y,z⟩;have K:=hZ x;have L:=hZ y;have M:=hZ z;clear x y z)
  |(go_at_call 28;go_loud(refine(Wk LH PA K.o L.o).mono ?_;rintro e w2 ⟨F,O,rfl,A,B,C,_⟩;have d:=hZ (M.o.trans C);have p:=hZ (IB F O T0 f _ ys w2 ⟨I.o.kept d.o,Q7 E.o d.o.size,A,B,LH,(b.o.kept d.o).row,(b.o.kept d.o).at_,b.o.small,b.o.many⟩);rw[J.o]at p;clear A B C))
  |(go_at_call 15;refine p.o.mono ?_;rintro e U ⟨rfl,s⟩;unfold Hk;have G:=hZ (d.o.trans s);clear s)
  |(go_at_call 20;refine(q.o _).mono ?_;rintro e V ⟨rfl,t⟩;have H:=hZ (G.o.trans t);clear t))
 go_ret
 exact⟨rfl,H.o⟩
theorem nr(i:List Bq)(J K:Vl)(ys:List Vl)(w:Wl)(x:Br w)(r:10<=w.heap.size)(h:nf w i J ys){t:Tr}{u:List CW}(y:Bt t)(z:BR T0 [] 0 i= .yes t u)(A:DX w K (MW t)):
  Cl prog 32 #[K,nI nX 0,nI nX 0,J] w (BU true w):=by
 have P:=hZ x;have M:=hZ r;have b:=hZ h;have Q:=hZ z;have q:=hZ A;have j:=hZ y;obtain⟨wa,wc,rfl,_⟩:=A;obtain⟨sa,sc,rfl,_⟩:=h.row.form;obtain⟨m,k⟩:=Ue i.length
 have HM:=hZ k;obtain⟨n,l⟩:=Ue ((MW t).length)
 have HN:=hZ l;rw[<-k]at b|-;rw[<-l]at q|-;clear x r h z y k l;go_enter func32,ntmps32
 go_wp2_with(first
  |(go_at_call 33;refine(Tc w).mono ?_;rintro e w1 ⟨g,xs,rfl,d,f,a⟩;have S:=hZ d;have T:=hZ f;have U:=hZ a;clear d f a)
  |(go_at_call 28;go_loud(refine(Wk LH PA S.o T.o).mono ?_;rintro e w2 ⟨F,Z,rfl,C,D,E,_⟩;have c:=hZ (U.o.trans E);have p:=hZ (IB F Z T0 i _ ys w2 ⟨P.o.kept c.o,Q7 M.o c.o.size,C,D,LH,(b.o.kept c.o).row,(b.o.kept c.o).at_,b.o.small,b.o.many⟩);rw[Q.o]at p;clear C D E))
  |(go_at_call 15;refine p.o.mono ?_;rintro e w3 ⟨L,aa,rfl,G,H,I,_⟩;have V:=hZ G;have W:=hZ H;have N:=hZ (c.o.trans I);clear G H I)
  |(go_at_call 38;go_loud(refine(TY L aa t w3 V.o W.o (by have:=(Ar j.o.fits).1;omega)).mono ?_;rintro e w4 ⟨g7,ad,G7,ae,rfl,d,f,a,Y,B⟩;have R:=hZ (PW d f B (by rw[BL]));have ab:=hZ a;have o:=hZ (N.o.trans a);clear d f a Y B))
  |(go_at_call 37;go_loud(refine(Rf (MW t) _ _ w4 R.o (q.o.kept o.o) (by rw[Ju];have:=(Ar j.o.fits).1;omega) (fun s X=>by have:=(KI j.o s X).keys;omega)).mono ?_;rintro e w5 ⟨rfl,v⟩;have O:=hZ (o.o.trans v);clear v)))
 go_ret
 exact⟨rfl,O.o⟩
theorem m7(w:Wl):Cl prog 43 #[nP nN,nS nN 0 0] w fun e w'=>e= nR (nT #[nP nN,nF 50 (nI nX 1)])/\Chg w w' []:=by
 go_enter func43,ntmps43
 go_wp2_with fail
 go_ret2
 exact⟨rfl,Chg.refl _ _⟩
theorem qzk(w:Wl):Cl prog 15 #[nP nN,nS nN 0 0] w fun e w'=>e= nR (nT #[nP nN,nF 50 (nI nX 1)])/\Chg w w' []:=by
 go_enter func15,ntmps15
 go_wp2_with((go_at_call 43;refine(m7 w).mono ?_;rintro e c ⟨rfl,a⟩;have b:=hZ a;clear a))
 go_ret2
 exact⟨rfl,b.o⟩
theorem nt(w:Wl):Cl prog 21 #[nP nN,nS nN 0 0] w fun e w'=>e= nR (nT #[nS nN 0 0,nF 50 (nI nX 1)])/\Chg w w' []:=by
 go_enter func21,ntmps21
 go_wp2_with((go_at_call 43;refine(m7 w).mono ?_;rintro e c ⟨rfl,a⟩;have b:=hZ a;clear a))
 go_ret2
 exact⟨rfl,b.o⟩
theorem qzl(w:Wl):Cl prog 34 #[nP nN] w fun e w'=>e= nR (nT #[nS nN 0 0,nF 50 (nI nX 1)])/\Chg w w' []:=by
 go_enter func34,ntmps34
 go_wp2_with fail
 go_ret2
 exact⟨rfl,Chg.refl _ _⟩
end
end Go.Proofs.YtkfnkppdhcaeoaaGreatDoor

/- Part 2 of the proof of patchBack_card. -/
import Derived.Test.YtkfnkppdhcaeoaaGreatDoorM28
import Derived.Deep.DeepWitnessRowRef
import Derived.Lib.LaidIn
import Derived.Lib.LaidTab
import Derived.Stop.LaidErr
import Derived.Test.YtkfnkppdhcaeoaaGreatDoorCards
import Derived.Test.YtkfnkppdhcaeoaaGreatDoorTie
import Derived.Test.YtkfnkppdhcaeoaaGreatDoorW01
set_option maxRecDepth 100000
set_option maxHeartbeats 32000000
set_option linter.all false
namespace Go.Proofs.YtkfnkppdhcaeoaaGreatDoor
open Go renaming TypeId->Ti,Value->Vl,World->Wl
section
open _root_.Go.Proofs.Tryz
open Go Go.RowKit Go.ChangeShapes Go.WideShapes Go.ChangeAt
noncomputable abbrev N0:Nat:=(World.settled prog default).heap.size
theorem BS{H:Type}{enc:Ti×Vl->H}{P:Program}{w:Wl}{base:Nat}{C:Nat->Bool}{v:Bool}{c:Nat}{t e:Ti}{n:Nat}{cs:List Vl}{a:List (List UInt8)}{p:List MemPlace}(y:P.underlying t=some (.array n e))(u:P.underlying e=some .string)(q:P.cellsOf e=1)(r:P.cellsOf t=n)(h:DataW.trod enc P w base C v c t cs=some (.agg (a.map fun s=> .lit (.string s)),p)):cs=a.map fun s=>Vl.string ⟨s.toArray⟩:=by
 cases c with
 |zero=>simp[DataW.trod]at h
 |succ c=>
  simp only[DataW.trod,y,q,r,Nat.mul_one]at h;split at h
  .rename_i D
   obtain⟨xs,f,A⟩:=Option.map_eq_some_iff.1 h
   have g:xs.map (·.1)=a.map fun s=>(DataW.lit (.string s):DataW H):=by
    have:=congrArg Prod.fst A;simpa using this
   have E:xs.length=n:=by simpa using Lib.mapM_length f
   have F:a.length=n:=by
    have:=congrArg List.length g;simp at this;omega
   apply List.ext_getElem?;intro i;by_cases hi:i<n
   .obtain⟨b,m,x⟩:=Lib.mapM_at f i i (by simp[hi])
    obtain⟨z,o,j,_⟩:=DataW.trod_string u x
    have l:cs[i]? =some (.string z):=by
     have:=congrArg (·[0]?) o;simpa[List.getElem?_take,List.getElem?_drop]using this
    have d:(xs.map (·.1))[i]? =some (DataW.lit (.string z.data.toList):DataW H):=by simp[m,j]
    rw[g]at d;simp only[List.getElem?_map,Option.map_eq_some_iff,DataW.lit.injEq,Lit.string.injEq]at d;obtain⟨G,B,k⟩:=d;simp[l,B,k]
   .rw[List.getElem?_eq_none Zj,List.getElem?_eq_none (by simp;omega)]
  .cases h
theorem laid_words{W:Wl}{rest:List (String×DataW Unit)}(h:laidMet prog (("affidavit/patch.words",Rows.laid_affidavit_patch_words)::rest) W):dM W:=by
 obtain⟨k,⟨i,l,cs,g,p,q,c,d,f,b,_,_⟩,_⟩:=h;obtain rfl:=Q5 ((show prog.globalNamed "affidavit/patch.words" =some 0 by kernel_rfl).symm.trans c);obtain rfl:=Q5 ((show(prog.globals[0]?).map (·.type)=some 187 by kernel_rfl).symm.trans d);have a:cs.toList=([[97,100,100],[114,101,109,111,118,101],[114,101,112,108,97,99,101],[109,111,118,101],[99,111,112,121],[116,101,115,116]]:List (List UInt8)).map fun s=>Vl.string ⟨s.toArray⟩:=BS underlying187 underlying9 F4 Yb b
 intro m j;have e:W.var? prog "affidavit/patch.words" =some (([[97,100,100],[114,101,109,111,118,101],[114,101,112,108,97,99,101],[109,111,118,101],[99,111,112,121],[116,101,115,116]]:List (List UInt8)).map fun s=>Vl.string ⟨s.toArray⟩).toArray:=by rw[f,<-a]
 have:=World.var?_cell (show prog.globalNamed "affidavit/patch.words" =some 0 by kernel_rfl) e m;rw[this];have:m=0\/m=1\/m=2\/m=3\/m=4\/m=5:=Zj
 rcases this with rfl|rfl|rfl|rfl|rfl|rfl<;>rfl
def BX:List (String×DataW Unit):=Rows.patchBackUptoRow.laid
theorem C2(W:Wl):laidMetH prog BX W=laidMet prog [("math/bits.deBruijn32tab",Rows.laid_math_bits_deBruijn32tab),("math/bits.deBruijn64tab",Rows.laid_math_bits_deBruijn64tab),("internal/strconv.uint64pow10",Lib.tabData .u64 Lib.pow10Tab),("unicode/utf8.acceptRanges",Rows.laid_unicode_utf8_acceptRanges),("strconv.ErrRange",Rows.laid_strconv_ErrRange),("strconv.ErrSyntax",Rows.laid_strconv_ErrSyntax),("affidavit/patch.words",Rows.laid_affidavit_patch_words),("unicode/utf8.first",Rows.laid_unicode_utf8_first)] W:=Yb
theorem F1{W:Wl}(h:laidMetH prog BX W)(i:W.ShapedOpen prog):Br W/\dM W/\10<=W.heap.size:=by
 rw[C2]at h;have b:=laidMet.tail (laidMet.tail h);have c:=laidMet.tail (laidMet.tail b);have d:=laidMet.tail c;have y:=laid_words (laidMet.tail d);have B:=Lib.tabIs_of_head (g:=3) Yb Yb underlying343 underlying25 Yb Yb b;obtain⟨C,E,w,_⟩:=laid_sentinel (g:=7) c Yb Yb underlying35 Ur underlying394 underlying396 rfl rfl underlying9 Yb Yb;obtain⟨D,F,x,_⟩:=laid_sentinel (g:=6) d Yb Yb underlying35 Ur underlying394 underlying396 rfl rfl underlying9 Yb Yb;obtain⟨z,A⟩:=i;obtain⟨cs,l,e,r⟩:=z 2 _ _ (by rw[N4];decide) Yx;obtain⟨ts,s,_,j⟩:=r WU;obtain rfl:=Q5 (U9.symm.trans s);obtain⟨v,f⟩:∃v,cs[0]? =some v:=⟨cs[0]'(by rw[e];decide),Array.getElem?_eq_getElem (by rw[e];decide)⟩
 obtain⟨u,t,a⟩:=j 0 v f;obtain rfl:u=3:=by simpa using t.symm
 have p:∃m,v= .int .i64 m:=by
  unfold Cell.ok at a;rw[underlying3]at a
  cases v with
  |int k n=>exact⟨n,by rw[a.1]⟩
  |_=>exact a.elim
 obtain⟨m,rfl⟩:=p;refine⟨⟨⟨m, ?_⟩,B,⟨_,_,x⟩,⟨_,_,w⟩⟩,y, ?_⟩
 .exact UM l f
 .obtain⟨o,_,q,_⟩:=A 14 (by rw[N4];decide) (by rw[SP];decide)
  have:=(Array.getElem?_eq_some_iff.1 q).1;omega
def G0:DataW Unit->Array Vl
 | .agg l=>(l.flatMap fun| .lit (.string b)=>[Vl.string ⟨b.toArray⟩]|_=>[]).toArray
 |_=>#[]
noncomputable def A2(os:Os):Wl:=
 let N:=(World.settled prog os).heap.size
 let w0:=World.holding prog os ⟨#[.cells #[.string (Zd Rows.laid_strconv_ErrSyntax)] 396,.cells #[.string (Zd Rows.laid_strconv_ErrRange)] 396],#[],[]⟩
 let a:=TJ (TJ w0.heap 6 #[.iface 394 (.pointer (some ⟨N,0,none⟩))]) 7 #[.iface 394 (.pointer (some ⟨N+1,0,none⟩))]
 let b:=TJ (TJ a 8 (LU Rows.laid_math_bits_deBruijn32tab)) 9 (LU Rows.laid_math_bits_deBruijn64tab)
 let c:=TJ (TJ b 3 (LU Rows.laid_internal_strconv_uint64pow10)) 5 (LU Rows.laid_unicode_utf8_acceptRanges)
 {w0 with heap:=TJ (TJ c 4 (LU Rows.laid_unicode_utf8_first)) 0 (G0 Rows.laid_affidavit_patch_words)}
theorem F0(os:Os)(args:Array Vl):laidMet prog BX ((A2 os).forCall (fun _ _=>0) ⟨#[],args,[]⟩).memory:=
 (LaidIn.of_run [8,9,3,5,7,N0+1,6,N0,0,4] 8 Yb Yb Yb Yb).met
end
end Go.Proofs.YtkfnkppdhcaeoaaGreatDoor

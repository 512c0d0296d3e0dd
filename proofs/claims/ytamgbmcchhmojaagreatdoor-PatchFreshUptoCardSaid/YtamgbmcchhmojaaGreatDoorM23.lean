/- Part 23 of the proof of patchFresh_card. -/
import Derived.Deep.DeepWitnessRowRef
import Derived.Deep.MidRow
import Derived.Lib.LaidIn
import Derived.Stop.LaidErr
import Derived.Test.YtamgbmcchhmojaaGreatDoorCards
import Derived.Test.YtamgbmcchhmojaaGreatDoorTie
import Derived.Test.YtamgbmcchhmojaaGreatDoorM22
set_option maxRecDepth 100000
set_option maxHeartbeats 32000000
set_option linter.all false
namespace Go.Proofs.YtamgbmcchhmojaaGreatDoor
open Go renaming Calls->Cl,TypeId->Ti,Value->Vl,World->Wl
open Go.Value renaming agg->nA,int->nI,pointer->nP,slice->nS,string->nG,tuple->nT
open Go.IntKind renaming i64->nX
open Go.Ending renaming returned->nR
open Option renaming none->nN,some->nM
section
open _root_.Go.Proofs.Tryz
open Go Go.RowKit Go.ChangeShapes Go.WideShapes Go.ChangeAt
variable{P:Program}{H:Type}{v:Vl}{W w w':Wl}
theorem Xm:ownKnob prog.godebug=none:=Yb
theorem Sl: "*" ++ "errors.errorString" = "*errors.errorString" :=ZM
theorem Ur(u:Ti)(h:prog.typeName? 3 u=some "*errors.errorString"):u=344:=
 typeName_ptr_named (nm:= "errors.errorString") (by rw[Sl];kernel_rfl) Yb ZM u (by rw[Sl];exact h)
theorem Yx:((begin prog (fun _ _=>0) default).world.heap[2]?).bind Obj.row? =some (#[.int .i64 0],3):=Yb
theorem WU:prog.buildable 3=true:=Yb
theorem U9:prog.cellTypes prog.depth 3=some [3]:=Yb
theorem SP:(begin prog (fun _ _=>0) default).world.heap.size=15:=Yb
theorem N4:prog.globals.size=10:=Yb
theorem UM{g:Nat}{cs:Array Vl}{T:Ti}(h:W.heap[g]? =some (.cells cs T (0,0)))(a:cs[0]? =some v):W.cell? ⟨g,0,none⟩=some v:=by
 simp only[World.cell?,h];exact a
def az:DataW Unit->List Vl
 | .lit (.int k z)=>[.int k z]
 | .agg [.lit (.int k z),.lit (.int a b)]=>[.int k z,.int a b]
 |_=>[]
def LU:DataW Unit->Array Vl
 | .agg l=>(l.flatMap az).toArray
 |_=>#[]
def Zd:DataW Unit->BY
 | .iface _ (.ptr (.agg [.lit (.string l)]))=>⟨l.toArray⟩
 |_=>⟨#[]⟩
def TJ(h:Array Obj)(g:Nat)(cs:Array Vl):Array Obj:=h.modify g fun
 | .cells _ t frozen=> .cells cs t frozen
 |o=>o
noncomputable abbrev N0:Nat:=(World.settled prog default).heap.size
theorem Chg.keptBut(h:Chg w w' [])(a:MemPlace->Prop):w.keptBut w' a:=by
 refine⟨h.os,h.output,fun i hi=> ?_⟩;rw[h.block i hi Zh];exact(World.keptBut_refl w a).2.2 i hi
theorem Pq{enc:Ti×Vl->H}{f:Func}{s:ChangeSpec}{l x z w:Bool}{d:Wl}{args:Array Vl}{ds h:List (DataW H)}{c pa pv:List MemPlace}(i:DataW.Whole enc P f.params.toList s.vars l W args.toList ds h c)(q:∀(b:Nat) (e:Nat->Bool) (A:Bool),DataW.TrodAll enc P d b e A f.resultTypes.toList (v.resultList f.resultTypes.size) (s.fn H (ds++h)).results [])(m:∀e:Nat->Bool,(∀p∈c,e p.block=true)->DataW.TrodAll enc P d 0 e true f.params.toList args.toList (s.fn H (ds++h)).args pa)(u:∀e:Nat->Bool,(∀p∈c,e p.block=true)->DataW.TrodVars enc P d e s.vars (s.fn H (ds++h)).vars pv)(k:c=pa++pv)(C:W.keptBut d (·∈c))(B:∀b g,b<W.heap.size->d.frozen? ⟨b,g,none⟩=W.frozen? ⟨b,g,none⟩)(F:∀(j:Nat) (t:Ti) (r:Vl),f.resultTypes[j]? =some t->(v.resultList f.resultTypes.size)[j]? =some r->Vl.okWide P d .any 0 t r):
  s.post enc P f l x z w W args v d:=by
 have D:∀p∈c,p.block<W.heap.size:=fun p a=>i.lt p a;have o:∀p∈c,(fun b=>decide (b<W.heap.size)) p.block=true:=fun p a=>by simpa using i.lt p a
 refine⟨ds,h,c,[],pa,pv,i,q _ _ _,m _ o,u _ o,World.keptBut_mono (fun p a=>⟨a, ?_⟩) C,fun _=> ?_⟩
 .rw[k,Qf]at a;exact Or.inr a
 .obtain⟨_,_,_,_,_,G,E⟩:=i;refine⟨F,_,_,([]++pa)++pv,⟨[]++pa,pv,trodAll_append (m _ (fun _ _=>rfl)) (q _ _ _),u _ (fun _ _=>rfl),rfl, ?_, ?_⟩, ?_⟩
  .intro b g a;have n:MemPlace.cell b g∈c:=by rw[k];simpa using a
   rw[B b g (D _ n)];exact G b g n
  .intro y;have:=E y;rw[k]at this;simpa using this
  .intro p a _;rw[k];simpa using a
theorem Me:laidOutB prog=true:=Yb
theorem Chg.sameAt(h:Chg w w' []){p:MemPlace}(a:p.block<w.heap.size):w.sameAt w' p:=by
 cases p with
 |cell b c=>exact h.cell (p:=⟨b,c,Option.none⟩) a Zh
 |map b=>exact h.block b a Zh
theorem iK{enc:Ti×Vl->H}{base:Nat}{C:Nat->Bool}{v:Bool}{c:Nat}{t e:Ti}{n:Nat}{cs:List Vl}{a:List (List UInt8)}{p:List MemPlace}(y:P.underlying t=some (.array n e))(u:P.underlying e=some .string)(q:P.cellsOf e=1)(r:P.cellsOf t=n)(h:DataW.trod enc P w base C v c t cs=some (.agg (a.map fun s=> .lit (.string s)),p)):cs=a.map fun s=>Vl.string ⟨s.toArray⟩:=by
 cases c with
 |zero=>simp[DataW.trod]at h
 |succ c=>
  simp only[DataW.trod,y,q,r,Nat.mul_one]at h;split at h
  .rename_i D;obtain⟨xs,f,A⟩:=Option.map_eq_some_iff.1 h
   have g:xs.map (·.1)=a.map fun s=>(DataW.lit (.string s):DataW H):=by
    have:=congrArg Prod.fst A;simpa using this
   have E:xs.length=n:=by simpa using Lib.mapM_length f
   have F:a.length=n:=by
    have:=congrArg List.length g;simp at this;omega
   apply List.ext_getElem?;intro i;by_cases hi:i<n
   .obtain⟨b,m,x⟩:=Lib.mapM_at f i i (by simp[hi]);obtain⟨z,o,j,_⟩:=DataW.trod_string u x
    have l:cs[i]? =some (.string z):=by
     have:=congrArg (·[0]?) o;simpa[List.getElem?_take,List.getElem?_drop]using this
    have d:(xs.map (·.1))[i]? =some (DataW.lit (.string z.data.toList):DataW H):=by simp[m,j]
    rw[g]at d;simp only[List.getElem?_map,Option.map_eq_some_iff,DataW.lit.injEq,Lit.string.injEq]at d;obtain⟨G,B,k⟩:=d;simp[l,B,k]
   .rw[List.getElem?_eq_none Zj,List.getElem?_eq_none (by simp;omega)]
  .cases h
theorem jf{rest:List (String×DataW Unit)}(h:laidMet prog (("affidavit/patch.words",Rows.laid_affidavit_patch_words)::rest) W):dM W:=by
 obtain⟨k,⟨i,l,cs,g,p,q,c,d,f,b,_,_⟩,_⟩:=h;obtain rfl:=Q5 ((show prog.globalNamed "affidavit/patch.words" =some 0 by kernel_rfl).symm.trans c);obtain rfl:=Q5 ((show(prog.globals[0]?).map (·.type)=some 135 by kernel_rfl).symm.trans d);have a:cs.toList=([[97,100,100],[114,101,109,111,118,101],[114,101,112,108,97,99,101],[109,111,118,101],[99,111,112,121],[116,101,115,116]]:List (List UInt8)).map fun s=>Vl.string ⟨s.toArray⟩:=iK underlying135 underlying9 F4 Yb b;intro m j;have e:W.var? prog "affidavit/patch.words" =some (([[97,100,100],[114,101,109,111,118,101],[114,101,112,108,97,99,101],[109,111,118,101],[99,111,112,121],[116,101,115,116]]:List (List UInt8)).map fun s=>Vl.string ⟨s.toArray⟩).toArray:=by rw[f,<-a]
 have:=World.var?_cell (show prog.globalNamed "affidavit/patch.words" =some 0 by kernel_rfl) e m;rw[this];have:m=0\/m=1\/m=2\/m=3\/m=4\/m=5:=Zj;rcases this with rfl|rfl|rfl|rfl|rfl|rfl<;>rfl
def iQ:List (String×DataW Unit):=Rows.patchFreshUptoRow.laid
theorem iX(W:Wl):laidMetH prog iQ W=laidMet prog [("math/bits.deBruijn32tab",Rows.laid_math_bits_deBruijn32tab),("math/bits.deBruijn64tab",Rows.laid_math_bits_deBruijn64tab),("internal/strconv.uint64pow10",Lib.tabData .u64 Lib.pow10Tab),("unicode/utf8.acceptRanges",Rows.laid_unicode_utf8_acceptRanges),("strconv.ErrRange",Rows.laid_strconv_ErrRange),("strconv.ErrSyntax",Rows.laid_strconv_ErrSyntax),("affidavit/patch.words",Rows.laid_affidavit_patch_words),("unicode/utf8.first",Rows.laid_unicode_utf8_first)] W:=Yb
theorem jv(h:laidMetH prog iQ W)(i:W.ShapedOpen prog):Br W/\dM W/\10<=W.heap.size:=by
 rw[iX]at h;have b:=laidMet.tail (laidMet.tail h);have c:=laidMet.tail (laidMet.tail b);have d:=laidMet.tail c;have y:=jf (laidMet.tail d);have B:=Lib.tabIs_of_head (g:=3) Yb Yb underlying265 underlying25 Yb Yb b;obtain⟨C,E,w,_⟩:=laid_sentinel (g:=9) c Yb Yb underlying35 Ur underlying344 underlying346 rfl rfl underlying9 Yb Yb;obtain⟨D,F,x,_⟩:=laid_sentinel (g:=8) d Yb Yb underlying35 Ur underlying344 underlying346 rfl rfl underlying9 Yb Yb;obtain⟨z,A⟩:=i;obtain⟨cs,l,e,r⟩:=z 2 _ _ (by rw[N4];decide) Yx;obtain⟨ts,s,_,j⟩:=r WU;obtain rfl:=Q5 (U9.symm.trans s);obtain⟨v,f⟩:∃v,cs[0]? =some v:=⟨cs[0]'(by rw[e];decide),Array.getElem?_eq_getElem (by rw[e];decide)⟩;obtain⟨u,t,a⟩:=j 0 v f;obtain rfl:u=3:=by simpa using t.symm
 have p:∃m,v= .int .i64 m:=by
  unfold Cell.ok at a;rw[underlying3]at a;cases v with
  |int k n=>exact⟨n,by rw[a.1]⟩
  |_=>exact a.elim
 obtain⟨m,rfl⟩:=p;refine⟨⟨⟨m, ?_⟩,B,⟨_,_,x⟩,⟨_,_,w⟩⟩,y, ?_⟩
 .exact UM l f
 .obtain⟨o,_,q,_⟩:=A 14 (by rw[N4];decide) (by rw[SP];decide);have:=(Array.getElem?_eq_some_iff.1 q).1;omega
def kf:DataW Unit->Array Vl
 | .agg l=>(l.flatMap fun| .lit (.string b)=>[Vl.string ⟨b.toArray⟩]|_=>[]).toArray
 |_=>#[]
noncomputable def ie(os:Os):Wl:=
 let N:=(World.settled prog os).heap.size
 let w0:=World.holding prog os ⟨#[.cells #[.string (Zd Rows.laid_strconv_ErrSyntax)] 346,.cells #[.string (Zd Rows.laid_strconv_ErrRange)] 346],#[],[]⟩
 let a:=TJ (TJ w0.heap 8 #[.iface 344 (.pointer (some ⟨N,0,none⟩))]) 9 #[.iface 344 (.pointer (some ⟨N+1,0,none⟩))]
 let b:=TJ (TJ a 6 (LU Rows.laid_math_bits_deBruijn32tab)) 7 (LU Rows.laid_math_bits_deBruijn64tab)
 let c:=TJ (TJ b 3 (LU Rows.laid_internal_strconv_uint64pow10)) 5 (LU Rows.laid_unicode_utf8_acceptRanges)
 {w0 with heap:=TJ (TJ c 4 (LU Rows.laid_unicode_utf8_first)) 0 (kf Rows.laid_affidavit_patch_words)}
theorem jj(os:Os)(args:Array Vl):laidMet prog iQ ((ie os).forCall (fun _ _=>0) ⟨#[],args,[]⟩).memory:=
 (LaidIn.of_run [6,7,3,5,9,N0+1,8,N0,0,4] 8 Yb Yb Yb Yb).met
end
section
open Go Go.RowKit Tree Ptr
variable{Q:Exit->Act->Wl->Prop}{rest:List Oper}{xs:List Vl}{g n sz:Nat}{F:Nat->Prop}{T:Ti}{P R:Ti->Prop}{a w w' w2:Wl}
abbrev sd:Vl:= nS nN 0 0
def th(T:Ti)(j:Nat):Prop:=(T=55/\j % 6=5)\/(T=44/\j % 4=3)
structure i5(F:Nat->Prop)(P:Ti->Prop)(w w':Wl):Prop where
 os:w'.os=w.os
 tape:w'.tape=w.tape
 output:w'.output=w.output
 size:w.heap.size<=w'.heap.size
 old:∀k,k<w.heap.size->¬F k->w'.heap[k]? =w.heap[k]?
 shape:∀k cur T,F k->Ac w k cur T->∃cur',Ac w' k cur' T/\cur'.length=cur.length/\(¬P T->cur'=cur)/\∀j,th T j->cur'[j]? =cur[j]? \/cur'[j]? =nM sd
theorem i5.refl(F:Nat->Prop)(P:Ti->Prop)(w:Wl):i5 F P w w:=⟨rfl,rfl,rfl,Q8 _,fun _ _ _=>rfl,fun _ a _ _ h=>⟨a,h,rfl,fun _=>rfl,fun _ _=> .inl rfl⟩⟩
theorem i5.trans{Q:Ti->Prop}{f:Wl}(h:i5 F P w f)(k:i5 F Q f w2)(o:∀T,P T->R T)(p:∀T,Q T->R T):i5 F R w w2:=by
 refine⟨k.os.trans h.os,k.tape.trans h.tape,k.output.trans h.output,Q7 h.size k.size,fun i hi a=>(k.old i (Q6 hi h.size) a).trans (h.old i hi a),fun i n T c q=> ?_⟩;obtain⟨c1,g,r,t,v⟩:=h.shape i n T c q;obtain⟨m,l,s,u,x⟩:=k.shape i c1 T c g;refine⟨m,l,s.trans r,fun a=>(u fun b=>a (p T b)).trans (t fun b=>a (o T b)),fun j d=> ?_⟩;rcases x j d with e|e
 .rw[e];exact v j d
 .exact .inr e
theorem i5.then(h:i5 F P w a)(k:i5 F P a w2):i5 F P w w2:=h.trans k (fun _ h=>h) (fun _ h=>h)
theorem i5.mono(h:i5 F P w a)(b:∀T,P T->R T):i5 F R w a:=h.trans (i5.refl F P a) b b
theorem i5.chg(h:Chg w a []):i5 F P w a:=
 ⟨h.os,h.tape,h.output,h.size,fun k d _=>h.block k d Zh,fun _ b _ _ c=>⟨b,c.kept h,rfl,fun _=>rfl,fun _ _=> .inl rfl⟩⟩
theorem i5.list(h:i5 F P w w'):Chg w w' ((List.range w.heap.size).filter fun k=>@decide (F k) (Classical.propDecidable _)):=
 ⟨h.os,h.tape,h.output,h.size,fun k a c=>h.old k a fun b=>c (by simp[a,b])⟩
theorem i5.one{l:Wl}{b d:List Vl}(r:F g)(s:P T)(p:Ac w g b T)(a:Chg w l [g])(q:Ac l g d T)(t:d.length=b.length)(u:∀j,th T j->d[j]? =b[j]? \/d[j]? =nM sd):i5 F P w l:=by
 refine⟨a.os,a.tape,a.output,a.size,fun k f i=>a.block k f (fun n=>by simp at n;subst n;exact i r),fun k c U _ m=> ?_⟩;by_cases f:k=g
 .subst f;have e:nM (Obj.cells c.toArray U (0,0))=nM (Obj.cells b.toArray T (0,0)):=m.symm.trans p;injection e with e
  injection e with h o
  have h:c=b:=by simpa using congrArg Array.toList h
  subst h;subst o;exact⟨d,q,t,fun i=>absurd s i,u⟩
 .exact⟨c,m.kept a (by simpa using f),rfl,fun _=>rfl,fun _ _=> .inl rfl⟩
theorem i5.setCell{o:Nat}{a:List Vl}{v:Vl}(c:F g)(d:P T)(b:Ac w g a T)(f:th T o->v=sd):i5 F P w (w.setCell ⟨g,o,nN⟩ v):=by
 refine i5.one c d b ((Chg.refl w _).setCell _ _ Zh) (b.set o v) Zh fun j e=> ?_;by_cases h:o=j
 .subst h;rw[List.getElem?_set_self'];cases i:a[o]? with
  |none=>exact .inl rfl
  |some u=>right;rw[f e];rfl
 .rw[List.getElem?_set_ne h];exact .inl rfl
theorem i5.setCells{F:Nat->Prop}{P:Ti->Prop}{g:Nat}{T:Ti}(c:F g)(d:P T):∀(vs:List Vl) (o:Nat) (w:Wl) (a:List Vl),Ac w g a T->(∀j v,vs[j]? =nM v->th T (o+j)->v=sd)->i5 F P w (w.setCells g o vs)
 |[],_,w,_,_,_=>i5.refl F P w
 |v::r,o,w,a,b,e=>(i5.setCell c d b (fun h=>e 0 v rfl h)).then (i5.setCells c d r (o+1) _ _ (b.set o v) fun j u f h=>e (j+1) u f (by rw[show o+(j+1)=o+1+j by omega];exact h))
theorem Ba.blkK{b:Vl}(h:Ba w b T sz n xs)(m:0<n):∃g c a,b= nS (nM ⟨g,0,nN⟩) n c/\Ac w g a T/\n<=c/\c<=maxLen/\a.length=c*sz/\a.take (n*sz)=xs:=by
 rcases h.2 with⟨_,l⟩|⟨g,cap,a,k,_,j,d,e,f,i⟩
 .omega
 .exact⟨g,cap,a.toList,k,by unfold Ac;simpa using j,d,e,by simpa using f,i⟩
theorem i5.lst(h:i5 F P w w'){a:Vl}(f:Ba w a T sz n xs)(m:SE F a):
  ∃ys,Ba w' a T sz n ys/\(¬P T->ys=xs)/\∀j,th T j->ys[j]? =xs[j]? \/ys[j]? =nM sd:=by
 rcases f.2 with⟨rfl,rfl⟩|⟨g,cap,c,rfl,o,p,d,k,l,e⟩
 .exact⟨xs,⟨f.1,.inl ⟨rfl,rfl⟩⟩,fun _=>rfl,fun _ _=> .inl rfl⟩
 .obtain⟨b,i,x,s,t⟩:=h.shape g c.toList T (m g 0 _ _ rfl) (by unfold Ac;simpa using p);have v:n*sz<=cap*sz:=Nat.mul_le_mul_right _ d;have u:c.toList.length=cap*sz:=by simpa using l
  refine⟨b.take (n*sz),⟨by rw[Ql];omega,.inr ⟨g,cap,b.toArray,rfl,o,i,d,k,by rw[List.size_toArray];omega,rfl⟩⟩,fun r=>by rw[s r];exact e,fun j q=> ?_⟩;rw[<-e,List.getElem?_take,List.getElem?_take];split
  .exact t j q
  .exact .inl rfl
def vL(w:Wl)(F:Nat->Prop)(sk:Vl)(n:Nat):Prop:=∃xs,Ba w sk 9 1 n xs/\SE F sk/\n<=4294967296
theorem vL.nil(w:Wl)(F:Nat->Prop):vL w F sd 0:=⟨[],Ba.nil _ _ _,(fun b o n c e=>by injection e with e;cases e),Zj⟩
theorem vL.sp{sk:Vl}(k:vL w F sk n)(h:i5 F P w w'):vL w' F sk n:=by
 obtain⟨xs,b,a,c⟩:=k;obtain⟨ys,d,_⟩:=h.lst b a;exact⟨ys,d,a,c⟩
def rr(w:Wl)(F:Nat->Prop)(sv:Vl)(n:Nat):Prop:=∃xs,Ba w sv 55 6 n xs/\SE F sv/\n<=4294967296/\∀k,k<n->∃sk q,xs[k*6+5]? =nM sk/\vL w F sk q
theorem rr.nil(w:Wl)(F:Nat->Prop):rr w F sd 0:=⟨[],Ba.nil _ _ _,(fun b o n c e=>by injection e with e;cases e),Zj,fun k a=>Zj⟩
theorem rr.sp{sv:Vl}(k:rr w F sv n)(h:i5 F P w w'):rr w' F sv n:=by
 obtain⟨xs,c,b,d,f⟩:=k;obtain⟨ys,g,_,i⟩:=h.lst c b;refine⟨ys,g,b,d,fun k j=> ?_⟩;obtain⟨sk,q,e,l⟩:=f k j;rcases i (k*6+5) (.inl ⟨rfl,Zj⟩)with a|a
 .exact⟨sk,q,a.trans e,l.sp h⟩
 .exact⟨sd,0,a,vL.nil _ _⟩
def vQ(w:Wl)(F:Nat->Prop)(a:Vl)(n:Nat):Prop:=∃xs,Ba w a 44 4 n xs/\SE F a/\n<=4294967296/\∀k,k<n->∃sv q,xs[k*4+3]? =nM sv/\rr w F sv q
theorem vQ.sp{c:Vl}(k:vQ w F c n)(h:i5 F P w w'):vQ w' F c n:=by
 obtain⟨xs,d,b,f,g⟩:=k;obtain⟨ys,i,_,j⟩:=h.lst d b;refine⟨ys,i,b,f,fun k l=> ?_⟩;obtain⟨sk,q,e,m⟩:=g k l;rcases j (k*4+3) (.inr ⟨rfl,Zj⟩)with a|a
 .exact⟨sk,q,a.trans e,m.sp h⟩
 .exact⟨sd,0,a,rr.nil _ _⟩
theorem Cr.ok:∀{l:List Ap} {xs:List Vl},Cr w F l xs->(∀s∈l,s.keys.length<=4294967296)->∀k,k<l.length->∃sk q,xs[k*6+5]? =nM sk/\vL w F sk q
 |[],_,_,_,k,a=>by simp at a
 |s::l,_,⟨sk,r,c,d,f,g⟩,b,k,a=>by
  subst c;cases k with
  |zero=>exact⟨sk,_,by simp[AI],_,d,f,b s Zh⟩
  |succ k=>
   obtain⟨j,q,e,h⟩:=Cr.ok g (fun s i=>b s (by simp[i])) k (by simpa using a);refine⟨j,q, ?_,h⟩;rw[List.getElem?_append_right (by simp[AI];omega),<-e]
   congr 1
   simp[AI];omega
theorem Eh.ok:∀{l:List Bq} {xs:List Vl},Eh w F l xs->(∀o∈l,o.steps.length<=4294967296/\∀s∈o.steps,s.keys.length<=4294967296)->∀k,k<l.length->∃sv q,xs[k*4+3]? =nM sv/\rr w F sv q
 |[],_,_,_,k,a=>by simp at a
 |o::l,_,⟨sv,ys,r,c,d,f,g,h⟩,b,k,a=>by
  subst c;cases k with
  |zero=>exact⟨sv,_,by simp[BJ],_,d,f,(b o Zh).1,g.ok (b o Zh).2⟩
  |succ k=>
   obtain⟨m,q,e,i⟩:=Eh.ok h (fun s j=>b s (by simp[j])) k (by simpa using a);refine⟨m,q, ?_,i⟩;rw[List.getElem?_append_right (by simp[BJ];omega),<-e]
   congr 1
   simp[BJ];omega
theorem EW.ok{w0:Wl}{os:List Bq}{a:Vl}{G:Nat->Prop}(h:EW w0 w os a xs G)(c:∀o∈os,o.steps.length<=4294967296/\∀s∈o.steps,s.keys.length<=4294967296)(b:os.length<=4294967296):vQ w G a os.length:=
 ⟨xs,h.own,h.inn,b,h.ops.ok c⟩
theorem z2a{p:Prop}(h:p:=by rw[l,Nat.one_mul]):p:=h
theorem i6{P:Program}{N:Array Oper}{o:Oper}{a:Act}(V:o.guard=nN)(s x:Operand)(t:Ti)(Z:o.op= .call {callee:= .builtin .append,args:=#[s,x],argTypes:=#[t,t]})(e:Ti)(z:Vl)(sz p:Nat)(ae:0<sz)(y:P.underlying t=nM (.slice e))(X:(P.info? e).map (fun i=>(i.zero,i.size,i.bytes))=nM (nM z,sz,p))(af:z.cells.size=sz)(F:Nat->Prop)(R:Ti->Prop)(T:R e)(sv:Vl)(n:Nat)(xs:List Vl)(hs:a.eval s=sv)(f:Ba w sv e sz n xs)(W:SE F sv)(B:Nat)(us:List Vl)(hx:a.eval x= nS (nM ⟨B,0,nN⟩) 1 1)(l:us.length=sz)(hu:∀j v,us[j]? =nM v->w.cell? ⟨B,j,nN⟩=nM v)(L:∀u∈us,u.oneCell'=true)(H:(n+1)*p<=140737488355328)(ah:n<=140737488355328)(ab:∀j v,us[j]? =nM v->th e (n*sz+j)->v=sd)(h:∀v w',Hid (i5 F R w w')->wpList P N Q rest (a.put o.dst v) w'):wpList P N Q (o::rest) a w:=by
 obtain⟨i,hi,M,J,D⟩:=info_parts X
 have r:∀j v,us[j]? =nM v->w.cell? ((⟨B,0,nN⟩:Addr).add j)=nM v:=fun j v m=>by
  rw[show(⟨B,0,nN⟩:Addr).add j=⟨B,j,nN⟩from by unfold Addr.add;split<;>simp_all];exact hu j v m
 have d:∃v w',(Builtin.append_ #[t,t] o.type #[sv,nS (nM ⟨B,0,nN⟩) 1 1]).run P w= .ok v w'/\i5 F R w w':=by
  rcases f.2 with⟨rfl,rfl⟩|⟨g,cap,c,rfl,_,E,h3,h4,O,h6⟩
  .obtain⟨g,cap,w',d,A,b,_⟩:=run_append_lies (P:=P) w t o.type 0 e i z sz p y hi M J D af ae _ 0 xs f ⟨B,0,nN⟩ 1 1 us z2a r L ZM (by unfold maxLen;omega) H (Nat.zero_le _) _ rfl;exact⟨_,w',d,i5.chg ⟨b.os,b.tape,b.output,b.size,fun k q _=>b.block k q (by simp[Vl.ownBlock])⟩⟩
  .subst J;by_cases I:n+1<=cap
   .have G:(n+1)*i.size<=cap*i.size:=Nat.mul_le_mul_right _ I;have U:n*i.size+us.length<=c.size:=by rw[l,O];rw[Nat.add_mul,Nat.one_mul]at G;exact G
    refine⟨_,_,run_append_room (P:=P) w t o.type e i y hi g n cap c E ⟨B,0,nN⟩ 1 1 us z2a r L I U, ?_⟩;have ag:c.toList.length=c.size:=Zh;have C:Ac w g c.toList e:=by unfold Ac;simpa using E
    refine i5.one (W g 0 _ _ rfl) T C ((Chg.refl w [g]).setRow g _ Zh) (C.row _) (by simp only[Qk,Ql,Qm];omega) fun j Y=> ?_;by_cases A:j<n*i.size
    .left
     rw[List.append_assoc,List.getElem?_append_left (by rw[Ql];omega),List.getElem?_take,Qr A]
    .by_cases b:j<n*i.size+us.length
     .right
      obtain⟨v,m⟩:∃v,us[j-n*i.size]? =nM v:=⟨_,Q9 Zj⟩;rw[List.append_assoc,List.getElem?_append_right (by rw[Ql];omega),Ql,Nat.min_eq_left Zj,List.getElem?_append_left Zj,m,ab _ v m (by rw[show n*i.size+(j-n*i.size)=j by omega];exact Y)]
     .left
      rw[List.getElem?_append_right (by rw[Qk,Ql];omega),Qk,Ql,Nat.min_eq_left Zj,List.getElem?_drop]
      congr 1
      omega
   .have aa:∀j u,xs[j]? =nM u->w.cell? ((⟨g,0,nN⟩:Addr).add j)=nM u:=World.ownsRow.cells f (g:=g) rfl;have ai:n+1<=9223372036854775807:=Zj;refine⟨_,_,run_append_grow (P:=P) w t o.type e i z y hi M ⟨g,0,nN⟩ n cap xs f.1 aa ⟨B,0,nN⟩ 1 1 us z2a r Zj Zj (growslice_fits Zj (by rw[D];exact H)), ?_⟩;exact i5.chg ⟨rfl,rfl,rfl,Zh,fun k q _=>by exact Below.heap_alloc w.drew _ k q⟩
 obtain⟨v,w',d,ad⟩:=d;refine wpList_plain V fun K S=> ?_;unfold Oper.wp execOp;simp only[Z,resolve,invoke,builtin,Sem.run_bind,Sem.run_pure,Result.andThen_ok,List.map_toArray,List.map_cons,List.map_nil,hs,hx,d];exact S _ _ (h v w' (hZ ad))
theorem vJ{P:Program}{m:Array Oper}{d:Oper}{a:Act}(s:d.guard=nN)(b:Ti)(x y:Operand)(A:d.op= .store b x y)(F:Nat->Prop)(R:Ti->Prop)(r:R b)(sv:Vl)(n:Nat)(xs:List Vl)(sz:Nat)(B:Ba w sv b sz n xs)(t:SE F sv)(k:Nat)(L:k<n)(g c:Nat)(l:sv= nS (nM ⟨g,0,nN⟩) n c)(ds:List Vl)(D:a.eval x= nP (nM ⟨g,k*sz,nN⟩))(E:a.eval y= nA ds.toArray)(i:ds.length=sz)(hi:(P.info? b).map (·.size)=nM sz)(q:∀v∈ds,v.oneCell'=true)(C:∀j v,ds[j]? =nM v->th b (k*sz+j)->v=sd)(h:∀w',Hid (i5 F R w w')->wpList P m Q rest (a.put d.dst undef) w'):wpList P m Q (d::rest) a w:=by
 obtain⟨G,o,p,e,f,H,I,J,K⟩:=B.blkK Zj;rw[l]at e;injection e with e _ _
 injection e with e
 injection e with e
 subst e;have z:(k+1)*sz<=o*sz:=Nat.mul_le_mul_right _ Zj;rw[Nat.add_mul,Nat.one_mul]at z;refine wpList_store_mid s b x y A g (k*sz) ds.toArray D E (fun j u=> ?_) (by rw[List.size_toArray,i];exact hi) (all_oneCell_toArray q) (h _ (hZ (i5.setCells (t g 0 _ _ l) r ds (k*sz) w p f C)));rw[List.size_toArray,i]at u;exact⟨by rw[f.cell,Q9 Zj];rfl,f.frozen _⟩
end
section
open _root_.Go.Proofs.Tryz
open Go Go.Shelf Go.RowKit Go.Lib Tree Ptr
variable{os:List Bq}{xs:List Vl}{c g hi i lo n sz:Nat}{F G G2:Nat->Prop}{p:Prop}{T:Ti}{P:Ti->Prop}{t:Tr}{a b d e:Vl}{w w' w0:Wl}
def vO(F:Nat->Prop)(w w':Wl):Prop:=∃bs,Chg w w' bs/\∀b,b∈bs->F b
theorem vO.fresh(h:vO F w w')(a:Chg w0 w [])(c:∀b,F b->w0.heap.size<=b):Chg w0 w' []:=by
 obtain⟨bs,e,d⟩:=h;exact a.fresh e fun i hi=>c i (d i hi)
theorem vO.size(h:vO F w w'):w.heap.size<=w'.heap.size:=by
 obtain⟨bs,a,_⟩:=h;exact a.size
theorem CG.keptF(h:CG w F c t)(a:vO G w w')(j:∀b,F b->b<w.heap.size)(k:∀b,G b->¬F b)(l:¬G c):CG w' F c t:=by
 obtain⟨v,g,i,e⟩:=h;obtain⟨bs,a,f⟩:=a;refine⟨v,(a.cell (p:=⟨c,0,nN⟩) e (fun d=>l (f _ d))).trans g,Af.kept (a.keepsF j (fun b d=>k b (f b d))) (fun _ h=>h) _ _ i,Q6 e a.size⟩
theorem EW.keptF{d w2:Wl}{c:Vl}(h:EW w0 d os c xs G)(a:vO F d w2)(f:∀b,F b->¬G b):EW w0 w2 os c xs G:=by
 obtain⟨bs,a,e⟩:=a;exact h.kept a (fun b g=>f b (e b g)) (Q8 _)
structure vn(os:List Bq):Prop where
 small:∀o∈os,T7 o
 many:os.length<=4294967296
theorem vn.len(h:vn os):∀o∈os,o.steps.length<=4294967296/\∀s∈o.steps,s.keys.length<=4294967296:=
 fun o a=>⟨(h.small o a).len,fun s b=>by have:=((h.small o a).steps s b).keys;omega⟩
theorem vn.nil:vn []:=⟨fun o a=>(by cases a),ZM⟩
theorem vn.cp(h:vn os)(b:EW w0 w os a xs G):Cl prog 6 #[a] w (jb os w):=
 iD os a xs w b.row b.ops.toIn h.small h.many
theorem vn.eq{f:Wl}{g i:List Vl}{c:Nat->Prop}(h:vn os)(d:EW w0 w os a g c)(e:EW f w os b i G2):
  Cl prog 11 #[a,b,.func (.func 12) #[] #[]] w (BU true w):=
 lj os a b w (iI.ofAt d) (iI.ofAt e) h.many h.len
structure vP(t:Tr)(ops:List Bq)(tb:Nat)(a:Option Addr)(c:Nat)(w:Wl):Prop where
 laid:Br w
 big:10<=w.heap.size
 words:dM w
 tree:∃F:Nat->Prop,CG w F tb t/\∀b,F b->b<w.heap.size
 ops:∃xs,UG w (nS a ops.length c) ops xs
theorem vP.kept{f:List Bq}{a:Option Addr}(h:vP t f g a c w)(d:Chg w w' []):vP t f g a c w':=by
 obtain⟨i,j,k,⟨F,l,e⟩,⟨xs,m⟩⟩:=h;exact⟨i.kept d,Q7 j d.size,k.kept d,⟨F,l.kept d e,fun b n=>Q6 (e b n) d.size⟩,⟨xs,m.kept d⟩⟩
def ww(os:List Bq)(w:Wl)(e:Ending)(w':Wl):Prop:=∃a c xs G,e= nR (nT #[nS a os.length c,.nilIface])/\EW w w' os (nS a os.length c) xs G/\Chg w w' []
theorem ws{d:List Bq}(s:Bt t)(x:∀o∈d,T7 o/\o.path.size<=1048576/\o.frm.size<=1048576):
  ((∀b a c w,vP t d b a c w->Cl prog 7 #[nP (nM ⟨b,0,nN⟩),nS a d.length c] w (gw w))/\(∀b a c w,vP t d b a c w->Cl prog 8 #[nP (nM ⟨b,0,nN⟩),nS a d.length c] w (gD w)))\/
  (∃m,Bt m/\(∀b a c w,vP t d b a c w->Cl prog 7 #[nP (nM ⟨b,0,nN⟩),nS a d.length c] w (F9 m w))/\(∀b a c w,vP t d b a c w->Cl prog 8 #[nP (nM ⟨b,0,nN⟩),nS a d.length c] w (gD w)))\/
  (∃m os,Bt m/\vn os/\(∀b a c w,vP t d b a c w->Cl prog 7 #[nP (nM ⟨b,0,nN⟩),nS a d.length c] w (F9 m w))/\(∀b a c w,vP t d b a c w->Cl prog 8 #[nP (nM ⟨b,0,nN⟩),nS a d.length c] w (ww os w))):=by
 by_cases B:65536<d.length
 .refine .inl ⟨fun b a c w h=> ?_,fun b a c w h=> ?_⟩
  .obtain⟨xs,f⟩:=h.ops;exact(dq b a _ c w B f.many).mono fun e w' ⟨g,j⟩=>⟨_,_,g,j⟩
  .obtain⟨xs,f⟩:=h.ops;exact(fZ b a _ c w B f.many).mono fun e w' ⟨g,j⟩=>⟨_,_,g,j⟩
 .have y:∀b a c w,vP t d b a c w->∃F xs,Yc w F b t d (nS a d.length c) xs:=by
   rintro b a c w ⟨g,j,L,⟨F,D,E⟩,⟨xs,q⟩⟩;exact⟨F,xs,g,j,D,E,s,q.row,q.at_,q.small,Zj⟩
  have n:∀b a c w,vP t d b a c w->Cl prog 7 #[nP (nM ⟨b,0,nN⟩),nS a d.length c] w (V8 (BR t [] 0 d) w):=fun b a c w h=>by
   obtain⟨F,xs,v⟩:=y b a c w h;exact IB F b t d _ xs w v
  have p:∀b a c w,vP t d b a c w->Cl prog 8 #[nP (nM ⟨b,0,nN⟩),nS a d.length c] w (Jz (BR t [] 0 d) w):=fun b a c w h=>by
   obtain⟨F,xs,v⟩:=y b a c w h;exact Xn F b t d _ xs w v
  cases l:BR t [] 0 d with
  |no k i=>
   rw[l]at n p;exact .inl ⟨fun b a c w h=>(n b a c w h).mono fun e w' ⟨g,j⟩=>⟨_,_,g,j⟩,fun b a c w h=>(p b a c w h).mono fun e w' ⟨g,j⟩=>⟨_,_,g,j⟩⟩
  |yes m u=>
   have A:=KD s (fun o f=>((x o f).1).toB) l;have I:=fK s (fun o f=>⟨(x o f).1.toB,(x o f).2⟩) (fun r l=>(by cases l)) l;rw[l]at n p;by_cases C:65536<u.length
   .refine .inr (.inl ⟨m,A,n,fun b a c w h=>(p b a c w h).mono fun e w' h=> ?_⟩);unfold Jz at h;simp only at h;rw[Qr C]at h;exact⟨_,_,h⟩
   .refine .inr (.inr ⟨m,u.map CW.toI,A,⟨fun o f=> ?_,by rw[List.length_map];omega⟩,n,fun b a c w h=>(p b a c w h).mono fun e w' h=> ?_⟩)
    .obtain⟨r,l,rfl⟩:=List.mem_map.1 f;exact(I r l).ops
    .unfold Jz at h;simp only at h;rw[Qs C]at h;obtain⟨M,xs,G,rfl,z,H⟩:=h;obtain⟨J,K,rfl,_⟩:=z.row.form;exact⟨J,K,xs,G,rfl,z,H⟩
theorem wj{d:List Bq}(j:∀o∈d,T7 o/\o.path.size<=1048576/\o.frm.size<=1048576):
  (∀t g a c w,vP t d g a c w->Cl prog 9 #[nS a d.length c] w (gw w))\/
  (∃s rs,Bt s/\vn rs/\(∀t g a c w,vP t d g a c w->Cl prog 9 #[nS a d.length c] w (F9 s w))/\
   (∀g (F:Nat->Prop) w,Br w->dM w->CG w F g s->(∀b,F b->b<w.heap.size)->Cl prog 14 #[nP (nM ⟨g,0,nN⟩)] w (ww rs w))/\
   (∀w0 a c xs G w,Br w->10<=w.heap.size->dM w->EW w0 w rs (nS a rs.length c) xs G->Cl prog 9 #[nS a rs.length c] w (F9 s w))):=by
 have C:∀o∈d,T7 o/\o.path.size<=2097152/\o.frm.size<=2097152:=fun o f=>⟨(j o f).1,by have:=(j o f).2.1;omega,by have:=(j o f).2.2;omega⟩;by_cases q:65536<d.length
 .refine .inl fun t g a c w h=> ?_;obtain⟨xs,f⟩:=h.ops;exact(gh a _ c w q f.many).mono fun e w' ⟨v,x⟩=>⟨_,_,v,x⟩
 .have q:d.length<=65536:=by omega
  have m:∀t g a c w,vP t d g a c w->Cl prog 9 #[nS a d.length c] w (ez (Sp [] 0 d) w):=fun t g a c w h=>by
   obtain⟨xs,f⟩:=h.ops;exact gy d _ xs w h.laid h.big h.words f.row f.at_ C q
  cases l:Sp [] 0 d with
  |no k i=>
   rw[l]at m;exact .inl fun t g a c w h=>(m t g a c w h).mono fun e w' ⟨v,x⟩=>⟨_,_,v,x⟩
  |yes t=>
   have K:=fI (fun o f=>(j o f).1.steps) l;rw[l]at m;obtain⟨u,E⟩:=XY l;rw[List.nil_append]at E;subst E;have B:=eJ u C (gf l ZN)
   have D:∀o∈d.map fy,T7 o/\o.path.size<=2097152/\o.frm.size<=2097152:=fun o f=>by
    obtain⟨p,r,rfl⟩:=List.mem_map.1 f;exact gz (u p r) (j p r).1.steps (j p r).2.1 (j p r).2.2
   refine .inr ⟨_,d.map fy,B,⟨fun o f=>(D o f).1,by rw[List.length_map];omega⟩,m,fun g F w y z J I=> ?_,fun w0 a c xs G w y H z n=> ?_⟩
   .refine(gA y z J I B u).mono ?_;rintro e w' ⟨M,N,xs,G,rfl,n,L⟩;refine⟨M,N,xs,G,by rw[List.length_map], ?_,L⟩;rw[List.length_map];exact n
   .have A:=gy (d.map fy) _ xs w y H z n.row n.ops.toIn D (by rw[List.length_map];exact q);rw[K]at A;exact A
structure vm(lo hi:Nat)(w:Wl)(F:Nat->Prop)(tb:Nat)(t:Tr):Prop where
 at_:CG w F tb t
 new:∀b,F b->lo<=b/\b<hi
 top:lo<=tb/\tb<hi
 lt:hi<=w.heap.size
theorem vm.of{a:Nat}(c:CG w' F a t)(e:∀b,F b->b<w'.heap.size)(f:∀b,F b->w.heap.size<=b)(g:w.heap.size<=a):vm w.heap.size w'.heap.size w' F a t:=
 ⟨c,fun b d=>⟨f b d,e b d⟩,⟨g,by obtain⟨_,_,_,h⟩:=c;exact h⟩,Q8 _⟩
theorem vm.below(h:vm lo hi w F c t):∀b,F b->b<w.heap.size:=fun b a=>Q6 (h.new b a).2 h.lt
theorem vm.kept{b:Nat}(h:vm lo hi w F b t)(a:Chg w w' []):vm lo hi w' F b t:=
 ⟨h.at_.kept a h.below,h.new,h.top,Q7 h.lt a.size⟩
theorem vm.keptF(h:vm lo hi w F c t)(e:vO G w w')(d:∀b,G b->b<lo\/hi<=b):vm lo hi w' F c t:=
 ⟨h.at_.keptF e h.below (fun b a f=>by have:=d b a;have:=h.new b f;omega) (fun a=>by have:=d c a;have:=h.top;omega),h.new,h.top,Q7 h.lt e.size⟩
structure i4(lo hi:Nat)(w:Wl)(os:List Bq)(sl:Vl)(xs:List Vl)(G:Nat->Prop):Prop where
 at_:∃w0,EW w0 w os sl xs G
 new:∀b,G b->lo<=b/\b<hi
 lt:hi<=w.heap.size
theorem i4.of(h:EW w0 w os a xs G):i4 w0.heap.size w.heap.size w os a xs G:=⟨⟨w0,h⟩,h.new,Q8 _⟩
theorem i4.none(lo:Nat)(w:Wl):i4 lo w.heap.size w [] (nS Option.none 0 0) [] (fun _=>False):=⟨⟨w,EW.none w w⟩,fun _ h=>h.elim,Q8 _⟩
theorem i4.kept(h:i4 lo hi w os b xs G)(a:Chg w w' []):i4 lo hi w' os b xs G:=by
 obtain⟨⟨w0,c⟩,d,e⟩:=h;exact⟨⟨w0,c.kept a Zh (Q8 _)⟩,d,Q7 e a.size⟩
theorem i4.keptF(h:i4 lo hi w os d xs G)(c:vO F w w')(g:∀b,F b->b<lo\/hi<=b):i4 lo hi w' os d xs G:=by
 obtain⟨⟨w0,e⟩,a,f⟩:=h;exact⟨⟨w0,e.keptF c fun b i j=>by have:=g b i;have:=a b j;omega⟩,a,Q7 f c.size⟩
theorem i4.cp(h:i4 lo hi w os a xs G)(c:vn os):Cl prog 6 #[a] w (jb os w):=by
 obtain⟨⟨w0,b⟩,_,_⟩:=h;exact c.cp b
theorem i4.eq{e:Nat}{j l:List Vl}{c:Nat->Prop}(h:i4 lo hi w os a j c)(k:i4 i e w os b l G2)(f:vn os):
  Cl prog 11 #[a,b,.func (.func 12) #[] #[]] w (BU true w):=by
 obtain⟨⟨w0,d⟩,_,_⟩:=h;obtain⟨⟨m,g⟩,_,_⟩:=k;exact f.eq d g
theorem i4.ok(h:i4 lo hi w os b xs G)(a:vn os):vQ w G b os.length:=by
 obtain⟨⟨w0,c⟩,_,_⟩:=h;exact c.ok a.len a.many
theorem vP.with{e:List Bq}{l:Nat}{a j:Option Addr}{k:Nat}(h:vP t e l a c w)(g:EW w0 w' e (nS j e.length k) xs G)(d:Chg w w' [])(i:vn e):vP t e l j k w':=by
 obtain⟨m,n,o,⟨F,p,f⟩,_⟩:=h;exact⟨m.kept d,Q7 n d.size,o.kept d,⟨F,p.kept d f,fun b q=>Q6 (f b q) d.size⟩,⟨xs,g.row,g.ops.toIn,i.small,i.many⟩⟩
theorem i5.toF(h:i5 F P w w'):vO F w w':=⟨_,h.list,fun b a=>by simpa using(List.mem_filter.1 a).2⟩
def wA(T:Ti):Prop:=T=9
def wB(T:Ti):Prop:=T=9\/T=55
def wC(_:Ti):Prop:=True
theorem i5.cell(h:i5 F P w w'){v:Vl}(e:Ba w (nS (nM ⟨g,0,nN⟩) n c) T sz n xs)(d:SE F (nS (nM ⟨g,0,nN⟩) n c))(f:¬P T)(j:xs[i]? =nM v):w'.cell? ⟨g,i,nN⟩=nM v:=by
 obtain⟨ys,a,b,_⟩:=h.lst e d;obtain rfl:=b f;exact a.cell rfl i v j
theorem Ba.frozen(h:Ba w (nS (nM ⟨g,0,nN⟩) n c) T sz n xs)(j:Nat):w.frozen? ⟨g,j,nN⟩=false:=by
 obtain⟨b,a,_⟩:=h.blk;exact a.frozen j
theorem wg:(prog.info? 55).map (·.size)=nM 6:=Yb
theorem vW{c f g:Vl}:∀(j:Nat) v,[c,d,e,f,g,Vl.slice nN 0 0][j]? =nM v->th 55 (n*6+j)->v=sd:=by
 intro j v a b;have i:j<6:=(Qc.1 a).1
 have:j=5:=by
  rcases b with⟨_,h⟩|⟨h,_⟩
  .omega
  .exact absurd h ZM
 subst this;exact(Q5 a).symm
theorem wk{c:Vl}:∀(j:Nat) v,[c,d,e,Vl.slice nN 0 0][j]? =nM v->th 44 (n*4+j)->v=sd:=by
 intro j v a b;have f:j<4:=(Qc.1 a).1
 have:j=3:=by
  rcases b with⟨h,_⟩|⟨_,h⟩
  .exact absurd h ZM
  .omega
 subst this;exact(Q5 a).symm
theorem z1z(h:p:=by exact cg cR):p:=h
theorem z2b(h:p:=by unfold wA;decide):p:=h
theorem vK(so:Vl)(n:Nat)(F:Nat->Prop)(w:Wl)(h:vQ w F so n):Cl prog 10 #[so] w fun e w'=>e= nR (nT #[])/\vO F w w':=by
 have K:=hZ h;obtain⟨xs,hL,hI,hn,_⟩:=h;obtain⟨sa,T,rfl,ak⟩:=hL.form;have f:=hZ hI;have aq:=hZ ak;clear hL hI ak;go_enter func10,ntmps10;go_wp2_with fail;go_loopw [7] (fun W wr=>∃i:Nat,i<=n/\W= nI nX i/\i5 F wC w wr) (fun W _=>n-(intOf W).toNat)
 case atStart=>exact⟨0,Zj,rfl,i5.refl _ _ _⟩
 case round=>
  obtain⟨i,hi,rfl,al⟩:=hrel;have B:=hZ al;clear al;by_cases ai:i<n
  .obtain⟨ys,l,_,_,an⟩:=K.o.sp B.o;obtain⟨sv,m,S,R⟩:=an i ai;obtain⟨g,rfl⟩:=aq.o Zj;have c3:wr.cell? ⟨g,i*4+3,nN⟩=nM sv:=l.cell rfl _ _ S;obtain⟨Y,b,ag,aC,_⟩:=id R;obtain⟨va,z,rfl,am⟩:=b.form;have A:=hZ l;have M:=hZ S;have L:=hZ R;have G:=hZ ag;have au:=hZ am;clear l an S R b ag am;go_wp2_with fail;obtain⟨w1,ax⟩:=Ue wr;subst ax;go_loopw [16] (fun U wr=>∃k:Nat,k<=m/\U= nI nX k/\i5 F wB w1 wr) (fun U _=>m-(intOf U).toNat)
   case atStart=>exact⟨0,Zj,rfl,i5.refl _ _ _⟩
   case round=>
    obtain⟨k,hk,rfl,Q⟩:=hrel;have r:=hZ Q;have ae:wr.cell? ⟨g,i*4+3,nN⟩=nM (nS va m z):=Q.cell A.o f.o (by unfold wB;decide) M.o;clear Q c3;by_cases aj:k<m
    .obtain⟨Y,b,_,_,hz⟩:=L.o.sp r.o;obtain⟨sk,q,P,O⟩:=hz k aj;obtain⟨s,rfl⟩:=au.o Zj;have c5:wr.cell? ⟨s,k*6+5,nN⟩=nM sk:=b.cell rfl _ _ P;obtain⟨us,a,af,aD⟩:=id O;obtain⟨ka,kc,rfl,ah⟩:=a.form;have J:=hZ b;have ar:=hZ P;have ap:=hZ O;have aa:=hZ af;have ao:=hZ ah;have ab:=UD (Ba wr (nS (nM ⟨g,0,nN⟩) n T) 44 4 n ys) (by obtain⟨y2,q1,q2,_⟩:=r.o.lst A.o f.o;rw[q2 (by unfold wB;decide)]at q1;exact q1);clear b hz P O a af ah;go_wp2_with fail;obtain⟨w2,ay⟩:=Ue wr;subst ay;go_loopw [29] (fun V wr=>∃j:Nat,j<=q/\V= nI nX j/\i5 F wA w2 wr) (fun V _=>q-(intOf V).toNat)
     case atStart=>exact⟨0,Zj,rfl,i5.refl _ _ _⟩
     case round=>
      obtain⟨j,hj,rfl,y⟩:=hrel;have ad:=hZ y;have av:wr.cell? ⟨g,i*4+3,nN⟩=nM (nS (nM ⟨s,0,nN⟩) m z):=y.cell ab.o f.o z2b M.o;have aw:wr.cell? ⟨s,k*6+5,nN⟩=nM (nS ka q kc):=y.cell J.o G.o z2b ar.o;obtain⟨us,a,_,_⟩:=ap.o.sp y;clear y ae c5;by_cases aB:j<q
      .obtain⟨gk,rfl⟩:=ao.o Zj;have fz:=a.frozen j;obtain⟨u,D⟩:∃u,us[j]? =nM u:=⟨_,Q9 (by have:=a.1;omega)⟩;have cj:wr.cell? ⟨gk,j,nN⟩=nM u:=a.cell rfl _ _ D;have aE:=World.block_lt_of_cell? wr _ cj;have H:=hZ a;clear a D;go_wp2_with fail;go_roundw
       case rel=>
        obtain⟨aA,hB,_⟩:=H.o.blk;exact⟨j+1,Zj,by go_num,ad.o.then (i5.setCell (aa.o gk 0 _ _ rfl) rfl hB (by rintro(⟨h,_⟩|⟨h,_⟩)<;>exact absurd h ZM))⟩
       case measure=>simp[intOf];omega
      .obtain rfl:j=q:=by omega
       have H:=hZ a;clear a
       go_wp2_with(first
        |(at_builtin;go_loud(refine i6 rfl _ _ _ rfl 9 Ho 1 16 ZM underlying27 Cf rfl F wA rfl (nS ka j kc) j us ZN (by exact H.o.kept (bs:=[]) z1z Zh) aa.o wr.heap.size [nG ⟨#[115,112,111,105,108,116]⟩] ZN rfl (by intro p v o;exact((BD _ _ [nG ⟨#[115,112,111,105,108,116]⟩] 9 _ rfl Zh).cell p).trans o) (by intro u D;obtain rfl:=List.mem_singleton.1 D;rfl) Zj Zj (by rintro p v o (⟨h,_⟩|⟨h,_⟩)<;>exact absurd h ZM) ?_);intro aF X c;have C:=(ad.o.then (i5.chg z1z)).then c.o;have Z:=hZ C;have az:X.cell? ⟨g,i*4+3,nN⟩=nM (nS (nM ⟨s,0,nN⟩) m z):=C.cell ab.o f.o z2b M.o;have d:=r.o.trans C (fun _ h=>h) (fun _ h=> .inl h);have N:=hZ d;obtain⟨zw,t,_,_,_⟩:=L.o.sp d;have I:=hZ t;clear c C d t av aw)
        |(refine vJ rfl _ _ _ rfl F wB (.inr rfl) _ m zw 6 I.o G.o k aj s z rfl [nI nX 0,.bool false,nI .u64 0,nG ⟨#[]⟩,nI nX 0,nS nN 0 0] ZN ZN rfl wg (C0 ⟨0,false,0,Dz,0,[]⟩ nN 0 0) vW ?_;intro wb x;have E:=hZ (N.o.then x.o);clear x))
       go_roundw
       case rel=>exact⟨k+1,Zj,by go_num,E.o⟩
       case measure=>simp[intOf];omega
    .obtain rfl:k=m:=by omega
     obtain⟨Y,b,_,_,_⟩:=L.o.sp r.o;have J:=hZ b;clear b
     go_wp2_with(first
      |(at_builtin;go_loud(refine i6 rfl _ _ _ rfl 55 Iq 6 72 ZM underlying22 DM rfl F wB (.inr rfl) (nS va k z) k Y ZN (by exact J.o.kept (bs:=[]) z1z Zh) G.o wr.heap.size [nI nX 9,.bool false,nI .u64 0,nG ⟨#[]⟩,nI nX 0,nS nN 0 0] ZN rfl (by intro p v o;exact((BD _ _ [nI nX 9,.bool false,nI .u64 0,nG ⟨#[]⟩,nI nX 0,nS nN 0 0] 55 _ rfl Zh).cell p).trans o) (C0 ⟨9,false,0,Dz,0,[]⟩ _ _ _) Zj Zj vW ?_);intro aG X c;have d:=B.o.trans ((r.o.then (i5.chg z1z)).then c.o) (fun _ h=>h) (fun _ _=>trivial);have N:=hZ d;obtain⟨yw,t,_,_,_⟩:=K.o.sp d;have I:=hZ t;clear c d t ae)
      |(refine vJ rfl _ _ _ rfl F wC trivial _ n yw 4 I.o f.o i ai g T rfl [nI nX 9,nG ⟨#[115,112,111,105,108,116]⟩,nG ⟨#[]⟩,nS nN 0 0] ZN ZN rfl A0 (Dx ⟨9,⟨#[115,112,111,105,108,116]⟩,Dz,[]⟩ nN 0 0) wk ?_;intro wb x;have E:=hZ (N.o.then x.o);clear x))
     go_roundw
     case rel=>exact⟨i+1,Zj,by go_num,E.o⟩
     case measure=>simp[intOf];omega
  .obtain rfl:i=n:=by omega
   obtain⟨ys,l,_,_,_⟩:=K.o.sp B.o;have A:=hZ l;clear l;go_wp2_with(at_builtin;go_loud(refine i6 rfl _ _ _ rfl 44 (nA #[nI nX 0,nG ⟨#[]⟩,nG ⟨#[]⟩,nS nN 0 0]) 4 64 ZM underlying23 JK rfl F wC trivial (nS sa i T) i ys ZN (by exact A.o.kept (bs:=[]) z1z Zh) f.o wr.heap.size [nI nX 9,nG ⟨#[]⟩,nG ⟨#[]⟩,nS nN 0 0] ZN rfl (by intro p v o;exact((BD _ _ [nI nX 9,nG ⟨#[]⟩,nG ⟨#[]⟩,nS nN 0 0] 44 _ rfl Zh).cell p).trans o) (Dx ⟨9,Dz,Dz,[]⟩ _ _ _) Zj Zj wk ?_);intro aH X c;have Z:=hZ ((B.o.then (i5.chg z1z)).then c.o);clear c);refine bodyPost_end (results_none rfl _ _ _) rfl ?_;exact⟨rfl,Z.o.toF⟩
end
theorem tOp0:True:=trivial
end Go.Proofs.YtamgbmcchhmojaaGreatDoor

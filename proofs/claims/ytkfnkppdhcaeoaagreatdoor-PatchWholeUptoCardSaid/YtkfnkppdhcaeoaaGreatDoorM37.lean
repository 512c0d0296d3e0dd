/- Part 37 of the proof of patchJoined_card. -/
import Derived.Test.YtkfnkppdhcaeoaaGreatDoorM36
set_option maxRecDepth 100000
set_option maxHeartbeats 32000000
set_option linter.unusedSimpArgs false
set_option linter.unusedVariables false
set_option linter.unnecessarySimpa false
namespace Go.Proofs.YtkfnkppdhcaeoaaGreatDoor
open Go renaming Calls->Cl,TypeId->Ti,Value->Vl,World->Wl
section
open Go Go.Shelf Go.RowKit Go.Lib Tree Ptr
def CI(w:Wl)(G:Nat->Prop):List (List Bq)->List Vl->Prop
 |[],vs=>vs=[]
 |os::b,vs=>∃a xs r,vs=a::r/\As w a 4 os.length xs/\SE G a/\Eh w G os xs/\CI w G b r
theorem CI.kept{w w':Wl}{F G:Nat->Prop}(d:BZ F w w')(c:∀b,F b->G b):∀{a:List (List Bq)} {vs:List Vl},CI w F a vs->CI w' G a vs
 |[],_,h=>h
 |os::a,_,⟨k,xs,r,f,g,e,i,j⟩=>⟨k,xs,r,f,g.keptF e d,e.mono c,i.kept d c,j.kept d c⟩
theorem CI.snoc{w:Wl}{G:Nat->Prop}{os:List Bq}{b:Vl}{xs:List Vl}(d:As w b 4 os.length xs)(e:SE G b)(f:Eh w G os xs):∀{c:List (List Bq)} {vs:List Vl},CI w G c vs->CI w G (c++[os]) (vs++[b])
 |[],_,h=>by unfold CI at h;subst h;exact⟨b,xs,[],rfl,d,e,f,rfl⟩
 |a::c,_,⟨m,n,r,g,i,j,k,l⟩=>⟨m,n,r++[b],by rw[g];rfl,i,j,k,l.snoc d e f⟩
theorem CI.length{w:Wl}{G:Nat->Prop}:∀{b:List (List Bq)} {vs:List Vl},CI w G b vs->vs.length=b.length
 |[],_,h=>by unfold CI at h;subst h;rfl
 |a::b,_,⟨i,xs,r,c,e,f,g,d⟩=>by rw[c,Qj,d.length];rfl
theorem CI.get{w:Wl}{G:Nat->Prop}:∀{d:List (List Bq)} {vs:List Vl},CI w G d vs->∀(i:Nat) (os:List Bq),d[i]? =some os->∃c xs,vs[i]? =some c/\As w c 4 os.length xs/\SE G c/\Eh w G os xs
 |[],_,_,i,os,b=>by simp at b
 |a::d,_,⟨c,xs,r,e,f,g,h,j⟩,i,os,b=>by
  subst e
  cases i with
  |zero=>simp at b;subst b;exact⟨c,xs,rfl,f,g,h⟩
  |succ i=>obtain⟨m,n,k,l⟩:=j.get i os (by simpa using b);exact⟨m,n,by simpa using k,l⟩
theorem CI.one{w:Wl}{G:Nat->Prop}:∀{d:List (List Bq)} {vs:List Vl},CI w G d vs->∀u∈vs,u.oneCell'=true
 |[],_,h,u,b=>by unfold CI at h;subst h;cases b
 |a::d,_,⟨l,xs,r,e,f,j,k,g⟩,u,b=>by
  subst e;obtain⟨i,c,rfl,_⟩:=f.form
  rcases Qh.1 b with rfl|b
  .rfl
  .exact g.one u b
structure PO(w0 w:Wl)(W:Nat)(t:Tr)(gs:List (List Bq))(v uv:Vl)(bs:List Nat)(vs:List Vl)(G:Nat->Prop):Prop where
 wat:Hu w W t v uv bs
 nodup:(W::bs).Nodup
 ge:∀b,b∈W::bs->w0.heap.size<=b
 row:AK w uv 23 vs
 grp:CI w G gs vs
 gnew:∀b,G b->w0.heap.size<=b/\b<w.heap.size
 gap:∀b,b∈W::bs->¬G b
 uown:∀g,uv.ownBlock=some g->w0.heap.size<=g/\g∉W::bs/\¬G g
def Dj(W:Nat)(a:Vl)(bs:List Nat):List Nat:=a.ownBlock.toList++W::bs
theorem PO.kept{w0 w w':Wl}{W:Nat}{t:Tr}{i:List (List Bq)}{v f:Vl}{bs:List Nat}{vs:List Vl}{G:Nat->Prop}{cs:List Nat}(h:PO w0 w W t i v f bs vs G)(c:Chg w w' cs)(d:∀b,b∈cs->b∉Dj W f bs/\¬G b:=by simp):PO w0 w' W t i v f bs vs G:=by
 have k:BZ G w w':=c.keepsF (fun b a=>(h.gnew b a).2) (fun b a=>(d b a).2);refine⟨h.wat.kept c (fun b a e=>(d b a).1 (Qd _ e)),h.nodup,h.ge,h.row.kept c (fun g j e=>(d g e).1 (Qe _ (by simp[j]))),h.grp.kept k (fun _ h=>h),(fun b a=> ?_),h.gap,h.uown⟩;have:=h.gnew b a;have:=c.size;omega
theorem PO.ltAll{w0 w:Wl}{W:Nat}{t:Tr}{d:List (List Bq)}{v c:Vl}{bs:List Nat}{vs:List Vl}{G:Nat->Prop}(h:PO w0 w W t d v c bs vs G):∀b,b∈Dj W c bs->b<w.heap.size:=by
 intro b a
 rcases Qf.1 a with a|a
 .exact h.row.lt (by simpa using a)
 .rcases Qh.1 a with rfl|a
  .exact h.wat.blk.lt
  .exact AP.lt _ _ _ h.wat.at_ b a
structure Y3(w4 w:Wl)(W:Nat)(uv:Vl)(old:List Nat)(t':Tr)(os:List Bq)(sl:Vl)(xs:List Vl)(G2:Nat->Prop)(v':Vl)(bs':List Nat):Prop where
 ops:EW w4 w os sl xs G2
 wat:Hu w W t' v' uv bs'
 own:DJ w4 old (W::bs')
 apart:∀b,b∈W::bs'->¬G2 b
theorem Y3.kept{l w w':Wl}{W:Nat}{j:Vl}{f:List Nat}{i:Tr}{os:List Bq}{g:Vl}{xs:List Vl}{G2:Nat->Prop}{k:Vl}{a:List Nat}{cs:List Nat}(h:Y3 l w W j f i os g xs G2 k a)(d:Chg w w' cs)(e:∀b,b∈cs->b∉W::a/\¬G2 b:=by simp):Y3 l w' W j f i os g xs G2 k a:=
 ⟨h.ops.kept d (fun b c=>(e b c).2) (Q8 _),h.wat.kept d (fun b c=>(e b c).1),h.own,h.apart⟩
theorem PO.next{w0 k w w':Wl}{W:Nat}{t s:Tr}{y:List (List Bq)}{v m x u:Vl}{bs q l:List Nat}{vs xs:List Vl}{G G2:Nat->Prop}{os:List Bq}{g n c:Nat}{cs:List Nat}(h:PO w0 k W t y v m bs vs G)(B:∀b,b∈q->w0.heap.size<=b/\¬G b/\m.ownBlock≠some b)(f:Y3 k w W m (W::(q++bs)) s os u xs G2 x l)(L:∀b,b∈cs->b<k.heap.size->b∈m.ownBlock.toList++W::(q++bs))(C:Chg k w cs)(K:AK w (.slice (some ⟨g,0,none⟩) n c) 23 (vs++[u]))(j:m.ownBlock=some g\/k.heap.size<=g)(D:g∉W::l)(M:¬G2 g)(S:w0.heap.size<=k.heap.size)(p:Chg w w' [W])(I:Ac w' W [x,.int .i64 (Ag s).nodes,.int .i64 (Ag s).bytes,.slice (some ⟨g,0,none⟩) n c] 98):
  PO w0 w' W s (y++[os]) x (.slice (some ⟨g,0,none⟩) n c) l (vs++[u]) (fun b=>G b\/G2 b):=by
 have P:∀b,b∈l->b≠W:=fun b a e=>by subst e;exact(List.nodup_cons.1 f.own.nodup).1 a
 have A:W∈W::l:=by simp
 have z:¬G W:=h.gap W (by simp)
 have F:∀b,b∈m.ownBlock.toList++W::(q++bs)->¬G b:=fun b a=>by
  rcases Qf.1 a with a|a
  .exact(h.uown b (by simpa using a)).2.2
  .rcases Qh.1 a with rfl|a
   .exact z
   .rcases Qf.1 a with a|a
    .exact(B b a).2.1
    .exact h.gap b (Qg _ a)
 have N:BZ G k w:=C.keepsF (fun b a=>(h.gnew b a).2) (fun b a d=>F b (L b a (h.gnew b d).2) d);have Q:=C.size;have O:BZ G w w':=p.keepsF (fun b a=>Q6 (h.gnew b a).2 Q) (fun b a=>by simp at a;subst a;exact z);have E:BZ G2 w w':=p.keepsF (fun b a=>(f.ops.new b a).2) (fun b a=>by simp at a;subst a;exact f.apart _ A)
 have J:∀b,b∈W::l->¬G b:=fun b a d=>by
  rcases f.own.come b a with i|i
  .exact F b (Qd _ i) d
  .have:=(h.gnew b d).2;omega
 have T:=p.size;refine⟨⟨I,f.wat.at_.chg p (fun b a r=>by simp at a;exact P b r a),f.wat.fine⟩,f.own.nodup,fun b a=> ?_,K.kept p (fun H o r=> ?_), ?_,fun b a=> ?_,fun b a d=> ?_,fun H o=> ?_⟩
 .rcases f.own.come b a with i|i
  .rcases Qh.1 i with rfl|i
   .exact h.ge _ (by simp)
   .rcases Qf.1 i with i|i
    .exact(B b i).1
    .exact h.ge b (Qg _ i)
  .omega
 .simp[Vl.ownBlock]at o r;subst o;subst r;exact D A
 .have R:=(h.grp.kept N (fun _ h=>h)).kept O (fun b a=>(Or.inl a:G b\/G2 b))
  exact R.snoc (f.ops.row.keptF f.ops.inn E) (f.ops.inn.mono fun b a=> .inr a) (f.ops.ops.kept E fun b a=> .inr a)
 .rcases a with a|a
  .have:=h.gnew b a;omega
  .have:=f.ops.new b a;omega
 .rcases d with d|d
  .exact J b a d
  .exact f.apart b a d
 .simp[Vl.ownBlock]at o;subst o
  refine⟨?_,D,fun d=> ?_⟩
  .rcases j with j|j
   .exact(h.uown _ j).1
   .omega
  .rcases d with d|d
   .rcases j with j|j
    .exact(h.uown _ j).2.2 d
    .have:=(h.gnew _ d).2;omega
   .exact M d
end
section
open _root_.Go.Proofs.Tryz
open Go Go.Shelf Go.RowKit Go.Lib Tree Ptr
theorem Ru{P:Program}{o:Oper}{a:Act}{Q:Exit->Act->Wl->Prop}{K:Act->Wl->Prop}{w:Wl}(r x:Operand)(q:Array Ti)(i:o.op= .call {callee:= .value r,args:=#[x],argTypes:=q})(n:Nat)(p u:Vl)(l:a.eval r= .func (.func n) #[p] #[])(m:a.eval x=u)(f:(callFunc n #[p,u]).run P w= .ok (.enter n #[p,u]) w)(R:Ending->Wl->Prop)(d:Cl P n #[p,u] w R)(c:∀e w2,R e w2->(∃v,e= .returned v/\K (a.put o.dst v) w2)\/(∃b,e= .panicked b/\Q (.panic b) a w2)):Oper.wp P o a w K Q:=by
 unfold Oper.wp
 have g:(execOp a.eval o).run P w= .ok (.enter n #[p,u]) w:=by
  simp[execOp,i,resolve,invoke,l,m,Deferred.ofValue,f]
 rw[g];refine d.mono fun e w2 h=> ?_
 rcases c e w2 h with⟨u,rfl,k⟩|⟨b,rfl,j⟩
 .exact k
 .exact j
theorem UR{W m n:Nat}{p:Vl}(h:(HJ W)[m]? =some (.func (.func n) #[p] #[])):∀(args:Array Vl) (w:Wl),(callFunc n args).run prog w= .ok (.enter n args) w:=by
 have a:m<6:=(Qc.1 h).1;unfold HJ at h
 match m,a with
 |0,_=>simp at h;obtain⟨rfl,_⟩:=h;exact fun _ _=>by kernel_rfl
 |1,_=>simp at h;obtain⟨rfl,_⟩:=h;exact fun _ _=>by kernel_rfl
 |2,_=>simp at h;obtain⟨rfl,_⟩:=h;exact fun _ _=>by kernel_rfl
 |3,_=>simp at h;obtain⟨rfl,_⟩:=h;exact fun _ _=>by kernel_rfl
 |4,_=>simp at h;obtain⟨rfl,_⟩:=h;exact fun _ _=>by kernel_rfl
 |5,_=>simp at h;obtain⟨rfl,_⟩:=h;exact fun _ _=>by kernel_rfl
def Y6(w0:Wl)(W:Nat)(g:List (List Bq))(a:Vl)(bs:List Nat)(G:Nat->Prop)(r:PV)(w:Wl)(e:Ending)(w':Wl):Prop:=match r with
 | .no k=>e=By k/\Chg w w' (Dj W a bs)
 | .yes h i=>e= .returned (.tuple #[])/\Chg w w' (Dj W a bs)/\∃j f d l c,PO w0 w' W h (g++[i.reverse.map CW.toI]) j f d l c/\(∀b,b∈Dj W f d->b∈Dj W a bs\/w.heap.size<=b)/\∀b,c b->G b\/w.heap.size<=b
def CK(w0:Wl)(W:Nat)(t:Tr)(a:List (List Bq))(b:Vl)(bs:List Nat)(G:Nat->Prop)(o:Bq)(w:Wl)(e:Ending)(w':Wl):Prop:=Y6 w0 W a b bs G (Gz t o) w e w'
theorem UH.kept{w w':Wl}{o:Bq}{f e:List BY}{x:Tr}{slp g i:Vl}{d:List Nat}{F c:Nat->Prop}(h:UH w o f e x slp g i d F c)(b:Chg w w' []):UH w' o f e x slp g i d F c:=
 ⟨h.tpath.kept b,fun a=>(h.tfrm a).kept b,fun a=>⟨(h.val a).1.chg b (by simp),(h.val a).2⟩,h.pathP,h.frmP,h.small⟩
theorem I8.below{o:Bq}{r i:List BY}{x:Tr}{sv:Vl}{w w':Wl}{e:Ending}(h:I8 o r i x sv w e w'):
  ∃slp f g d F c,e= .returned (.agg #[.int .i64 o.kind,.string o.path,.string o.frm,sv,slp,f,g])/\UH w' o r i x slp f g d F c/\BP w d/\(∀b,F b->w.heap.size<=b)/\(∀b,c b->w.heap.size<=b)/\(∀b,b∈d->¬F b/\¬c b)/\(∀b,b∈d->b<w'.heap.size)/\Chg w w' []/\f.oneCell'=true/\g.oneCell'=true:=by
 obtain⟨slp,f,g,d,F,c,j,a,s,k,l,t,m,n,p⟩:=h;by_cases q:AN o.kind=true
 .exact⟨slp,f,g,d,F,c,j,a,s,k,l,t,fun b u=>AP.lt _ _ _ (a.val q).1 b u,m,n,p⟩
 .exact⟨slp,f,g,[],F,c,j,⟨a.tpath,a.tfrm,fun h=>absurd h q,a.pathP,a.frmP,a.small⟩,BP.nil w,k,l,(by simp),(by simp),m,n,p⟩
theorem aB{k:Int}{p f:BY}{sv slp b c:Vl}(d:sv.oneCell'=true)(e:slp.oneCell'=true)(g:b.oneCell'=true)(h:c.oneCell'=true):∀u∈[Vl.int .i64 k,.string p,.string f,sv,slp,b,c],u.oneCell'=true:=by
 intro u a;simp only[Qh,List.not_mem_nil,or_false]at a
 rcases a with rfl|rfl|rfl|rfl|rfl|rfl|rfl
 .rfl
 .rfl
 .rfl
 .exact d
 .exact e
 .exact g
 .exact h
theorem Bd{P:Program}{o:Oper}{a:Act}{w:Wl}{Q:Exit->Act->Wl->Prop}{K:Act->Wl->Prop}(b:Ti)(x:Operand)(f:o.op= .load b x)(g:Nat)(j:a.eval x= .pointer (some ⟨g,0,none⟩))(T:Ti)(cs:List Vl)(c:Ac w g cs T)(d:TypeDesc)(i:P.underlying b=some d)(e:(match d with| .struct _| .array _ _=>true|_=>false)=true)(hi:(P.info? b).map (·.size)=some cs.length)(h:K (a.put o.dst (.agg cs.toArray)) w):Oper.wp P o a w K Q:=
 wp_load_row b x f g j T cs.toArray (0,0) d c i e (by simpa using hi) h
def PD(w0 a:Wl)(W:Nat)(i:Vl)(h:List Nat)(p:List (List Bq))(vs:List Vl)(G:Nat->Prop)(l:PV)(n:Nat)(v:Vl)(w:Wl):Prop:=match n with
 |0=>Chg a w []
 |1=>∃d e xs G2 j f,l= .yes d e/\Y3 a w W i h d (e.reverse.map CW.toI) v xs G2 j f/\Chg a w h
 |2=>∃d e xs G2 j f k g,l= .yes d e/\Y3 a w W i h d (e.reverse.map CW.toI) k xs G2 j f/\Chg a w h/\v= .slice (some ⟨g,0,none⟩) 1 1/\Ac w g [k] 23/\a.heap.size<=g/\g∉W::f
 |3=>∃d e xs G2 j f k g n c,l= .yes d e/\Y3 a w W i h d (e.reverse.map CW.toI) k xs G2 j f/\Chg a w (i.ownBlock.toList++h)/\v= .slice (some ⟨g,0,none⟩) n c/\AK w v 23 (vs++[k])/\(i.ownBlock=some g\/a.heap.size<=g)/\g∉W::f/\¬G2 g
 |_=>∃d e j o f q m,l= .yes d e/\PO w0 w W d (p++[e.reverse.map CW.toI]) j o f q m/\Chg a w (i.ownBlock.toList++h)/\(∀b,b∈Dj W o f->b∈i.ownBlock.toList++h\/a.heap.size<=b)/\∀b,m b->G b\/a.heap.size<=b
theorem PD.chg{w0 d:Wl}{W:Nat}{c:Vl}{b:List Nat}{e:List (List Bq)}{vs:List Vl}{G:Nat->Prop}{f:PV}{n:Nat}{v:Vl}{w:Wl}(h:PD w0 d W c b e vs G f n v w):Chg d w (c.ownBlock.toList++b):=by
 match n,h with
 |0,h=>exact Chg.none h _
 |1,⟨_,_,_,_,_,_,_,_,h⟩=>exact h.mono fun k _ a=>Qd _ a
 |2,⟨_,_,_,_,_,_,_,_,_,_,h,_⟩=>exact h.mono fun k _ a=>Qd _ a
 |3,⟨_,_,_,_,_,_,_,_,_,_,_,_,h,_⟩=>exact h
 |_+4,⟨_,_,_,_,_,_,_,_,_,h,_⟩=>exact h
theorem PD.undo{w0 b:Wl}{W:Nat}{a g:Vl}{t:Tr}{bs e:List Nat}{c:List (List Bq)}{vs:List Vl}{G:Nat->Prop}{f:PV}{n:Nat}{v:Vl}{w:Wl}(h:PD w0 b W a e c vs G f n v w)(i:n<=2)(d:Hu b W t g a bs):w.cell? ⟨W,3,none⟩=some a:=by
 match n,h with
 |0,h=>exact(d.blk.kept h).cell 3
 |1,⟨_,_,_,_,_,_,_,h,_⟩=>exact h.wat.blk.cell 3
 |2,⟨_,_,_,_,_,_,_,_,_,h,_⟩=>exact h.wat.blk.cell 3
 |_+3,_=>omega
theorem U0:(prog.info? 23).map (fun i=>(i.zero,i.size,i.bytes))=some (some (.slice none 0 0),1,24):=by kernel_rfl
def Tp(W a D m:Nat)(d:Vl)(c:Nat)(b:Vl)(j:Nat)(v:Vl):Prop:=match j with
 |0=>v= .pointer (some ⟨W,0,none⟩)
 |1=>v= .pointer (some ⟨W,0,none⟩)
 |2=>v= .pointer (some ⟨W,0,none⟩)
 |3=>v= .pointer (some ⟨W,3,none⟩)
 |4=>v=d
 |5=>v= .slice (some ⟨D,0,none⟩) 6 6
 |6=>v= .pointer (some ⟨a,0,none⟩)
 |7=>v= .int .i64 ((m:Int)+1)
 |8=>v= .int .i64 m
 |9=>v= .pointer (some ⟨D,m,none⟩)
 |10=>v= .func (.func c) #[.pointer (some ⟨W,0,none⟩)] #[]
 |11=>v=b
 |15=>v= .pointer (some ⟨W,0,none⟩)
 |16=>v= .pointer (some ⟨W,3,none⟩)
 |_=>True
theorem Tx(w0:Wl)(W:Nat)(t:Tr)(g:List (List Bq))(v a:Vl)(bs:List Nat)(vs:List Vl)(G:Nat->Prop)(o:Bq)(sv:Vl)(ys:List Vl)(b f c D:Nat)(w:Wl)(l:Br w)(z:10<=w0.heap.size)(K:w0.heap.size<=w.heap.size)(h:PO w0 w W t g v a bs vs G)(m:T7 o)(p:As w sv 6 o.steps.length ys)(q:Az w o.steps ys)(r:Ac w b (BJ o sv) 42)(A:Ac w f [.pointer (some ⟨W,0,none⟩)] 90)(B:Ac w c [.slice (some ⟨D,0,none⟩) 6 6] 161)(C:Ac w D (HJ W) 163)(E:b∉Dj W a bs)(F:f∉Dj W a bs)(H:c∉Dj W a bs)(I:D∉Dj W a bs)(J:vs.length<=65536)(i:Bn o≠0):
  Cl prog 78 #[.pointer (some ⟨b,0,none⟩),.pointer (some ⟨f,0,none⟩),.pointer (some ⟨c,0,none⟩)] w (CK w0 W t g a bs G o w):=by
 have d:=hZ (Xu o sv ys w l m p q);rw[Co.no rfl i]at d
 have j:Hid (CK w0 W t g a bs G o w=fun e w'=>e=By (Bn o)/\Chg w w' (Dj W a bs)):=hZ (by
  funext e w';unfold CK Gz;rw[Qr i];rfl)
 have y:=hZ r;rw[j.o];obtain⟨n,u⟩:∃n,n=Bn o:=⟨_,rfl⟩
 rw[<-u]at d|-;clear l z K h m p q r A B C E F H I J i u j;go_enter func78,ntmps78
 go_wp2_with(first
  |(refine Bp rfl _ _ rfl b (by rfl) 42 (BJ o sv) (by exact y.o) _ underlying42 rfl A0 ?_)
  |(go_at_call 52;refine d.o.mono ?_;rintro e L ⟨s,k⟩;unfold By at s;subst s;have x:=hZ k;clear k))
 exact⟨rfl,rfl,x.o.none _⟩
theorem Rz(w0:Wl)(W:Nat)(t:Tr)(gs:List (List Bq))(v s:Vl)(bs:List Nat)(vs:List Vl)(G:Nat->Prop)(o:Bq)(sv:Vl)(ys:List Vl)(OB WB DB D:Nat)(w:Wl)(hL:Br w)(ax:10<=w0.heap.size)(hz:w0.heap.size<=w.heap.size)(h:PO w0 w W t gs v s bs vs G)(hO:T7 o)(hR:As w sv 6 o.steps.length ys)(hS:Az w o.steps ys)(a2:Ac w OB (BJ o sv) 42)(a3:Ac w WB [.pointer (some ⟨W,0,none⟩)] 90)(a4:Ac w DB [.slice (some ⟨D,0,none⟩) 6 6] 161)(a5:Ac w D (HJ W) 163)(ba:OB∉Dj W s bs)(bb:WB∉Dj W s bs)(bc:DB∉Dj W s bs)(bd:D∉Dj W s bs)(bB:vs.length<=65536)(ao:Bn o=0):
  Cl prog 78 #[.pointer (some ⟨OB,0,none⟩),.pointer (some ⟨WB,0,none⟩),.pointer (some ⟨DB,0,none⟩)] w (CK w0 W t gs s bs G o w):=by
 have aU:=hZ (Xu o sv ys w hL hO hR hS);have Q:CP o.kind=true:=Iu.2 (by have:=(EK ao).1;omega);obtain⟨m,j⟩:∃m:Nat,o.kind=(m:Int)+1:=⟨(o.kind-1).toNat,by have:=(EK ao).1;omega⟩
 have cx:m<6:=by have:=(EK ao).1;omega
 have a9:(o.kind-1).toNat=m:=by omega
 have aA:=hZ ao;have HL:=hZ hL;have av:=hZ a2;have V:=hZ h;have bP:=hZ j;obtain⟨ab,ad,rfl,_⟩:=hR.form;have aQ:=hZ Q;have aR:=hZ a9;have aW:=hZ bB;have aN:=hZ ax;have HZ:=hZ hz;have ae:=hZ (And.intro a3 (And.intro a4 a5));have an:=hZ (And.intro ba (And.intro bb (And.intro bc bd)));clear hL ax hz h hO hR hS a2 a3 a4 a5 ba bb bc bd bB ao j Q a9;go_enter func78,ntmps78
 go_wp2_with(first
  |(refine Bp rfl _ _ rfl OB (by rfl) 42 (BJ o (.slice ab o.steps.length ad)) (by exact av.o) _ underlying42 rfl A0 ?_)
  |(go_at_call 52;refine aU.o.mono ?_;intro e R aJ;unfold Co at aJ;rw[aA.o,Qs (by simp)]at aJ;obtain⟨bF,a0,x,bf,r7⟩:=aJ;obtain⟨slp,ai,vx,H,F,F2,rfl,r1,r2,r3,r4,r5,bG,r6⟩:=bf.below;clear bf;obtain⟨pa,pc,bg,_⟩:=r1.tpath.row.cell;have R1:=hZ r1;have R2:=hZ r2;have R3:=hZ r3;have R4:=hZ r4;have R5:=hZ r5;have R6:=hZ bG;have H1:=hZ r6.1;have bS:=hZ (aB (k:=o.kind) (p:=o.path) (f:=o.frm) (sv:= .slice ab o.steps.length ad) (slp:=slp) rfl (by rw[bg];rfl) r6.2.1 r6.2.2);have R7:=hZ r7;have aS:=hZ (Ac.new R [.int .i64 0,.string ⟨#[]⟩,.string ⟨#[]⟩,.slice none 0 0,.slice none 0 0,.slice none 0 0,.nilIface] 111);clear r1 r2 r3 r4 r5 bG r6 r7 bg)
  |(refine Ae rfl _ _ _ rfl R.heap.size [.int .i64 o.kind,.string o.path,.string o.frm,.slice ab o.steps.length ad,slp,ai,vx] (by rfl) (by rfl) 111 _ aS.o Ce rfl bS.o ?_;intro w2 cj aE aH;have aO:=hZ aE;have H2:Hid (Chg w w2 []):=hZ (Chg.step (b:=_) (by exact cg H1.o) aH (fun i hi hl=>by have:=H1.o.size;simp at hi;omega));have aM:Hid (Chg R w2 []):=hZ (Chg.step (b:=_) (by exact cg (cR)) aH (fun i hi hl=>by simp at hi;omega));have aX:Hid (R.heap.size<w2.heap.size):=hZ aE.lt;clear cj aE aH))
 go_outline
 obtain⟨E,al⟩:∃y,y=World.drew w2:=⟨_,rfl⟩
 have bU:=hZ al;have Z:Hid (Chg w E []):=by rw[al];exact hZ H2.o.drew
 have bL:Hid (Chg R E []):=by rw[al];exact hZ aM.o.drew
 have B5:Hid (Ac E R.heap.size [.int .i64 o.kind,.string o.path,.string o.frm,.slice ab o.steps.length ad,slp,ai,vx] 111):=by rw[al];exact hZ aO.o.drew
 have ci:R.heap.size<E.heap.size:=by rw[al];exact aX.o
 clear al;have bC:=Z.o.size;have ah:=V.o.ltAll;have af:W∈Dj W s bs:=Qd _ (by simp);have ag:∀b,b∈bs->b∈Dj W s bs:=fun b d=>Qd _ (Qg _ d)
 have aq:∀b,b<w.heap.size->b∉Dj W s bs->b∉s.ownBlock.toList++W::(H++bs):=fun b hl hn j=>by
  rcases Qf.1 j with j|j
  .exact hn (Qe _ j)
  .rcases Qh.1 j with rfl|j
   .exact hn af
   .rcases Qf.1 j with j|j
    .have:=R2.o.ge b j;omega
    .exact hn (ag b j)
 have B1:=hZ (av.o.kept Z.o);have B2:=hZ (ae.o.1.kept Z.o);have B3:=hZ (ae.o.2.1.kept Z.o);have B4:=hZ (ae.o.2.2.kept Z.o);have bH:=hZ (aq OB av.o.lt an.o.1);have aL:=hZ (aq WB ae.o.1.lt an.o.2.1);have bI:=hZ (aq DB ae.o.2.1.lt an.o.2.2.1);have bJ:=hZ (aq D ae.o.2.2.lt an.o.2.2.2)
 have bK:Hid (R.heap.size∉s.ownBlock.toList++W::(H++bs)):=hZ fun j=>by
  have cA:=H1.o.size
  rcases Qf.1 j with j|j
  .have:=ah _ (Qe _ j);omega
  .rcases Qh.1 j with j|j
   .have:=ah _ af;omega
   .rcases Qf.1 j with j|j
    .have:=R6.o _ j;omega
    .have:=ah _ (ag _ j);omega
 have am:=hZ (V.o.kept Z.o)
 have aC:Hid (∀b,b∈H->w0.heap.size<=b/\¬G b/\s.ownBlock≠some b):=hZ fun b d=>by
  have z:=R2.o.ge b d;have h2:=HZ.o;refine⟨by omega,fun hG=>by have:=(V.o.gnew b hG).2;omega,fun e=>by have:=V.o.row.lt e;omega⟩
 have aV:Hid (∀g,s.ownBlock=some g->g∉W::(H++bs)):=hZ fun g hg j=>by
  rcases Qh.1 j with rfl|j
  .exact(V.o.uown g hg).2.1 (by simp)
  .rcases Qf.1 j with j|j
   .exact(aC.o g j).2.2 hg
   .exact(V.o.uown g hg).2.1 (Qg _ j)
 have bV:Hid (w0.heap.size<=E.heap.size):=hZ (by have:=HZ.o;omega)
 have be:(W::(H++bs)).Nodup:=by
  have hn:=V.o.nodup;simp only[List.nodup_cons,List.nodup_append,Qf,not_or]at hn|-;refine⟨⟨fun j=>by have:=R2.o.ge _ j;have:=ah _ af;omega,hn.1⟩,R2.o.nodup,hn.2,fun x hx y hy e=> ?_⟩;subst e;have:=R2.o.ge _ hx;have:=ah _ (ag _ hy);omega
 have a8:∀b,b∈W::(H++bs)->10<=b:=fun b d=>by
  have z:=aN.o
  rcases Qh.1 d with rfl|d
  .have:=V.o.ge _ (List.mem_cons_self ..);omega
  .rcases Qf.1 d with d|d
   .have:=(aC.o b d).1;omega
   .have:=V.o.ge _ (Qg _ d);omega
 have aF:∀b,b∈W::(H++bs)->¬F b/\¬F2 b:=fun b d=>by
  have bE:b∈Dj W s bs->¬F b/\¬F2 b:=fun j=>by
   have hl:=ah b j;exact⟨fun I=>by have:=R3.o b I;omega,fun I=>by have:=R4.o b I;omega⟩
  rcases Qh.1 d with rfl|d
  .exact bE af
  .rcases Qf.1 d with d|d
   .exact R5.o b d
   .exact bE (ag b d)
 have bh:Da t o bF a0 x=Gz t o:=VL aA.o R1.o.pathP R1.o.frmP R7.o
 have aG:∀S,Chg E S []->∃n:Nat,(HJ W)[(o.kind-1).toNat]? =some (.func (.func n) #[.pointer (some ⟨W,0,none⟩)] #[])/\
   Cl prog n #[.pointer (some ⟨W,0,none⟩),.agg #[.int .i64 o.kind,.string o.path,.string o.frm,.slice ab o.steps.length ad,slp,ai,vx]] S (BC W s (W::(H++bs)) (Gz t o) S):=fun S hx=>by
  rw[<-bh];have b5:=bL.o.trans hx;have b1:=Z.o.trans hx;exact aD W t v s bs o bF a0 x _ slp ai vx H F F2 S (HL.o.kept b1) (am.o.wat.kept hx) (R1.o.kept b5) be a8 (fun b d=>(aF b d).1) (fun b d=>(aF b d).2) aQ.o
 obtain⟨n0,ap,_⟩:=aG E cR;obtain⟨au,aa⟩:∃r,r=Gz t o:=⟨_,rfl⟩
 have bN:Hid (∀S,Chg E S []->Cl prog n0 #[.pointer (some ⟨W,0,none⟩),.agg #[.int .i64 o.kind,.string o.path,.string o.frm,.slice ab o.steps.length ad,slp,ai,vx]] S (BC W s (W::(H++bs)) au S)):=hZ fun S hx=>by
  obtain⟨n,z,h2⟩:=aG S hx;rw[ap]at z
  injection z with z
  injection z with z _ _
  injection z with z
  subst z;rw[aa];exact h2
 rw[aR.o]at ap;have bQ:=hZ ap;have bM:=hZ (UR ap);have aT:Hid (CK w0 W t gs s bs G o w=Y6 w0 W gs s bs G au w):=hZ (by unfold CK;rw[<-aa])
 have aP:Hid (∀w',Chg E w' (s.ownBlock.toList++W::(H++bs))->Chg w w' (Dj W s bs)):=hZ fun w' h=>(Z.o.none _).step h (fun i hi hl=>by
  rcases Qf.1 hi with hi|hi
  .exact Qe _ hi
  .rcases Qh.1 hi with rfl|hi
   .exact af
   .rcases Qf.1 hi with hi|hi
    .have:=R2.o.ge i hi;omega
    .exact ag i hi)
 have bW:Hid (w.heap.size<=E.heap.size):=hZ bC
 have bR:Hid (∀b,(b∈s.ownBlock.toList++W::(H++bs)\/E.heap.size<=b)->b∈Dj W s bs\/w.heap.size<=b):=hZ fun b d=>by
  rcases d with d|d
  .rcases Qf.1 d with d|d
   .exact .inl (Qe _ d)
   .rcases Qh.1 d with rfl|d
    .exact .inl af
    .rcases Qf.1 d with d|d
     .exact .inr (R2.o.ge b d)
     .exact .inl (ag b d)
  .exact .inr (by omega)
 have bT:Hid (PD w0 E W s (W::(H++bs)) gs vs G au 0 undef E):=hZ cR;clear aa aG bh aF a8 be aq ah af ag ap bC ci;clear aU aR aQ ae an aO av aS R1 R2 R3 R4 R5 R6 R7 H1 H2 aM aX HL aA aN;refine wp_region_any (by kernel_rfl) ?_;change wpAny _ _ _ _ _ _ _ (World.drew _);rw[<-bU.o];refine Dg _ (DC [12,13,14,17] (Tp W OB D m s n0 (.agg #[.int .i64 o.kind,.string o.path,.string o.frm,.slice ab o.steps.length ad,slp,ai,vx])) (PD w0 E W s (W::(H++bs)) gs vs G au)) (by kernel_rfl) ?_ ?_ _ ?_
 .intro ii op a O dd q I Y B ca l K A
  have aj:Chg E O (s.ownBlock.toList++W::(H++bs)):=by
   obtain⟨_,_,_,hp⟩:=l.any;exact hp.chg
  match ii,q with
  |0,q=>
   obtain rfl:=Q5 q;have z:a.tmps.getD 1 undef= .pointer (some ⟨WB,0,none⟩):=I.at 1 (by kernel_rfl);have P:=B2.o.kept aj aL.o;have M:=P.cell 0;simp only[Qa,Qb]at M;go_simp
   exact A _ _ (by simp) (l.read (by simp) (by decide) (by simp[Tp]))
  |1,q=>
   obtain rfl:=Q5 q;have z:a.tmps.getD 1 undef= .pointer (some ⟨WB,0,none⟩):=I.at 1 (by kernel_rfl);have P:=B2.o.kept aj aL.o;have M:=P.cell 0;simp only[Qa,Qb]at M;go_simp
   exact A _ _ (by simp) (l.read (by simp) (by decide) (by simp[Tp]))
  |2,q=>
   obtain rfl:=Q5 q;have h7:a.tmps.getD 7 undef= .pointer (some ⟨W,0,none⟩):=l.vals 1 (by decide) (B ⟨1,.data⟩ (by simp) rfl);go_simp
   exact A _ _ (by simp) (l.read (by simp) (by decide) (by simp[Tp]))
  |3,q=>
   obtain rfl:=Q5 q;have h8:a.tmps.getD 8 undef= .pointer (some ⟨W,0,none⟩):=l.vals 2 (by decide) (B ⟨2,.data⟩ (by simp) rfl);go_simp
   exact A _ _ (by simp) (l.read (by simp) (by decide) (by simp[Tp]))
  |4,q=>
   obtain rfl:=Q5 q;have h9:a.tmps.getD 9 undef= .pointer (some ⟨W,3,none⟩):=l.vals 3 (by decide) (B ⟨3,.data⟩ (by simp) rfl)
   have aw:dd 14=false:=by
    cases e:dd 14 with
    |false=>rfl
    |true=>have:=ca 14 _ rfl e ⟨4,.data⟩ (by simp) rfl;rw[Y]at this;cases this
   obtain⟨m',U,cd,ce⟩:=l.low (n:=2) rfl aw;have M:=ce.undo cd am.o.wat;go_simp
   exact A _ _ (by simp) (l.read (by simp) (by decide) (by simp[Tp]))
  |5,q=>
   obtain rfl:=Q5 q;have h2:a.tmps.getD 2 undef= .pointer (some ⟨DB,0,none⟩):=I.at 2 (by kernel_rfl);have P:=B3.o.kept aj bI.o;have M:=P.cell 0;simp only[Qa,Qb]at M;go_simp
   exact A _ _ (by simp) (l.read (by simp) (by decide) (by simp[Tp]))
  |6,q=>
   obtain rfl:=Q5 q;have h0:a.tmps.getD 0 undef= .pointer (some ⟨OB,0,none⟩):=I.at 0 (by kernel_rfl);go_simp
   exact A _ _ (by simp) (l.read (by simp) (by decide) (by simp[Tp]))
  |7,q=>
   obtain rfl:=Q5 q;have cn:a.tmps.getD 12 undef= .pointer (some ⟨OB,0,none⟩):=l.vals 6 (by decide) (B ⟨6,.data⟩ (by simp) rfl);have P:=B1.o.kept aj bH.o;have M:=P.cell 0;unfold BJ at M;simp only[Qa]at M;rw[bP.o]at M;go_simp
   exact A _ _ (by simp) (l.read (by simp) (by decide) (by simp[Tp]))
  |8,q=>
   obtain rfl:=Q5 q;have co:a.tmps.getD 13 undef= .int .i64 ((m:Int)+1):=l.vals 7 (by decide) (B ⟨7,.data⟩ (by simp) rfl);have cz:IntKind.i64.wrap ((m:Int)+1-1)=(m:Int):=by rw[show(m:Int)+1-1=m from by omega];exact IntWalk.i64_in _ (by omega)
   have cf:IntKind.i64.wrap (m:Int)=(m:Int):=IntWalk.i64_in _ (by omega);go_simp
   exact A _ _ (by simp) (l.read (by simp) (by decide) (by simp[Tp,cf]))
  |9,q=>
   obtain rfl:=Q5 q;have cm:a.tmps.getD 11 undef= .slice (some ⟨D,0,none⟩) 6 6:=l.vals 5 (by decide) (B ⟨5,.data⟩ (by simp) rfl);have cp:a.tmps.getD 14 undef= .int .i64 m:=l.vals 8 (by decide) (B ⟨8,.data⟩ (by simp) rfl);have cy:(m:Int)<6:=by omega
   have cw:(0:Int)<=(m:Int):=by omega
   go_simp
   exact A _ _ (by simp) (l.read (by simp) (by decide) (by simp[Tp]))
  |10,q=>
   obtain rfl:=Q5 q;have cq:a.tmps.getD 15 undef= .pointer (some ⟨D,m,none⟩):=l.vals 9 (by decide) (B ⟨9,.data⟩ (by simp) rfl);have P:=B4.o.kept aj bJ.o;have M:=P.cell m;rw[bQ.o]at M;go_simp
   exact A _ _ (by simp) (l.read (by simp) (by decide) (by simp[Tp]))
  |11,q=>
   obtain rfl:=Q5 q;have h3:a.tmps.getD 3 undef= .pointer (some ⟨R.heap.size,0,none⟩):=I.at 3 (by kernel_rfl);have P:=B5.o.kept aj bK.o;rw[Qr (by simp[Region.wanted])];refine Bd _ _ rfl R.heap.size h3 111 _ P _ underlying111 rfl Ce ?_;exact A _ _ (by simp) (l.read (by simp) (by decide) (by simp[Tp]))
  |12,q=>
   obtain rfl:=Q5 q;have bY:=B ⟨10,.data⟩ (by simp) rfl;have bZ:=B ⟨11,.data⟩ (by simp) rfl;have ax:a.tmps.getD 16 undef= .func (.func n0) #[.pointer (some ⟨W,0,none⟩)] #[]:=l.vals 10 (by decide) bY;have b3:a.tmps.getD 17 undef=(.agg #[.int .i64 o.kind,.string o.path,.string o.frm,.slice ab o.steps.length ad,slp,ai,vx]):=l.vals 11 (by decide) bZ;have ay:Chg E O []:=l.at (n:=0) rfl Y (.inl rfl);rw[Qr (by simp[Region.wanted])];refine Ru _ _ _ rfl n0 _ _ ax b3 (bM.o _ _) _ (bN.o O ay) ?_;intro e R az
   rcases aa:au with k|⟨t',J⟩
   .rw[aa]at az
    obtain⟨he,b7⟩:=az;unfold By at he;subst he;refine .inr ⟨_,rfl, ?_⟩;rw[aT.o,aa];exact⟨I.defers,rfl,aP.o _ (((ay.none _).trans b7).mono fun k _ Q=>Qd _ Q)⟩
   .rw[aa]at az
    obtain⟨U,T,sl,xs,G2,he,q1,q2,q3,q4,q5⟩:=az;subst he;have ch:=ay.size;refine .inl ⟨_,rfl,A _ _ (by simp) (l.next (n:=0) rfl Y (.inl rfl) (by decide) ?_)⟩;exact⟨t',J,xs,G2,U,T,aa,⟨⟨q1.row,q1.inn,q1.ops,fun b d=>by have:=q1.new b d;omega⟩,q2,q3.back ch,q5⟩,(ay.none _).trans q4⟩
  |13,q=>
   obtain rfl:=Q5 q;have aY:=B ⟨12,.data⟩ (by simp) rfl;obtain⟨t',J,xs,G2,U,T,g1,u,L⟩:=l.at (n:=1) rfl Y (.inr ⟨12,rfl,aY⟩);change Y3 _ _ _ _ _ _ _ (a.tmps.getD 18 undef) _ _ _ _ at u;obtain⟨sa,sc,ar,_⟩:=u.ops.row.form;rw[show(J.reverse.map CW.toI).length=J.length from by simp]at ar;rw[ar]at u;have b4:a.tmps.getD 18 undef= .slice sa J.length sc:=ar;have cr:a.tmps[18]?.getD undef= .slice sa J.length sc:=by rw[<-Qp];exact b4
   have bD:=L.size;have cb:=u.wat.blk.lt;have aI:=AP.lt _ _ _ u.wat.at_;go_simp
   refine A _ _ (by simp) (l.next (n:=1) rfl Y (.inr ⟨12,rfl,aY⟩) (by decide) ?_);have b9:Chg O (O.alloc (.cells #[.slice sa J.length sc] 23)) []:=(Chg.refl O []).alloc _;refine⟨t',J,xs,G2,U,T,_,O.heap.size,g1,u.kept b9,L.alloc _,rfl,Ac.new O [.slice sa J.length sc] _,bD,fun j=> ?_⟩
   rcases Qh.1 j with j|j
   .omega
   .have:=aI _ j;omega
  |14,q=>
   obtain rfl:=Q5 q;have aZ:=B ⟨13,.data⟩ (by simp) rfl;have d4:=B ⟨4,.data⟩ (by simp) rfl;obtain⟨t',J,xs,G2,U,T,sl,g,g1,u,L,X,g5,g6,g7⟩:=l.at (n:=2) rfl Y (.inr ⟨13,rfl,aZ⟩);change a.tmps.getD 19 undef=_ at X;have b2:a.tmps.getD 10 undef=s:=l.vals 4 (by decide) d4;have a6:=g5.cell 0;simp only[Qa]at a6;have b6:AK O s 23 vs:=am.o.row.kept L aV.o;obtain⟨sa,sc,ar,_⟩:=u.ops.row.form;refine Df rfl _ _ _ rfl 23 _ 24 underlying96 U0 rfl s vs b2 b6 g sl X a6 (by rw[ar];rfl) (by have:=aW.o;omega) (by have:=aW.o;omega) ?_;intro g' bX w' k1 k2 N;refine A _ _ (by simp) (l.next (n:=2) rfl Y (.inr ⟨13,rfl,aZ⟩) (by decide) ?_);have bD:=L.size;have cb:=u.wat.blk.lt;have aI:=AP.lt _ _ _ u.wat.at_
   have aK:∀b,b∈s.ownBlock.toList->b<E.heap.size/\b∉W::T/\¬G2 b:=fun b d=>by
    have a1:s.ownBlock=some b:=by simpa using d
    have cc:=am.o.row.lt a1;refine⟨cc,fun j=> ?_,fun hG=>by have:=(u.ops.new b hG).1;omega⟩
    rcases u.own.come b j with z|z
    .exact aV.o b a1 z
    .omega
   refine⟨t',J,xs,G2,U,T,sl,g',_,bX,g1,u.kept k2 (fun b d=>(aK b d).2),((L.mono fun k _ Q=>Qd _ Q).trans (k2.mono fun k _ Q=>Qe _ Q)),rfl,k1, ?_, ?_, ?_⟩
   .rcases N with N|N
    .exact .inl N
    .exact .inr (by omega)
   .rcases N with N|N
    .exact(aK g' (by simp[N])).2.1
    .intro j
     rcases Qh.1 j with j|j
     .omega
     .have:=aI _ j;omega
   .rcases N with N|N
    .exact(aK g' (by simp[N])).2.2
    .intro j;have:=(u.ops.new _ j).2;omega
  |15,q=>
   obtain rfl:=Q5 q;have h6:a.tmps.getD 6 undef= .pointer (some ⟨W,0,none⟩):=l.vals 0 (by decide) (B ⟨0,.data⟩ (by simp) rfl);go_simp
   exact A _ _ (by simp) (l.read (by simp) (by decide) (by simp[Tp]))
  |16,q=>
   obtain rfl:=Q5 q;have ct:a.tmps.getD 21 undef= .pointer (some ⟨W,0,none⟩):=l.vals 15 (by decide) (B ⟨15,.data⟩ (by simp) rfl);go_simp
   exact A _ _ (by simp) (l.read (by simp) (by decide) (by simp[Tp]))
  |17,q=>
   obtain rfl:=Q5 q;have aw:=B ⟨14,.data⟩ (by simp) rfl;have b0:=B ⟨16,.data⟩ (by simp) rfl;obtain⟨t',J,xs,G2,U,T,sl,g,n,c,g1,u,L,X,g5,g6,g7,g8⟩:=l.at (n:=3) rfl Y (.inr ⟨14,rfl,aw⟩);change a.tmps.getD 20 undef=_ at X;change AK _ (a.tmps.getD 20 undef) _ _ at g5;rw[X]at g5;have cs:a.tmps[20]?.getD undef= .slice (some ⟨g,0,none⟩) n c:=by rw[<-Qp];exact X
   have cu:a.tmps.getD 22 undef= .pointer (some ⟨W,3,none⟩):=l.vals 16 (by decide) b0;have b8:=u.wat.blk.cell 3;simp only[Qa,Qb]at b8;have cv:=u.wat.blk.frozen 3;go_simp
   refine A undef _ (fun _=>rfl) (l.next (n:=3) rfl Y (.inr ⟨14,rfl,aw⟩) (by decide) ?_);have hs:Chg O (O.setCell ⟨W,3,none⟩ (.slice (some ⟨g,0,none⟩) n c)) [W]:=(Chg.refl O _).setCell _ _ (by simp);refine⟨t',J,U,_,T,_,_,g1,PO.next am.o aC.o u (fun b d _=>d) L g5 g6 g7 g8 bV.o hs (u.wat.blk.set 3 (.slice (some ⟨g,0,none⟩) n c)),L.trans (hs.mono fun k _ Q=>by simp at Q;subst Q;simp),fun b d=> ?_,fun b d=>d.imp id fun h=>(u.ops.new b h).1⟩
   rcases Qf.1 d with d|d
   .simp[Vl.ownBlock]at d
    subst d
    rcases g6 with h6|h6
    .exact .inl (Qe _ (by simp[h6]))
    .exact .inr h6
   .rcases u.own.come b d with z|z
    .exact .inl (Qd _ z)
    .exact .inr z
  |_+18,q=>exact absurd q (by simp)
 .intro a wR dd I hd l
  obtain⟨t',J,U,ck,T,cl,G',g1,u,L,X,g5⟩:=l.fin (n:=3) rfl rfl (hd 17 (by decide));have bO:Hid (CK w0 W t gs s bs G o w (.returned (.tuple #[])) wR):=hZ (by rw[aT.o,g1];exact⟨rfl,aP.o _ L,U,ck,T,cl,G',u,fun b d=>bR.o b (X b d),fun b d=>(g5 b d).imp id fun h=>Q7 bW.o h⟩);clear l hd g1 u L X g5;have ak:=I.form' [6,7,8,9,10,11,12,13,14,15,16,17,18,19,20,21,22] (by kernel_rfl);have a7:=I.defers;obtain⟨C,df⟩:=a;clear I
  dsimp only at ak a7
  simp only[List.foldl_cons,List.foldl_nil]at ak;obtain⟨u6,bw⟩:∃x,x=C.getD 6 undef:=⟨_,rfl⟩
  obtain⟨u7,bx⟩:∃x,x=C.getD 7 undef:=⟨_,rfl⟩
  obtain⟨u8,bz⟩:∃x,x=C.getD 8 undef:=⟨_,rfl⟩
  obtain⟨u9,bA⟩:∃x,x=C.getD 9 undef:=⟨_,rfl⟩
  obtain⟨u10,bi⟩:∃x,x=C.getD 10 undef:=⟨_,rfl⟩
  obtain⟨u11,bj⟩:∃x,x=C.getD 11 undef:=⟨_,rfl⟩
  obtain⟨u12,bk⟩:∃x,x=C.getD 12 undef:=⟨_,rfl⟩
  obtain⟨u13,bl⟩:∃x,x=C.getD 13 undef:=⟨_,rfl⟩
  obtain⟨u14,bm⟩:∃x,x=C.getD 14 undef:=⟨_,rfl⟩
  obtain⟨u15,bn⟩:∃x,x=C.getD 15 undef:=⟨_,rfl⟩
  obtain⟨u16,bo⟩:∃x,x=C.getD 16 undef:=⟨_,rfl⟩
  obtain⟨u17,bp⟩:∃x,x=C.getD 17 undef:=⟨_,rfl⟩
  obtain⟨u18,bq⟩:∃x,x=C.getD 18 undef:=⟨_,rfl⟩
  obtain⟨u19,br⟩:∃x,x=C.getD 19 undef:=⟨_,rfl⟩
  obtain⟨u20,bt⟩:∃x,x=C.getD 20 undef:=⟨_,rfl⟩
  obtain⟨u21,bu⟩:∃x,x=C.getD 21 undef:=⟨_,rfl⟩
  obtain⟨u22,bv⟩:∃x,x=C.getD 22 undef:=⟨_,rfl⟩
  rw[<-bw,<-bx,<-bz,<-bA,<-bi,<-bj,<-bk,<-bl,<-bm,<-bn,<-bo,<-bp,<-bq,<-br,<-bt,<-bu,<-bv]at ak;clear bw bx bz bA bi bj bk bl bm bn bo bp bq br bt bu bv
  dsimp only[Act.put]at ak
  simp only[List.setIfInBounds_toArray,List.set_cons_zero,List.set_cons_succ]at ak;subst ak;subst a7;go_wp2_with fail
  go_end0
  exact bO.o
 .exact DC.start bT.o
end
end Go.Proofs.YtkfnkppdhcaeoaaGreatDoor

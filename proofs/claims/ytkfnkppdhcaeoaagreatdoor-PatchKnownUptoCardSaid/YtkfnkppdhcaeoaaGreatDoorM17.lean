/- Part 17 of the proof of coreBase. -/
import Derived.Test.YtkfnkppdhcaeoaaGreatDoorM11
import Derived.Test.YtkfnkppdhcaeoaaGreatDoorM16
set_option maxRecDepth 100000
set_option maxHeartbeats 32000000
set_option linter.all false
namespace Go.Proofs.YtkfnkppdhcaeoaaGreatDoor
open Go renaming Calls->Cl,TypeId->Ti,Value->Vl,World->Wl
open Go.Value renaming agg->nA,iface->nF,int->nI,pointer->nP,slice->nS,string->nG,tuple->nT
open Go.IntKind renaming i64->nX
open Go.Ending renaming returned->nR
open Go.Obj renaming cells->nC
open Option renaming none->nN,some->nM
section
open _root_.Go.Proofs.Tryz
open Go Go.Shelf Go.RowKit Go.Lib Go.Sort Tree Ptr
abbrev UF:=Int×BY×BY×Option Addr×Nat×Nat
def D0:UF->List Vl
 |(k,p,f,a,n,c)=>[nI nX k,nG p,nG f,nS a n c]
theorem Fg(x:UF):(D0 x).length=4:=rfl
theorem Ws:∀x:UF,∀v∈D0 x,v.oneCell'=true:=by
 rintro⟨k,p,f,a,n,c⟩ v b;simp only[D0,Qh,List.not_mem_nil,or_false]at b
 rcases b with rfl|rfl|rfl|rfl<;>rfl
theorem QG:∀(d:List UF) (t:Nat),(d.flatMap D0)[t]? =(d[t/4]?).bind fun x=>(D0 x)[t % 4]?
 |[],t=>Zh
 |x::d,t=>by
  rw[List.flatMap_cons];by_cases h:t<4
  .rw[List.getElem?_append_left (by rw[Fg];exact h)]
   have a:t/4=0:=Zj
   have b:t % 4=t:=Zj
   rw[a,b];rfl
  .rw[List.getElem?_append_right (by rw[Fg];omega),Fg,QG d]
   have a:t/4=(t-4)/4+1:=Zj
   have b:t % 4=(t-4) % 4:=Zj
   rw[a,b];rfl
theorem NY(d:List UF):(d.flatMap D0).length=d.length*4:=by
 induction d with
 |nil=>rfl
 |cons x d a=>rw[List.flatMap_cons,Qk,Fg,a,Qj];omega
theorem NX(d:List UF)(t:Nat)(h:t<d.length*4):(d.flatMap D0)[t]? =nM ((D0 d.toArray[t/4]!)[t % 4]!):=by
 have hi:t/4<d.toArray.size:=by rw[List.size_toArray];omega
 have a:t/4<d.length:=Zj
 have b:d.toArray[t/4]! =d[t/4]'a:=by rw[getElem!_pos d.toArray (t/4) hi];rfl
 rw[QG,Q9 a,Option.bind_some,b,List.getElem!_eq_getElem?_getD,Q9 (by rw[Fg];omega)];rfl
theorem SX{w:Wl}{g:Nat}{d:List UF}(h:HoldsK D0 4 w g 0 d.toArray):∀i v,(d.flatMap D0)[i]? =nM v->w.cell? ⟨g,0+i,nN⟩=nM v:=by
 intro i v a;have e:i<d.length*4:=by have:=(Qc.1 a).1;rwa[NY]at this
 rw[NX d i e]at a;have b:=(HoldsK.cell h (i:=i/4) (c:=i % 4) (by rw[List.size_toArray];omega) (Nat.mod_lt _ ZM)).1;rw[show 0+i/4*4+i % 4=0+i from by omega]at b;rw[b,a]
theorem UZ{w:Wl}{g:Nat}{d:List UF}{b:List Vl}{T:Ti}(c:Ac w g b T)(e:b.take (d.length*4)=d.flatMap D0):HoldsK D0 4 w g 0 d.toArray:=fun j a=>by
 rw[size_flatK,List.size_toArray]at a;refine⟨?_,c.frozen _⟩;rw[get_flatK _ _ _ _ (by rw[List.size_toArray];exact a),c.cell,Nat.zero_add];have:=NX d j a;rw[<-e,List.getElem?_take,Qr a]at this;exact this
theorem Ba.blk{w:Wl}{g n c sz:Nat}{e:Ti}{xs:List Vl}(h:Ba w (nS (nM ⟨g,0,nN⟩) n c) e sz n xs):∃b:List Vl,Ac w g b e/\n<=c/\b.take (n*sz)=xs:=by
 rcases h.2 with⟨d,_⟩|⟨m,l,b,a,_,k,f,o,p,i⟩
 .injection d with d;cases d
 .injection a with a q j
  injection a with a
  injection a with a
  subst a;subst j;exact⟨b.toList,by unfold Ac;simpa using k,f,i⟩
theorem YP(d:List UF)(g c:Nat)(w:Wl)(h:Ba w (nS (nM ⟨g,0,nN⟩) d.length c) 42 4 d.length (d.flatMap D0))(r:d.length<=4294967296):
  Cl prog 47 #[nS (nM ⟨g,0,nN⟩) d.length c] w fun e w'=>e= nR (nT #[])/\As w' (nS (nM ⟨g,0,nN⟩) d.length c) 4 d.length (d.reverse.flatMap D0)/\Chg w w' [g]:=by
 obtain⟨q,k,l,o⟩:=h.blk;have a:=UZ k o;have f:=AnyQ.slices_Reverse bV 4 (fun w=>isAgg42 w) (fun w=>sizeOf42 w) D0 Fg Ws g 0 c d.toArray w a (by rw[List.size_toArray];omega);rw[List.size_toArray]at f;refine Calls.mono f ?_;rintro e w' ⟨m,n,rfl⟩;have b:HoldsK D0 4 (putRowK D0 4 (Sort.ahead w n) g 0 d.toArray.reverse) g 0 d.toArray.reverse:=holdsK_putRowK D0 4 _ g 0 d.toArray _ (holdsK_ahead D0 4 w n g 0 _ a) Zh;have j:d.toArray.reverse=d.reverse.toArray:=Zh
 rw[j]at b|-;refine⟨m,⟨_,_,rfl,l,by rw[NY,List.length_reverse],fun i v p=>⟨g,0,rfl,SX b i v p⟩⟩, ?_⟩;exact Jc id w n g _
theorem YO(d:List UF)(sv:Vl)(w:Wl)(h:Ba w sv 42 4 d.length (d.flatMap D0))(k:d.length<=4294967296):
  Cl prog 47 #[sv] w fun e w'=>e= nR (nT #[])/\As w' sv 4 d.length (d.reverse.flatMap D0)/\Chg w w' sv.ownBlock.toList:=by
 obtain⟨a,c,rfl,f⟩:=h.form;by_cases b:d=[]
 .subst b
  refine Calls.mono (AnyQ.slices_Reverse_empty bV a c w) ?_;rintro e w' ⟨j,rfl⟩;exact⟨j,⟨a,c,rfl,Nat.zero_le _,rfl,fun i v l=>by simp at l⟩,Chg.refl _ _⟩
 .obtain⟨g,rfl⟩:=f (List.length_pos_iff.2 b)
  exact YP d g c w h k
theorem Eh.enc{w:Wl}{G:Nat->Prop}:∀{os:List Bq} {xs:List Vl},Eh w G os xs->∃d:List UF,d.length=os.length/\xs=d.flatMap D0
 |[],_,h=>by unfold Eh at h;subst h;exact⟨[],rfl,rfl⟩
 |o::l,_,⟨sv,ys,r,b,e,i,j,f⟩=>by
  obtain⟨a,c,rfl,_⟩:=e.form;obtain⟨d,g,rfl⟩:=f.enc;exact⟨(o.kind,o.path,o.frm,a,o.steps.length,c)::d,by simp[g],by rw[b];rfl⟩
theorem PU{w:Wl}{G:Nat->Prop}:∀{os:List Bq} {d:List UF},d.length=os.length->Eh w G os (d.flatMap D0)->Eh w G os.reverse (d.reverse.flatMap D0)
 |[],d,a,h=>by have:d=[]:=List.length_eq_zero_iff.1 a;subst this;exact h
 |o::l,[],a,h=>by simp at a
 |o::l,x::d,a,⟨sv,ys,r,b,f,g,i,j⟩=>by
  rw[List.flatMap_cons]at b;obtain⟨c,e⟩:=List.append_inj b (by rw[Fg];rfl);subst e;have k:=PU (os:=l) (d:=d) (by simpa using a) j;rw[List.reverse_cons,List.reverse_cons,List.flatMap_append];refine k.append ?_;exact⟨sv,ys,[],by simp[c],f,g,i,rfl⟩
theorem Fs{P:Program}{I:Array Oper}{rest:List Oper}{o:Oper}{a:Act}{Q:Exit->Act->Wl->Prop}{w:Wl}(v:o.guard=nN)(s x:Operand)(t:Ti)(C:o.op= .call {callee:= .builtin .append,args:=#[s,x],argTypes:=#[t,t]})(e:Ti)(z:Vl)(sz j:Nat)(E:0<sz)(F:P.underlying t=nM (.slice e))(y:(P.info? e).map (fun i=>(i.zero,i.size,i.bytes))=nM (nM z,sz,j))(U:z.cells.size=sz)(sv:Vl)(n:Nat)(xs:List Vl)(D:a.eval s=sv)(f:Ba w sv e sz n xs)(m:Nat)(us:List Vl)(K:Vl)(H:a.eval x=K)(r:As w K sz m us)(R:∀u∈us,u.oneCell'=true)(N:(n+m)*j<=140737488355328)(O:n+m<=140737488355328)(h:∀q c w',Ba w' (nS q (n+m) c) e sz (n+m) (xs++us)->Chg w w' sv.ownBlock.toList->(∀g,(Vl.slice q (n+m) c).ownBlock=nM g->sv.ownBlock=nM g\/g=w.heap.size)->
   wpList P I Q rest (a.put o.dst (nS q (n+m) c)) w'):wpList P I Q (o::rest) a w:=by
 obtain⟨W,J,rfl,aa,T⟩:=r.form;by_cases A:0<m
 .obtain⟨B,V,rfl,L⟩:=r.base A E
  exact Er v s x t C e z sz j E F y U sv n xs D f B V m J us H A T L R N O fun g c w' k l p=>h _ c w' k l fun Z d=>by
   simp[Vl.ownBlock]at d;subst d;exact p
 .obtain rfl:m=0:=by omega
  have S:us=[]:=by apply List.length_eq_zero_iff.1;omega
  subst S;obtain⟨i,hi,_⟩:=info_parts y;obtain⟨b,c,rfl,_⟩:=f.form
  have M:n<=c:=by
   rcases f.2 with⟨k,l⟩|⟨g,X,Y,G,_,_,p,_⟩
   .omega
   .injection G with _ _ G;omega
  refine A1 v s x t C e i F hi b n c M D W J H ?_;have:=h b c w (by rw[List.append_nil,Nat.add_zero];exact f) cR (fun g d=> .inl d);exact this
end
section
open _root_.Go.Proofs.Tryz
open Go Go.RowKit Tree
def Zk(w:Wl)(F:Nat->Prop)(a:Vl)(l:List Tr):Prop:=
 ∃xs,Ba w a 29 6 l.length xs/\Aq w F l xs/\(∀b,F b->b<w.heap.size)/\(∀g,a.ownBlock=nM g->¬F g)
def Wf(w:Wl)(e:Ending)(w':Wl):Prop:=(∃(v:Vl) (k:Int),k≠0/\e= nR (nT #[v,nI nX k]))/\Chg w w' []
theorem As.rowAt{w:Wl}{e:Vl}{n:Nat}{xs:List Vl}(h:As w e 1 n xs):Ax w (fun _=>True) e xs:=by
 obtain⟨a,c,rfl,i,d⟩:=h.form;rw[Nat.mul_one]at d;by_cases f:n=0
 .subst f
  exact .inl ⟨List.eq_nil_of_length_eq_zero d,a,c,rfl⟩
 .obtain⟨b,o,rfl,g⟩:=h.base Zj ZM
  exact .inr ⟨b,o,c,by rw[d],trivial,g⟩
structure aI(s:Ap)(ka:Option Addr)(kn kc:Nat)(w0:Wl)(B:Nat)(bF bT bK bD:Bool):Prop where
 cells:∀wx,Chg w0 wx []->Ac wx B [nI nX s.sort,.bool s.flag,nI .u64 s.bits,nG s.text,nI nX s.count,nS ka kn kc] 158
 fin:∀wx,Cl prog 161 #[nI .u64 s.bits] wx fun e w'=>e= nR (.bool bF)/\Chg wx w' []
 text:∀wx,Cl prog 162 #[nG s.text] wx fun e w'=>e= nR (.bool bT)/\wx=w'
 keys:∀wx,Chg w0 wx []->Cl prog 163 #[nS ka kn kc] wx fun e w'=>e= nR (.bool bK)/\Chg wx w' []
 twice:bK=true->∀wx,Chg w0 wx []->Cl prog 164 #[nS ka kn kc] wx fun e w'=>e= nR (.bool bD)/\Chg wx w' []
theorem Vp(l:List Tr)(rv:Vl)(s:Ap)(sk:Vl)(w:Wl)(hr:∃a c,rv= nS a l.length c)(hK:As w sk 1 s.keys.length (Ad s.keys))(j:Di s)(hl:l.length<=1099511627776)(ai:Kw s=false\/l.length<Hn s):
  Cl prog 126 #[rv,nA #[nI nX s.sort,.bool s.flag,nI .u64 s.bits,nG s.text,nI nX s.count,sk]] w (Wf w):=by
 obtain⟨ra,rc,rfl⟩:=hr;obtain⟨r,t,rfl,ak,_⟩:=hK.form;have ae:∀u,Chg w u []->As u (nS r s.keys.length t) 1 s.keys.length (Ad s.keys):=fun u h=>hK.kept h
 obtain⟨w0,aa⟩:=Ue (w.alloc (nC #[nI nX s.sort,.bool s.flag,nI .u64 s.bits,nG s.text,nI nX s.count,nS r s.keys.length t] 158))
 have y:Hid (Chg w w0 []):=by rw[aa];exact hZ ((Chg.refl w []).alloc _)
 have af:Hid (Ac w0 w.heap.size [nI nX s.sort,.bool s.flag,nI .u64 s.bits,nG s.text,nI nX s.count,nS r s.keys.length t] 158):=by rw[aa];exact hZ (Ac.new w _ _)
 obtain⟨z1,z2,z3,z4,z5,z6,z7,z8⟩:=Ac.cells6 af.o;have am:=j.count
 have b:Hid (aI s r s.keys.length t w0 w.heap.size (Fl.Fh s.bits) (Utf.Al s.text) (s.keys.all Utf.Al) (!decide s.keys.Nodup)):=Lib.hid
  {cells:=fun u h=>af.o.kept h
   fin:=fun u=>MM s.bits j.bits u
   text:=fun u=>Ii s.text u j.text
   keys:=fun u h=>Ov (fun _=>True) _ s.keys u (ae u (y.o.trans h)).rowAt j.size (by have:=j.keys;omega)
   twice:=fun hk u h=>Ow s.keys _ u (ae u (y.o.trans h)) (fun x hx=>⟨List.all_eq_true.1 hk x hx,j.size x hx⟩) (by have:=j.keys;omega)}
 have A:=hZ aa;have al:=j.keys;have q:=ai;rw[show(Kw s=false)=¬(Kw s=true)from by simp,CU]at q
 have v:Bs s.sort s.flag s.bits s.text s.count s.keys.length=true->0<=s.count/\(s.count=0\/s.keys.length=0):=fun h=>by
  obtain⟨_,_,h0,_,_,_,h7,h8⟩:=Gw h;refine⟨h0, ?_⟩;by_cases g:s.count=0
  .exact .inl g
  .by_cases g2:s.keys=[]
   .exact .inr (by rw[g2];rfl)
   .have:=h7 g;have:=h8 g2;omega
 obtain⟨bU,hU⟩:=Ue (Bs s.sort s.flag s.bits s.text s.count s.keys.length)
 obtain⟨bF,hF⟩:=Ue (Fl.Fh s.bits)
 obtain⟨bT,hT⟩:=Ue (Utf.Al s.text)
 obtain⟨bK,ab⟩:=Ue (s.keys.all Utf.Al)
 obtain⟨bD,hD⟩:=Ue (!decide s.keys.Nodup)
 have ah:s.keys.Nodup↔bD=false:=by rw[hD];simp
 rw[<-hU,<-hF,<-hT,<-ab,ah]at q;rw[<-hU]at v;rw[<-hF,<-hT,<-ab,<-hD]at b;have z:=hZ hU.symm;clear hU hF hT ab hD ah aa ai ae hK;obtain⟨o,ad⟩:=Ue s.keys.length
 have ag:Hn s=s.count.toNat+o:=by unfold Hn;rw[ad]
 rw[ag]at q;rw[<-ad]at b z A z8 al ak v|-;clear ad ag j
 cases bU with
 |false=>
  clear q v;go_enter func126,ntmps126
  go_wp2_with fail
  rw[<-A.o]
  go_wp2_with(first
   |(go_at_call 160;refine(CM s.sort s.flag s.bits s.text s.count r o t _).mono ?_;rintro e w1 ⟨rfl,d⟩;rw[z.o];obtain⟨C,D,E,F,G,H,I,J⟩:=Ac.cells6 (b.o.cells _ d))
   |(go_at_call 161;refine(b.o.fin _).mono ?_;rintro e w2 ⟨rfl,j⟩;have f:=d.trans j;obtain⟨K,L,M,N,O,P,Q,R⟩:=Ac.cells6 (b.o.cells _ f))
   |(go_at_call 162;refine(b.o.text _).mono ?_;rintro e w3 ⟨rfl,rfl⟩)
   |(go_at_call 163;refine(b.o.keys _ (by first|exact f|exact d)).mono ?_;rintro e p ⟨rfl,k⟩;have i:Chg w0 p []:=(by first|exact f.trans k|exact d.trans k);obtain⟨c1,S,c3,c4,c5,T,U,V⟩:=Ac.cells6 (b.o.cells _ i))
   |(go_at_call 164;refine(b.o.twice rfl _ i).mono ?_;rintro e w5 ⟨rfl,n⟩;have m:=i.trans n;obtain⟨W,X,B,Y,Z,d6,d7,d8⟩:=Ac.cells6 (b.o.cells _ m)))
  go_ret2
  exact⟨⟨_,_,ZM,rfl⟩,y.o.trans d⟩
 |true=>
  obtain⟨u3,u4⟩:=v rfl;by_cases h3:s.sort=3
  .have B:(s.sort==3)=true:=by simp[h3]
   have H3:=hZ h3;clear h3
   cases bF with
   |false=>
    clear q v;go_enter func126,ntmps126
    go_wp2_with fail
    rw[<-A.o]
    go_wp2_with(first
     |(go_at_call 160;refine(CM s.sort s.flag s.bits s.text s.count r o t _).mono ?_;rintro e w1 ⟨rfl,d⟩;rw[z.o];obtain⟨C,D,E,F,G,H,I,J⟩:=Ac.cells6 (b.o.cells _ d))
     |(go_at_call 161;refine(b.o.fin _).mono ?_;rintro e w2 ⟨rfl,j⟩;have f:=d.trans j;obtain⟨K,L,M,N,O,P,Q,R⟩:=Ac.cells6 (b.o.cells _ f))
     |(go_at_call 162;refine(b.o.text _).mono ?_;rintro e w3 ⟨rfl,rfl⟩)
     |(go_at_call 163;refine(b.o.keys _ (by first|exact f|exact d)).mono ?_;rintro e p ⟨rfl,k⟩;have i:Chg w0 p []:=(by first|exact f.trans k|exact d.trans k);obtain⟨c1,S,c3,c4,c5,T,U,V⟩:=Ac.cells6 (b.o.cells _ i))
     |(go_at_call 164;refine(b.o.twice rfl _ i).mono ?_;rintro e w5 ⟨rfl,n⟩;have m:=i.trans n;obtain⟨W,X,B,Y,Z,d6,d7,d8⟩:=Ac.cells6 (b.o.cells _ m)))
    go_ret2
    exact⟨⟨_,_,ZM,rfl⟩,y.o.trans f⟩
   |true=>
    cases bT with
    |false=>
     clear q v;go_enter func126,ntmps126
     go_wp2_with fail
     rw[<-A.o]
     go_wp2_with(first
      |(go_at_call 160;refine(CM s.sort s.flag s.bits s.text s.count r o t _).mono ?_;rintro e w1 ⟨rfl,d⟩;rw[z.o];obtain⟨C,D,E,F,G,H,I,J⟩:=Ac.cells6 (b.o.cells _ d))
      |(go_at_call 161;refine(b.o.fin _).mono ?_;rintro e w2 ⟨rfl,j⟩;have f:=d.trans j;obtain⟨K,L,M,N,O,P,Q,R⟩:=Ac.cells6 (b.o.cells _ f))
      |(go_at_call 162;refine(b.o.text _).mono ?_;rintro e w3 ⟨rfl,rfl⟩)
      |(go_at_call 163;refine(b.o.keys _ (by first|exact f|exact d)).mono ?_;rintro e p ⟨rfl,k⟩;have i:Chg w0 p []:=(by first|exact f.trans k|exact d.trans k);obtain⟨c1,S,c3,c4,c5,T,U,V⟩:=Ac.cells6 (b.o.cells _ i))
      |(go_at_call 164;refine(b.o.twice rfl _ i).mono ?_;rintro e w5 ⟨rfl,n⟩;have m:=i.trans n;obtain⟨W,X,B,Y,Z,d6,d7,d8⟩:=Ac.cells6 (b.o.cells _ m)))
     go_ret2
     exact⟨⟨_,_,ZM,rfl⟩,y.o.trans f⟩
    |true=>
     cases bK with
     |false=>
      clear q v;go_enter func126,ntmps126
      go_wp2_with fail
      rw[<-A.o]
      go_wp2_with(first
       |(go_at_call 160;refine(CM s.sort s.flag s.bits s.text s.count r o t _).mono ?_;rintro e w1 ⟨rfl,d⟩;rw[z.o];obtain⟨C,D,E,F,G,H,I,J⟩:=Ac.cells6 (b.o.cells _ d))
       |(go_at_call 161;refine(b.o.fin _).mono ?_;rintro e w2 ⟨rfl,j⟩;have f:=d.trans j;obtain⟨K,L,M,N,O,P,Q,R⟩:=Ac.cells6 (b.o.cells _ f))
       |(go_at_call 162;refine(b.o.text _).mono ?_;rintro e w3 ⟨rfl,rfl⟩)
       |(go_at_call 163;refine(b.o.keys _ (by first|exact f|exact d)).mono ?_;rintro e p ⟨rfl,k⟩;have i:Chg w0 p []:=(by first|exact f.trans k|exact d.trans k);obtain⟨c1,S,c3,c4,c5,T,U,V⟩:=Ac.cells6 (b.o.cells _ i))
       |(go_at_call 164;refine(b.o.twice rfl _ i).mono ?_;rintro e w5 ⟨rfl,n⟩;have m:=i.trans n;obtain⟨W,X,B,Y,Z,d6,d7,d8⟩:=Ac.cells6 (b.o.cells _ m)))
      go_ret2
      exact⟨⟨_,_,ZM,rfl⟩,y.o.trans i⟩
     |true=>
      cases bD with
      |true=>
       clear q v;go_enter func126,ntmps126
       go_wp2_with fail
       rw[<-A.o]
       go_wp2_with(first
        |(go_at_call 160;refine(CM s.sort s.flag s.bits s.text s.count r o t _).mono ?_;rintro e w1 ⟨rfl,d⟩;rw[z.o];obtain⟨C,D,E,F,G,H,I,J⟩:=Ac.cells6 (b.o.cells _ d))
        |(go_at_call 161;refine(b.o.fin _).mono ?_;rintro e w2 ⟨rfl,j⟩;have f:=d.trans j;obtain⟨K,L,M,N,O,P,Q,R⟩:=Ac.cells6 (b.o.cells _ f))
        |(go_at_call 162;refine(b.o.text _).mono ?_;rintro e w3 ⟨rfl,rfl⟩)
        |(go_at_call 163;refine(b.o.keys _ (by first|exact f|exact d)).mono ?_;rintro e p ⟨rfl,k⟩;have i:Chg w0 p []:=(by first|exact f.trans k|exact d.trans k);obtain⟨c1,S,c3,c4,c5,T,U,V⟩:=Ac.cells6 (b.o.cells _ i))
        |(go_at_call 164;refine(b.o.twice rfl _ i).mono ?_;rintro e w5 ⟨rfl,n⟩;have m:=i.trans n;obtain⟨W,X,B,Y,Z,d6,d7,d8⟩:=Ac.cells6 (b.o.cells _ m)))
       go_ret2
       exact⟨⟨_,_,ZM,rfl⟩,y.o.trans m⟩
      |false=>
       have aj:l.length<s.count.toNat+o:=q.resolve_left (fun g=>g ⟨rfl,fun _=>rfl,rfl,rfl,rfl⟩);have y1:IntKind.i64.wrap (s.count+(o:Int))=s.count+(o:Int):=IntWalk.i64_in _ Zj;have y2:(l.length:Int)<s.count+(o:Int):=Zj
       clear q v;go_enter func126,ntmps126
       go_wp2_with fail
       rw[<-A.o]
       go_wp2_with(first
        |(go_at_call 160;refine(CM s.sort s.flag s.bits s.text s.count r o t _).mono ?_;rintro e w1 ⟨rfl,d⟩;rw[z.o];obtain⟨C,D,E,F,G,H,I,J⟩:=Ac.cells6 (b.o.cells _ d))
        |(go_at_call 161;refine(b.o.fin _).mono ?_;rintro e w2 ⟨rfl,j⟩;have f:=d.trans j;obtain⟨K,L,M,N,O,P,Q,R⟩:=Ac.cells6 (b.o.cells _ f))
        |(go_at_call 162;refine(b.o.text _).mono ?_;rintro e w3 ⟨rfl,rfl⟩)
        |(go_at_call 163;refine(b.o.keys _ (by first|exact f|exact d)).mono ?_;rintro e p ⟨rfl,k⟩;have i:Chg w0 p []:=(by first|exact f.trans k|exact d.trans k);obtain⟨c1,S,c3,c4,c5,T,U,V⟩:=Ac.cells6 (b.o.cells _ i))
        |(go_at_call 164;refine(b.o.twice rfl _ i).mono ?_;rintro e w5 ⟨rfl,n⟩;have m:=i.trans n;obtain⟨W,X,B,Y,Z,d6,d7,d8⟩:=Ac.cells6 (b.o.cells _ m)))
       go_ret2
       exact⟨⟨_,_,ZM,rfl⟩,y.o.trans m⟩
  .have B:(s.sort==3)=false:=by simp[h3]
   have H3:=hZ h3;clear h3
   cases bT with
   |false=>
    clear q v;go_enter func126,ntmps126
    go_wp2_with fail
    rw[<-A.o]
    go_wp2_with(first
     |(go_at_call 160;refine(CM s.sort s.flag s.bits s.text s.count r o t _).mono ?_;rintro e w1 ⟨rfl,d⟩;rw[z.o];obtain⟨C,D,E,F,G,H,I,J⟩:=Ac.cells6 (b.o.cells _ d))
     |(go_at_call 161;refine(b.o.fin _).mono ?_;rintro e w2 ⟨rfl,j⟩;have f:=d.trans j;obtain⟨K,L,M,N,O,P,Q,R⟩:=Ac.cells6 (b.o.cells _ f))
     |(go_at_call 162;refine(b.o.text _).mono ?_;rintro e w3 ⟨rfl,rfl⟩)
     |(go_at_call 163;refine(b.o.keys _ (by first|exact f|exact d)).mono ?_;rintro e p ⟨rfl,k⟩;have i:Chg w0 p []:=(by first|exact f.trans k|exact d.trans k);obtain⟨c1,S,c3,c4,c5,T,U,V⟩:=Ac.cells6 (b.o.cells _ i))
     |(go_at_call 164;refine(b.o.twice rfl _ i).mono ?_;rintro e w5 ⟨rfl,n⟩;have m:=i.trans n;obtain⟨W,X,B,Y,Z,d6,d7,d8⟩:=Ac.cells6 (b.o.cells _ m)))
    go_ret2
    exact⟨⟨_,_,ZM,rfl⟩,y.o.trans d⟩
   |true=>
    cases bK with
    |false=>
     clear q v;go_enter func126,ntmps126
     go_wp2_with fail
     rw[<-A.o]
     go_wp2_with(first
      |(go_at_call 160;refine(CM s.sort s.flag s.bits s.text s.count r o t _).mono ?_;rintro e w1 ⟨rfl,d⟩;rw[z.o];obtain⟨C,D,E,F,G,H,I,J⟩:=Ac.cells6 (b.o.cells _ d))
      |(go_at_call 161;refine(b.o.fin _).mono ?_;rintro e w2 ⟨rfl,j⟩;have f:=d.trans j;obtain⟨K,L,M,N,O,P,Q,R⟩:=Ac.cells6 (b.o.cells _ f))
      |(go_at_call 162;refine(b.o.text _).mono ?_;rintro e w3 ⟨rfl,rfl⟩)
      |(go_at_call 163;refine(b.o.keys _ (by first|exact f|exact d)).mono ?_;rintro e p ⟨rfl,k⟩;have i:Chg w0 p []:=(by first|exact f.trans k|exact d.trans k);obtain⟨c1,S,c3,c4,c5,T,U,V⟩:=Ac.cells6 (b.o.cells _ i))
      |(go_at_call 164;refine(b.o.twice rfl _ i).mono ?_;rintro e w5 ⟨rfl,n⟩;have m:=i.trans n;obtain⟨W,X,B,Y,Z,d6,d7,d8⟩:=Ac.cells6 (b.o.cells _ m)))
     go_ret2
     exact⟨⟨_,_,ZM,rfl⟩,y.o.trans i⟩
    |true=>
     cases bD with
     |true=>
      clear q v;go_enter func126,ntmps126
      go_wp2_with fail
      rw[<-A.o]
      go_wp2_with(first
       |(go_at_call 160;refine(CM s.sort s.flag s.bits s.text s.count r o t _).mono ?_;rintro e w1 ⟨rfl,d⟩;rw[z.o];obtain⟨C,D,E,F,G,H,I,J⟩:=Ac.cells6 (b.o.cells _ d))
       |(go_at_call 161;refine(b.o.fin _).mono ?_;rintro e w2 ⟨rfl,j⟩;have f:=d.trans j;obtain⟨K,L,M,N,O,P,Q,R⟩:=Ac.cells6 (b.o.cells _ f))
       |(go_at_call 162;refine(b.o.text _).mono ?_;rintro e w3 ⟨rfl,rfl⟩)
       |(go_at_call 163;refine(b.o.keys _ (by first|exact f|exact d)).mono ?_;rintro e p ⟨rfl,k⟩;have i:Chg w0 p []:=(by first|exact f.trans k|exact d.trans k);obtain⟨c1,S,c3,c4,c5,T,U,V⟩:=Ac.cells6 (b.o.cells _ i))
       |(go_at_call 164;refine(b.o.twice rfl _ i).mono ?_;rintro e w5 ⟨rfl,n⟩;have m:=i.trans n;obtain⟨W,X,B,Y,Z,d6,d7,d8⟩:=Ac.cells6 (b.o.cells _ m)))
      go_ret2
      exact⟨⟨_,_,ZM,rfl⟩,y.o.trans m⟩
     |false=>
      have aj:l.length<s.count.toNat+o:=q.resolve_left (fun g=>g ⟨rfl,fun h=>absurd h H3.o,rfl,rfl,rfl⟩);have y1:IntKind.i64.wrap (s.count+(o:Int))=s.count+(o:Int):=IntWalk.i64_in _ Zj;have y2:(l.length:Int)<s.count+(o:Int):=Zj
      clear q v;go_enter func126,ntmps126
      go_wp2_with fail
      rw[<-A.o]
      go_wp2_with(first
       |(go_at_call 160;refine(CM s.sort s.flag s.bits s.text s.count r o t _).mono ?_;rintro e w1 ⟨rfl,d⟩;rw[z.o];obtain⟨C,D,E,F,G,H,I,J⟩:=Ac.cells6 (b.o.cells _ d))
       |(go_at_call 161;refine(b.o.fin _).mono ?_;rintro e w2 ⟨rfl,j⟩;have f:=d.trans j;obtain⟨K,L,M,N,O,P,Q,R⟩:=Ac.cells6 (b.o.cells _ f))
       |(go_at_call 162;refine(b.o.text _).mono ?_;rintro e w3 ⟨rfl,rfl⟩)
       |(go_at_call 163;refine(b.o.keys _ (by first|exact f|exact d)).mono ?_;rintro e p ⟨rfl,k⟩;have i:Chg w0 p []:=(by first|exact f.trans k|exact d.trans k);obtain⟨c1,S,c3,c4,c5,T,U,V⟩:=Ac.cells6 (b.o.cells _ i))
       |(go_at_call 164;refine(b.o.twice rfl _ i).mono ?_;rintro e w5 ⟨rfl,n⟩;have m:=i.trans n;obtain⟨W,X,B,Y,Z,d6,d7,d8⟩:=Ac.cells6 (b.o.cells _ m)))
      go_ret2
      exact⟨⟨_,_,ZM,rfl⟩,y.o.trans m⟩
def AT(F:Nat->Prop)(T:Ti)(b:Nat)(sv:Vl)(l:List Tr)(s:Ap)(w:Wl)(e:Ending)(w':Wl):Prop:=
 if Ds s l=true then Cx F T b sv (NW l s) w e w' else Fc w e w'
theorem AT.yes{F:Nat->Prop}{T:Ti}{b:Nat}{sv:Vl}{l:List Tr}{s:Ap}{w:Wl}(h:Ds s l=true):AT F T b sv l s w=Cx F T b sv (NW l s) w:=by
 funext e w';unfold AT;rw[Qr h]
theorem AT.no{F:Nat->Prop}{T:Ti}{b:Nat}{sv:Vl}{l:List Tr}{s:Ap}{w:Wl}(h:Ds s l=false):AT F T b sv l s w=Fc w:=by
 funext e w';unfold AT;rw[Qs (by simp[h])]
theorem As.rowLt{w:Wl}{f:Vl}{n:Nat}{xs:List Vl}(h:As w f 1 n xs):Ax w (fun k=>k<w.heap.size) f xs:=by
 obtain⟨a,c,rfl,j,d⟩:=h.form;rw[Nat.mul_one]at d;by_cases g:n=0
 .subst g
  exact .inl ⟨List.eq_nil_of_length_eq_zero d,a,c,rfl⟩
 .obtain⟨b,o,rfl,e⟩:=h.base Zj ZM
  have i:xs[0]? =nM xs[0]:=Q9 Zj;exact .inr ⟨b,o,c,by rw[d],World.block_lt_of_cell? w _ (e 0 _ i),e⟩
theorem cB{s:Ap}{l:List Tr}(i:Bs s.sort s.flag s.bits s.text s.count s.keys.length=true)(f:s.sort≠5)(h:s.sort≠6):
  s.count=0/\s.keys=[]/\Hn s=0/\NW l s=l++[CF s []]/\AF s l=CF s []:=by
 have e:=Gw i;have b:s.count=0:=Decidable.byContradiction fun g=>f (e.2.2.2.2.2.2.1 g)
 have c:s.keys=[]:=Decidable.byContradiction fun g=>h (e.2.2.2.2.2.2.2 g)
 have a:Hn s=0:=by unfold Hn;rw[b,c];rfl
 have d:AF s l=CF s []:=by unfold AF;rw[a,Nat.sub_zero,List.drop_length]
 refine⟨b,c,a, ?_,d⟩;unfold NW;rw[a,Nat.sub_zero,List.take_length,d]
theorem YA(F:Nat->Prop)(T:Ti)(b:Nat)(sv:Vl)(l:List Tr)(vs:List Vl)(s:Ap)(sk:Vl)(w:Wl)(v:C3 w F T b sv l vs)(V:As w sk 1 s.keys.length (Ad s.keys))(d:Di s)(Q:EJ l)(Y:l.length<=65536):
  Cl prog 61 #[nP (nM ⟨b,0,nN⟩),DY s.sort s.flag s.bits s.text s.count sk] w (AT F T b sv l s w):=by
 obtain⟨p,q,rfl,ab,ad⟩:=V.form;by_cases u:Bs s.sort s.flag s.bits s.text s.count s.keys.length=true
 .have H:=Gw u
  have y:s.sort≠2->s.flag=false:=fun g=>by cases h:s.flag with
   |false=>rfl
   |true=>exact absurd (H.2.2.2.1 h) g
  have A:s.sort≠3->s.bits=0:=fun g=>Decidable.byContradiction fun h=>g (H.2.2.2.2.1 h)
  have o:s.sort≠4->s.text=Dz:=fun g=>Decidable.byContradiction fun h=>g (H.2.2.2.2.2.1 h)
  by_cases K:s.sort=5
  .have C:s.keys=[]:=Decidable.byContradiction fun g=>by have:=H.2.2.2.2.2.2.2 g;omega
   have t:∃R S,(Vl.slice p s.keys.length q)= nS R 0 S:=⟨p,q,by rw[C];rfl⟩
   have f:Hn s=s.count.toNat:=by unfold Hn;rw[C];rfl
   have X:s.count=((s.count.toNat:Nat):Int):=Zj
   have j:AF s l= .list (l.drop (l.length-s.count.toNat)):=by unfold AF CF;rw[f,Qs Zj,Qs Zj,Qs Zj,Qs Zj,Qr K]
   have c:Kw s=true:=CU.2 ⟨u,fun g=>Zj,by rw[o Zj];rfl,by rw[C];rfl,by rw[C];exact List.nodup_nil⟩;rw[K,y Zj,A Zj,o Zj];by_cases x:s.count.toNat<=l.length
   .rw[X]
    refine(Pi F T b sv l vs s.count.toNat _ w v t Q x Y).mono fun e w' h=> ?_
    unfold DT at h;by_cases i:(Ag (.list (l.drop (l.length-s.count.toNat)))).within=true
    .rw[Qr i]at h
     rw[AT.yes (by unfold Ds;rw[c,j,i,f];simp[x])];unfold NW;rw[j,f];exact h
    .rw[Qs i]at h
     rw[AT.no (by unfold Ds;rw[j];simp[i])];exact h
   .rw[AT.no (by unfold Ds;rw[f];simp[x])]
    exact Kq F T b sv l vs s.count _ w v t Zj
  .by_cases U:s.sort=6
   .have r:s.count=0:=Decidable.byContradiction fun g=>K (H.2.2.2.2.2.2.1 g)
    have f:Hn s=s.keys.length:=by unfold Hn;rw[r];simp
    have j:AF s l=D1 s.keys (l.drop (l.length-s.keys.length)):=by unfold AF CF;rw[f,Qs Zj,Qs Zj,Qs Zj,Qs Zj,Qs Zj]
    have Z:Utf.Al s.text=true:=by rw[o Zj];rfl
    have W:=V.rowLt;have P:∀a,Chg w a []->Ax a (fun k=>k<w.heap.size) (nS p s.keys.length q) (Ad s.keys):=fun a h=>W.kept (h.keepsF (fun _ h=>h)) (fun _ h=>h)
    have L:∀a,Chg w a []->C3 a F T b sv l vs:=fun a h=>v.kept h
    have M:(s.keys.map ByteArray.size).sum<=1099511627776:=Q7 (show(s.keys.map ByteArray.size).sum<=4294967296 from d.sum) Zj;rw[U,y Zj,A Zj,o Zj,r];by_cases m:∀k∈s.keys,Utf.Al k=true
    .by_cases D:s.keys.Nodup
     .have c:Kw s=true:=CU.2 ⟨u,fun g=>Zj,Z,List.all_eq_true.2 m,D⟩
      by_cases x:s.keys.length<=l.length
      .by_cases i:(Ag (D1 s.keys (l.drop (l.length-s.keys.length)))).within=true
       .rw[AT.yes (by unfold Ds;rw[c,j,i,f];simp[x])]
        unfold NW;rw[j,f];have:=Mn F T b sv l vs (nS p s.keys.length q) w v _ s.keys W (fun _ h=>h) m d.size Zj D M Q x Zj i;exact this
       .rw[AT.no (by unfold Ds;rw[j];simp[i])]
        exact Ek b p _ q w fun a h=>Ks F T b sv l vs a (L a h) _ _ s.keys (P a h) (fun k B=>Q6 B h.size) m d.size Zj D M Q x Zj (by simpa using i)
      .rw[AT.no (by unfold Ds;rw[f];simp[x])]
       exact Ek b p _ q w fun a h=>Ly F T b sv l vs a (L a h) _ _ s.keys (P a h) (fun k B=>Q6 B h.size) m d.size d.keys D M Zj
     .have c:Kw s=false:=by
       cases h:Kw s with
       |false=>rfl
       |true=>exact absurd (CU.1 h).2.2.2.2 D
      rw[AT.no (by unfold Ds;rw[c];rfl)]
      exact Ek b p _ q w fun a h=>JQ F T b sv l vs a (L a h) _ _ s.keys (P a h) (fun k B=>Q6 B h.size) m d.size d.keys D M
    .have c:Kw s=false:=by
      cases h:Kw s with
      |false=>rfl
      |true=>exact absurd (List.all_eq_true.1 (CU.1 h).2.2.2.1) m
     rw[AT.no (by unfold Ds;rw[c];rfl)];exact Ek b p _ q w fun a h=>JR F T b sv l vs a (L a h) _ _ s.keys (P a h) (fun k B=>Q6 B h.size) m d.size d.keys
   .obtain⟨r,C,f,N,j⟩:=cB (l:=l) u K U
    have t:∃R S,(Vl.slice p s.keys.length q)= nS R 0 S:=⟨p,q,by rw[C];rfl⟩
    have z:s.keys.all Utf.Al=true/\s.keys.Nodup:=by rw[C];exact⟨rfl,List.nodup_nil⟩
    by_cases E:s.sort=1
    .have c:Kw s=true:=CU.2 ⟨u,fun g=>Zj,by rw[o Zj];rfl,z.1,z.2⟩
     have n:CF s []= .null:=by unfold CF;rw[Qr E]
     rw[AT.yes (by unfold Ds;rw[c,j,f,n];simp;rfl),N,n,E,y Zj,A Zj,o Zj,r];exact Lu F T b sv l vs _ w v t Zj
    .by_cases I:s.sort=2
     .have c:Kw s=true:=CU.2 ⟨u,fun g=>Zj,by rw[o Zj];rfl,z.1,z.2⟩
      have n:CF s []= .flag s.flag:=by unfold CF;rw[Qs E,Qr I]
      rw[AT.yes (by unfold Ds;rw[c,j,f,n];simp;rfl),N,n,I,A Zj,o Zj,r];exact Lt F T b sv l vs s.flag _ w v t Zj
     .by_cases G:s.sort=3
      .have n:CF s []= .num (Cg s.bits):=by unfold CF;rw[Qs E,Qs I,Qr G]
       by_cases O:Fl.Fh s.bits=true
       .have c:Kw s=true:=CU.2 ⟨u,fun _=>O,by rw[o Zj];rfl,z.1,z.2⟩
        rw[AT.yes (by unfold Ds;rw[c,j,f,n];simp;rfl),N,n,G,y Zj,o Zj,r];exact Mm F T b sv l vs s.bits _ w v t d.bits O Zj
       .have c:Kw s=false:=by
         cases h:Kw s with
         |false=>rfl
         |true=>exact absurd ((CU.1 h).2.1 G) O
        rw[AT.no (by unfold Ds;rw[c];rfl),G,y Zj,o Zj,r];exact Ml b s.bits _ w t d.bits (by simpa using O)
      .have J:s.sort=4:=by omega
       have n:CF s []= .text s.text:=by unfold CF;rw[Qs E,Qs I,Qs G,Qr J]
       by_cases m:Utf.Al s.text=true
       .have c:Kw s=true:=CU.2 ⟨u,fun g=>Zj,m,z.1,z.2⟩
        by_cases i:(Ag (.text s.text)).within=true
        .rw[AT.yes (by unfold Ds;rw[c,j,f,n,i];simp),N,n,J,y Zj,A Zj,r]
         exact Lv F T b sv l vs s.text _ w v t m i Zj d.text
        .rw[AT.no (by unfold Ds;rw[j,n];simp[i]),J,y Zj,A Zj,r]
         exact Hf b s.text _ w t d.text (.inr (by simpa using i))
       .have c:Kw s=false:=by
         cases h:Kw s with
         |false=>rfl
         |true=>exact absurd (CU.1 h).2.2.1 m
        rw[AT.no (by unfold Ds;rw[c];rfl),J,y Zj,A Zj,r];exact Hf b s.text _ w t d.text (.inl (by simpa using m))
 .have aa:Bs s.sort s.flag s.bits s.text s.count s.keys.length=false:=by simpa using u
  have c:Kw s=false:=by
   cases h:Kw s with
   |false=>rfl
   |true=>exact absurd (CU.1 h).1 u
  rw[AT.no (by unfold Ds;rw[c];rfl)];exact Mo b s p _ q w aa
def BO(l:List Ap)(w:Wl)(e:Ending)(w':Wl):Prop:=
 (match(if l.length<=65536 then CA l else nN)with
  |some t=>∃(F:Nat->Prop) (a:Nat),e= nR (nT #[nP (nM ⟨a,0,nN⟩),.nilIface])/\CG w' F a t/\(∀b,F b->b<w'.heap.size)/\(Ag t).within=true/\(∀b,F b->w.heap.size<=b)/\w.heap.size<=a
  |none=>∃(c:Ti) (x:Vl),e= nR (nT #[nP nN,nF c x]))/\Chg w w' []
theorem Az.item{w:Wl}{l:List Ap}{xs:List Vl}{b o n c:Nat}(h:As w (nS (nM ⟨b,o,nN⟩) n c) 6 l.length xs)(p:0<l.length)(k:Az w l xs){i:Nat}{s:Ap}(q:l[i]? =nM s):
  ∃sk,As w sk 1 s.keys.length (Ad s.keys)/\∀j v,(AI s sk)[j]? =nM v->w.cell? ⟨b,o+i*6+j,nN⟩=nM v:=by
 obtain⟨sk,f,g⟩:=k.get i s q;obtain⟨t,u,e,m⟩:=h.base p ZM
 injection e with e
 injection e with a d
 subst a;subst d;exact⟨sk,f,fun j v r=>by rw[Nat.add_assoc];exact m _ v (g j v r)⟩
theorem AT.after{F:Nat->Prop}{T:Ti}{b:Nat}{sv:Vl}{l:List Tr}{s:Ap}{w d w':Wl}{e:Ending}(a:Chg w d [])(h:AT F T b sv l s d e w'):AT F T b sv l s w e w':=by
 unfold AT at h|-;by_cases c:Ds s l=true
 .rw[Qr c]at h|-
  exact Cx.after a h
 .rw[Qs c]at h|-
  exact⟨h.1,a.trans h.2⟩
theorem Ni{F:Nat->Prop}{T:Ti}{b:Nat}{sv:Vl}{l:List Tr}{s:Ap}(h:Ds s l=true):AT F T b sv l s=Cx F T b sv (NW l s):=by
 funext w;exact AT.yes h
theorem OR{F:Nat->Prop}{T:Ti}{b:Nat}{sv:Vl}{l:List Tr}{s:Ap}(h:Ds s l=false):AT F T b sv l s=Fc:=by
 funext w;exact AT.no h
theorem Fk(l:List Ap)(sl:Vl)(xs:List Vl)(w:Wl)(P:As w sl 6 l.length xs)(hS:Az w l xs)(I:∀s∈l,Di s)(hl:l.length<=4294967296):
  Cl prog 28 #[sl] w (BO l w):=by
 obtain⟨a,c,rfl,aB,_⟩:=P.form;have aD:∀(k:Int) (w:Wl),(Instr.typeAssert (nF 50 (nI nX k)) 35 50 false).run prog w= .ok (nI nX k) w:=fun _ _=>Yb
 have HR:=hZ P;have HS:=hZ hS;have HB:=hZ I;clear P hS I;by_cases D:l.length<=65536
 .obtain⟨w0,E⟩:=Ue (w.alloc (nC #[nS nN 0 0] 129))
  have HG:Hid (Chg w w0 []):=by rw[E];exact hZ ((Chg.refl w []).alloc _)
  have aq:Hid (C3 w0 (fun _=>False) 129 w.heap.size (nS nN 0 0) [] []):=by
   rw[E];exact hZ ⟨Ac.new w _ _,AK.nil _ _,by simp[Ak],Zh,(fun g m=>by cases m),(fun k f=>f.elim)⟩
  have ak:w0.heap.size=w.heap.size+1:=by rw[E];simp
  have HZ:=hZ ak;have HW:=hZ E;clear E ak;go_enter func28,ntmps28
  go_wp2_with fail
  rw[<-HW.o];go_loopw [14] (fun X wr=>∃(i:Nat) (row:List Tr) (F:Nat->Prop) (sv:Vl) (vs:List Vl),i<=l.length/\X= nI nX i/\DS [] (l.take i)=nM row/\C3 wr F 129 w.heap.size sv row vs/\(∀k,F k->w.heap.size<=k)/\(∀g,sv.ownBlock=nM g->w.heap.size<=g)/\Chg w wr []) (fun X _=>l.length-(intOf X).toNat)
  case atStart=>exact⟨0,[],_,_,[],Zj,rfl,by simp[DS],aq.o,fun k f=>f.elim,fun g m=>(by cases m),HG.o⟩
  case round=>
   obtain⟨q,rfl⟩:=Ue wr
   obtain⟨i,row,F,sv,vs,hi,rfl,n,O,ah,ai,m⟩:=hrel;have R:=Jq (row:=[]) (fun _ h=>by cases h) n;have aj:row.length<=65536:=by have:=R.2;rw[Ql]at this;simp at this;omega
   have z:=hZ m;have N:=hZ n;have y:=hZ O;have Z:=hZ ah;have aa:=hZ ai;have Y:=hZ R.1;obtain⟨x1,x2,az⟩:=Ac.cells1 O.blk;have av:w.heap.size<=q.heap.size:=m.size;clear n O ah ai m R;by_cases J:i<l.length
   .obtain⟨s,A⟩:∃s,l[i]? =nM s:=⟨_,Q9 J⟩
    have W:s∈l:=Qi A;obtain⟨b,o,rfl,_⟩:=HR.o.base Zj ZM;obtain⟨sk,K,V⟩:=Az.item HR.o Zj HS.o A;obtain⟨ka,kc,rfl,_⟩:=K.form;have p:∀j v,(AI s (nS ka s.keys.length kc))[j]? =nM v->q.cell? ⟨b,o+i*6+j,nN⟩=nM v:=fun j v hv=>z.o.keeps (V j v hv)
    have c0:=p 0 _ rfl;have c1:=p 1 _ rfl;have c2:=p 2 _ rfl;have c3:=p 3 _ rfl;have c4:=p 4 _ rfl;have c5:=p 5 _ rfl;rw[Nat.add_zero]at c0
    have G:=UD (∀L,Chg q L []->Cl prog 61 #[nP (nM ⟨w.heap.size,0,nN⟩),nA #[nI nX s.sort,.bool s.flag,nI .u64 s.bits,nG s.text,nI nX s.count,nS ka s.keys.length kc]] L (AT F 129 w.heap.size sv row s q)) fun L h=>
     (YA F _ _ sv row vs s _ L (y.o.kept h) (K.kept (z.o.trans h)) (HB.o s W) Y.o aj).mono fun e w' hp=>AT.after h hp
    by_cases C:Ds s row=true
    .have T:=KE N.o A
     rw[Qr C]at T;have ar:=hZ T;rw[Ni C]at G;clear T C A W K V p;go_wp2_with(first|(go_at_call 61;refine(G.o _ (by exact cg cR)).mono ?_;rintro e w3 ⟨rfl,F3,ax,ay,au,ab,ad,B,ae⟩;have al:=hZ ab;have am:=hZ ad;have M:=hZ B;have an:=hZ ae;clear au ab ad B ae))
     go_roundw
     case rel=>
      refine⟨i+1,_,F3,ax,ay,Zj,by go_num,ar.o,am.o,fun k f=> ?_,fun g m=> ?_, ?_⟩
      .by_cases J:k<q.heap.size
       .exact Z.o k (al.o k f J)
       .omega
      .rcases an.o g m with h|h
       .exact aa.o g h
       .omega
      refine Chg.step (cs:=w.heap.size::sv.ownBlock.toList) (b:=_) ?_ M.o fun k f J=> ?_
      .exact cg z.o
      .exfalso
       simp only[Qh,Option.mem_toList]at f
       rcases f with rfl|f
       .omega
       .have:=aa.o k f;omega
     case measure=>simp[intOf];omega
    .have Q:Ds s row=false:=by simpa using C
     have ag:=Oz N.o A Q;have d:(if l.length<=65536 then CA l else nN)=nN:=by rw[Qr D];unfold CA;rw[ag]
     have u:=hZ d;rw[OR Q]at G;clear ag d C Q A W K V p;go_wp2_with(first|(go_at_call 61;refine(G.o _ (by exact cg cR)).mono ?_;rintro e w3 ⟨⟨n3,rfl⟩,B⟩;have M:=hZ B;clear B))
     go_quiet(fail)
     go_wp2_with fail
     go_ret2
     unfold BO;rw[u.o];exact⟨⟨_,_,rfl⟩,Chg.drewN (ct z.o M.o) _⟩
   .obtain rfl:i=l.length:=by omega
    have n:=N.o;rw[Qn (Q8 _)]at n;have aw:=y.o.items.length;obtain⟨sa,sc,rfl,U⟩:=y.o.lst.form;by_cases H:row.length=1
    .obtain⟨t,rfl⟩:∃t,row=[t]:=by
      match row,H with
      |[t],_=>exact⟨t,rfl⟩
     have d:(if l.length<=65536 then CA l else nN)=nM t:=by rw[Qr D];unfold CA;rw[n]
     have u:=hZ d;have af:=y.o.items;simp only[Ak]at af;obtain⟨v,r,rfl,S,rfl⟩:=af;obtain⟨g,rfl⟩:=U Zh;obtain⟨ti,x,rfl⟩:=S.iface;have y1:q.cell? ⟨g,0,nN⟩=nM (nF ti x):=y.o.lst.cell rfl 0 _ rfl;have ap:=hZ S;have ao:Hid ((Ag t).within=true):=Y.o t Zh;simp only[Qj,List.length_nil]at aw aj az|-;clear S U H n d;go_wp2_with fail
     go_ret2
     unfold BO;rw[u.o];exact⟨⟨F,q.heap.size,by first|rfl|simp,⟨nF ti x,Bx rfl _ _,Af.kept (((Chg.refl q []).alloc _).keepsF y.o.lt) (fun _ h=>h) _ _ ap.o,Zh⟩,fun b I=>by have:=y.o.lt b I;simp;omega,ao.o,Z.o,av⟩,z.o.alloc _⟩
    .have d:(if l.length<=65536 then CA l else nN)=nN:=by
      rw[Qr D];unfold CA;rw[n]
      match row,H with
      |[],_=>rfl
      |[t],h=>exact absurd rfl h
      |_::_::_,_=>rfl
     have u:=hZ d;have aA:((vs.length:Int)==1)=false:=by rw[Qq];omega
     clear d n H U;go_wp2_with fail
     go_ret2
     unfold BO;rw[u.o];exact⟨⟨_,_,rfl⟩,z.o⟩
 .have d:(if l.length<=65536 then CA l else nN)=nN:=Qs D
  have u:=hZ d;have aC:(65536:Int)<(l.length:Int):=Zj
  clear d D;go_enter func28,ntmps28
  go_wp2_with fail
  go_ret2
  unfold BO;rw[u.o];exact⟨⟨_,_,rfl⟩,Chg.refl _ _⟩
end
end Go.Proofs.YtkfnkppdhcaeoaaGreatDoor

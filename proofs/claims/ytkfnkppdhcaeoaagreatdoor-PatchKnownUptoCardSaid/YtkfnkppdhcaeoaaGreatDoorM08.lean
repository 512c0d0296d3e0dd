/- Part 8 of the proof of coreBase. -/
import Derived.Deep.RegionWith
import Derived.Test.YtkfnkppdhcaeoaaGreatDoorM06
set_option maxRecDepth 100000
set_option maxHeartbeats 32000000
set_option linter.all false
namespace Go.Proofs.YtkfnkppdhcaeoaaGreatDoor
open Go renaming Calls->Cl,TypeId->Ti,Value->Vl,World->Wl
open Go.Value renaming agg->nA,iface->nF,int->nI,pointer->nP,slice->nS,string->nG,tuple->nT
open Go.IntKind renaming i64->nX
open Go.Ending renaming returned->nR
open Go.Obj renaming cells->nC
open Option renaming none->nN,some->nM
section
open _root_.Go.Proofs.Tryz
open Go Go.RowKit Tree
theorem Mn(F:Nat->Prop)(T:Ti)(b:Nat)(sv:Vl)(l:List Tr)(vs:List Vl)(M:Vl)(w:Wl)(o:C3 w F T b sv l vs)(G:Nat->Prop)(ks:List BY)(d:Ax w G M (Ad ks))(C:∀k,G k->k<w.heap.size)(I:∀s∈ks,Utf.Al s=true)(J:∀s∈ks,s.size<=2147483648)(a:ks.length<=65536)(H:ks.Nodup)(aa:(ks.map ByteArray.size).sum<=1099511627776)(z:EJ l)(hn:ks.length<=l.length)(hl:l.length<=2147483648)(L:(Ag (D1 ks (l.drop (l.length-ks.length)))).within=true):
  Cl prog 61 #[nP (nM ⟨b,0,nN⟩),DY 6 false 0 ⟨#[]⟩ 0 M] w (Cx F T b sv (l.take (l.length-ks.length)++[D1 ks (l.drop (l.length-ks.length))]) w):=by
 obtain⟨j,m,rfl,_⟩:=d.cell;have aj:∀(y:Fn) (first v:Array Vl) (w:Wl),(Instr.makeFunc y first v).run prog w= .ok (.func y first v) w:=fun _ _ _ _=>rfl
 have E:(Ad ks).length=ks.length:=by simp[Ad]
 rw[E]at d|-;have K:Bs 6 false 0 ⟨#[]⟩ 0 ks.length=true:=by unfold Bs;simp
 have c:=hZ o;have X:=hZ K;have Q:=hZ d;have t:=hZ C;have S:=hZ I;have U:=hZ J;have R:=hZ H;have O:=hZ z;have Y:=hZ L;have V:=hZ ((Ac.new w [nI nX 6,.bool false,nI .u64 0,nG ⟨#[]⟩,nI nX 0,nS j ks.length m] 72).alloc (nC #[.nilIface] 35));have N:=hZ (CH w (nC [nI nX 6,.bool false,nI .u64 0,nG ⟨#[]⟩,nI nX 0,nS j ks.length m].toArray 72) [.nilIface] 35);have hb:=o.blk.lt;clear o K d C I J H z L E;go_enter_defers func61,ntmps61
 unfold DY
 go_wp2_with(first
  |(go_at_call 107;refine(Ck 6 false 0 ⟨#[]⟩ 0 j ks.length m _).mono ?_;rintro e w1 ⟨rfl,i⟩;rw[X.o];have W:=hZ (V.o.kept i);have p:=hZ (N.o.kept i);obtain⟨aq,ar,ak,al,am,an,ao,ap⟩:=Ac.cells6 W.o;obtain⟨x,ae,ad⟩:=Ac.cells1 p.o;have n:=hZ i;clear i)
  |(go_at_call 106;refine(Au _ _).mono ?_;rintro e w3 ⟨rfl,rfl⟩)
  |(go_at_call 115;go_loud(have G2:=(((Chg.refl w []).alloc (nC [nI nX 6,.bool false,nI .u64 0,nG ⟨#[]⟩,nI nX 0,nS j ks.length m].toArray 72)).alloc (nC #[.nilIface] 35)).trans n.o;refine(Ms F T b sv l vs _ (c.o.kept G2) G _ ks (Q.o.kept (G2.keepsF t.o) (fun _ h=>h)) (fun k a=>Q6 (t.o k a) G2.size) S.o U.o a R.o aa O.o hn hl Y.o).mono ?_;rintro e w4 ⟨rfl,F',A,B,D⟩;have P:=hZ A;have r:=hZ B;have u:=hZ D;clear A B D G2;have q:=hZ (p.o.kept u.o.chg (c.o.newNotIn (w.heap.size+1) Zj));obtain⟨ag,ah,af⟩:=Ac.cells1 q.o)))
 refine leaves_cons (f:=105) (args:=#[nP (nM ⟨w.heap.size+1,0,nN⟩)]) Zh (by simp[go_sem]) ?_;refine(DZ ⟨w.heap.size+1,0,nN⟩ _).mono ?_;rintro e u' au ⟨rfl,rfl,rfl⟩;have Z:(w4.setCell ⟨w.heap.size+1,0,nN⟩ .nilIface).cell? ⟨w.heap.size+1,0,nN⟩=nM .nilIface:=(q.o.set 0 _).cell 0;simp[Leaves,settle,results,results61,go_sem,Z];have ab:=n.o.size;simp at ab;refine DA ((((Chg.refl w []).alloc _).alloc _).trans n.o) u.o P.o (fun k a ai=>r.o k a Zj) hb (fun g hg=>c.o.lst.lt hg) _ Zj x (fun hf=> ?_) _;have:=r.o _ hf x;have:=c.o.lt _ this;omega
end
section
open Go Go.RowKit Tree
theorem Cx.after{F:Nat->Prop}{T:Ti}{b:Nat}{sv:Vl}{l:List Tr}{w i w':Wl}{e:Ending}(f:Chg w i [])(h:Cx F T b sv l i e w'):Cx F T b sv l w e w':=by
 obtain⟨m,j,q,r,a,c,d,g,n⟩:=h;exact⟨m,j,q,r,a,fun k o p=>c k o (Q6 p f.size),d,(f.none _).trans g,fun g h=>(n g h).imp id fun h=>Q7 f.size h⟩
def CG(w:Wl)(F:Nat->Prop)(a:Nat)(t:Tr):Prop:=∃v,w.cell? ⟨a,0,nN⟩=nM v/\Af w F t v/\a<w.heap.size
def JN:Tr->List BY
 | .obj ks _=>ks
 |_=>[]
def Ab:Tr->List Tr
 | .list l=>l
 | .obj _ l=>l
 |_=>[]
theorem Ax.empty(w:Wl)(F:Nat->Prop):Ax w F (nS nN 0 0) []:= .inl ⟨rfl,nN,0,rfl⟩
def Ba(w:Wl)(sv:Vl)(e:Ti)(sz n:Nat)(xs:List Vl):Prop:=w.ownsRow 0 e sz sv n xs
theorem Ba.nil(w:Wl)(e:Ti)(sz:Nat):Ba w (nS nN 0 0) e sz 0 []:=World.ownsRow_nil w 0 e sz
theorem Ba.kept{w w':Wl}{sv:Vl}{e:Ti}{sz n:Nat}{xs:List Vl}{bs:List Nat}(h:Ba w sv e sz n xs)(k:Chg w w' bs)(l:∀g,sv.ownBlock=nM g->g∉bs:=by simp):Ba w' sv e sz n xs:=by
 obtain⟨i,a⟩:=h;refine⟨i, ?_⟩
 rcases a with a|⟨g,d,f,c,j,b,r⟩
 .exact .inl a
 .refine .inr ⟨g,d,f,c,j, ?_,r⟩
  rw[k.block g (Array.getElem?_eq_some_iff.1 b).1 (l g (by subst c;rfl))];exact b
theorem Ba.form{w:Wl}{sv:Vl}{e:Ti}{sz n:Nat}{xs:List Vl}(h:Ba w sv e sz n xs):∃a b,sv= nS a n b/\(0<n->∃g,a=nM ⟨g,0,nN⟩):=by
 rcases h.2 with⟨c,d⟩|⟨g,b,i,f,_⟩
 .exact⟨nN,0,by rw[c,d],fun j=>Zj⟩
 .exact⟨_,b,f,fun _=>⟨g,rfl⟩⟩
theorem Ba.cell{w:Wl}{sv:Vl}{e:Ti}{sz n:Nat}{xs:List Vl}(h:Ba w sv e sz n xs){g:Nat}(a:sv.ownBlock=nM g)(i:Nat)(v:Vl)(b:xs[i]? =nM v):w.cell? ⟨g,i,nN⟩=nM v:=by
 have:=World.ownsRow.cells h a i v b;rwa[show(⟨g,0,nN⟩:Addr).add i=⟨g,i,nN⟩from by unfold Addr.add;split<;>simp_all]at this
theorem Ba.lt{w:Wl}{sv:Vl}{e:Ti}{sz n:Nat}{xs:List Vl}(h:Ba w sv e sz n xs){g:Nat}(a:sv.ownBlock=nM g):g<w.heap.size:=(World.ownsRow.lt h g a).2
theorem AK.toK{w:Wl}{sv:Vl}{e:Ti}{xs:List Vl}(h:AK w sv e xs):Ba w sv e 1 xs.length xs:=h
theorem Bg{P:Program}{l:Array Oper}{rest:List Oper}{o:Oper}{a:Act}{Q:Exit->Act->Wl->Prop}{w:Wl}(A:o.guard=nN)(s x:Operand)(t:Ti)(F:o.op= .call {callee:= .builtin .append,args:=#[s,x],argTypes:=#[t,t]})(e:Ti)(z:Vl)(sz d:Nat)(J:0<sz)(M:P.underlying t=nM (.slice e))(C:(P.info? e).map (fun i=>(i.zero,i.size,i.bytes))=nM (nM z,sz,d))(V:z.cells.size=sz)(sv:Vl)(n:Nat)(xs:List Vl)(I:a.eval s=sv)(G:Ba w sv e sz n xs)(B:Nat)(us:List Vl)(T:a.eval x= nS (nM ⟨B,0,nN⟩) 1 1)(R:us.length=sz)(N:∀j v,us[j]? =nM v->w.cell? ⟨B,j,nN⟩=nM v)(O:∀u∈us,u.oneCell'=true)(f:(n+1)*d<=140737488355328)(X:n<=140737488355328)(h:∀g c w',Ba w' (nS (nM ⟨g,0,nN⟩) (n+1) c) e sz (n+1) (xs++us)->Chg w w' sv.ownBlock.toList->(sv.ownBlock=nM g\/g=w.heap.size)->
   wpList P l Q rest (a.put o.dst (nS (nM ⟨g,0,nN⟩) (n+1) c)) w'):wpList P l Q (o::rest) a w:=by
 obtain⟨i,hi,U,L,r⟩:=info_parts C
 have E:∀j v,us[j]? =nM v->w.cell? ((⟨B,0,nN⟩:Addr).add j)=nM v:=fun j v S=>by
  rw[show(⟨B,0,nN⟩:Addr).add j=⟨B,j,nN⟩from by unfold Addr.add;split<;>simp_all];exact N j v S
 obtain⟨g,c,w',H,m,b,p,W⟩:=run_append_lies (P:=P) w t o.type 0 e i z sz d M hi U L r V J sv n xs G ⟨B,0,nN⟩ 1 1 us (by rw[R,Nat.one_mul]) E O ZM (by unfold maxLen;omega) f (Nat.zero_le _) _ rfl;refine wpList_plain A fun K q=> ?_
 unfold Oper.wp execOp;simp only[F,resolve,invoke,builtin,Sem.run_bind,Sem.run_pure,Result.andThen_ok,List.map_toArray,List.map_cons,List.map_nil,I,T,H];exact q _ _ (h g c w' m ⟨b.os,b.tape,b.output,b.size,fun k D f=>b.block k D fun y=>f (by rw[<-y];simp)⟩ p)
structure Aw where
 sort:Nat
 flag:Bool
 bits:Nat
 text:BY
 count:Nat
 keys:List BY
def Dz:BY:=⟨#[]⟩
def Aa:Tr->Aw
 | .null=>⟨1,false,0,Dz,0,[]⟩
 | .flag b=>⟨2,b,0,Dz,0,[]⟩
 | .num n=>⟨3,false,n,Dz,0,[]⟩
 | .text s=>⟨4,false,0,s,0,[]⟩
 | .list l=>⟨5,false,0,Dz,l.length,[]⟩
 | .obj ks _=>⟨6,false,0,Dz,0,ks⟩
mutual
def Ai:Tr->List Aw
 | .null=>[Aa .null]
 | .flag b=>[Aa (.flag b)]
 | .num n=>[Aa (.num n)]
 | .text s=>[Aa (.text s)]
 | .list l=>BI l++[Aa (.list l)]
 | .obj ks l=>BI l++[Aa (.obj ks l)]
def BI:List Tr->List Aw
 |[]=>[]
 |t::l=>Ai t++BI l
end
theorem Ea(t:Tr):Ai t=BI (Ab t)++[Aa t]:=by
 cases t<;>simp[Ai,Ab,BI]
theorem NN(l m:List Tr):BI (l++m)=BI l++BI m:=by
 induction l with
 |nil=>simp[BI]
 |cons t l a=>simp[BI,a]
theorem EA{l:List Tr}{k:Nat}{t:Tr}(h:l[k]? =nM t):BI (l.take (k+1))=BI (l.take k)++Ai t:=by
 rw[List.take_add_one,h,NN];simp[BI]
mutual
theorem BL:∀t:Tr,(Ai t).length=(Ag t).nodes
 | .null=>by simp[Ai,Ag]
 | .flag _=>by simp[Ai,Ag]
 | .num _=>by simp[Ai,Ag]
 | .text _=>by simp[Ai,Ag]
 | .list l=>by simp[Ai,Ag,Sz.over,CS l];omega
 | .obj ks l=>by simp[Ai,Ag,Sz.over,CS l];omega
theorem CS:∀l:List Tr,(BI l).length=(Bk l).nodes
 |[]=>by simp[BI,Bk]
 |t::l=>by simp[BI,Bk,Sz.add,BL t,CS l]
end
theorem Cv(t:Tr):1<=(Ag t).nodes:=by
 rw[<-BL,Ea];simp
theorem Bj(t:Tr):(Ab t).length<(Ag t).nodes:=by
 have h:∀l:List Tr,l.length<=(Bk l).nodes:=by
  intro l
  induction l with
  |nil=>simp
  |cons t l a=>simp only[Bk,Sz.add,Qj];have:=Cv t;omega
 have:=h (Ab t);rw[<-CS]at this;rw[<-BL,Ea];simp;omega
theorem CO{t u:Tr}{k:Nat}(h:(Ab t)[k]? =nM u):(Ag u).nodes<(Ag t).nodes:=by
 have a:∀(l:List Tr) (k:Nat),l[k]? =nM u->(Ag u).nodes<=(Bk l).nodes:=by
  intro l
  induction l with
  |nil=>intro k h;simp at h
  |cons x l b=>
   intro k h;simp only[Bk,Sz.add]
   cases k with
   |zero=>simp at h;subst h;omega
   |succ k=>have:=b k (by simpa using h);omega
 have:=a _ _ h;rw[<-CS]at this;rw[<-BL t,Ea];simp;omega
def Ci(s:Aw)(sk:Vl):List Vl:=[nI nX s.sort,.bool s.flag,nI .u64 s.bits,nG s.text,nI nX s.count,sk]
def AR(w:Wl)(F:Nat->Prop):List Aw->List Vl->Prop
 |[],xs=>xs=[]
 |s::l,xs=>∃sk r,xs=Ci s sk++r/\Ax w F sk (Ad s.keys)/\AR w F l r
theorem AR.kept{w w':Wl}{F G:Nat->Prop}(c:BZ F w w')(a:∀b,F b->G b):∀(l:List Aw) (xs:List Vl),AR w F l xs->AR w' G l xs
 |[],_,h=>h
 |s::l,_,⟨sk,r,d,e,f⟩=>⟨sk,r,d,e.kept c a,AR.kept c a l r f⟩
theorem AR.append{w:Wl}{F:Nat->Prop}:∀{l m:List Aw} {xs ys:List Vl},AR w F l xs->AR w F m ys->AR w F (l++m) (xs++ys)
 |[],_,_,_,h,k=>by unfold AR at h;subst h;exact k
 |s::l,_,_,_,⟨sk,r,a,b,c⟩,k=>⟨sk,r++_,by rw[a,List.append_assoc],b,c.append k⟩
theorem AR.one{w:Wl}{F:Nat->Prop}(s:Aw)(sk:Vl)(h:Ax w F sk (Ad s.keys)):AR w F [s] (Ci s sk):=⟨sk,[],Zh,h,rfl⟩
theorem AR.length{w:Wl}{F:Nat->Prop}:∀{l:List Aw} {xs:List Vl},AR w F l xs->xs.length=6*l.length
 |[],_,h=>by unfold AR at h;subst h;rfl
 |s::l,_,⟨sk,r,a,_,b⟩=>by subst a;have:=b.length;simp[Ci];omega
theorem AR.get{w:Wl}{F:Nat->Prop}:∀{l:List Aw} {xs:List Vl},AR w F l xs->∀(i:Nat) (s:Aw),l[i]? =nM s->∃sk,Ax w F sk (Ad s.keys)/\∀j v,(Ci s sk)[j]? =nM v->xs[6*i+j]? =nM v
 |[],_,_,i,s,a=>by simp at a
 |k::l,_,⟨sk,r,c,d,e⟩,i,s,a=>by
  subst c
  cases i with
  |zero=>
   simp at a;subst a;refine⟨sk,d,fun j v b=> ?_⟩;have f:j<(Ci k sk).length:=(Qc.1 b).1;rw[Nat.mul_zero,Nat.zero_add,List.getElem?_append_left f,b]
  |succ i=>
   obtain⟨m,g,h⟩:=e.get i s (by simpa using a);refine⟨m,g,fun j v b=> ?_⟩;rw[List.getElem?_append_right (by simp[Ci];omega),<-h j v b]
   congr 1
   simp[Ci];omega
theorem Ao(ks:List BY):(Ad ks).length=ks.length:=by simp[Ad]
theorem Gu(ks:List BY):∀u∈Ad ks,u.oneCell'=true:=by
 intro u a;obtain⟨k,_,rfl⟩:=List.mem_map.1 a;rfl
theorem AK.toRow{w:Wl}{sv:Vl}{e:Ti}{xs:List Vl}(h:AK w sv e xs):Ax w (fun b=>sv.ownBlock=nM b) sv xs:=by
 obtain⟨a,c,rfl,f⟩:=h.form;by_cases d:xs=[]
 .subst d;exact .inl ⟨rfl,a,c,rfl⟩
 .obtain⟨g,rfl⟩:=f d
  exact .inr ⟨g,0,c,rfl,rfl,fun i v j=>by rw[Nat.zero_add];exact h.cell rfl i v j⟩
theorem IF(s:Aw)(sk:Vl)(a:Option Addr)(n c:Nat)(h:sk= nS a n c):∀u∈Ci s sk,u.oneCell'=true:=by
 subst h;intro u b;simp only[Ci,Qh,List.not_mem_nil,or_false]at b
 rcases b with rfl|rfl|rfl|rfl|rfl|rfl<;>rfl
end
section
open Go Go.RowKit
theorem Er{P:Program}{q:Array Oper}{rest:List Oper}{o:Oper}{a:Act}{Q:Exit->Act->Wl->Prop}{w:Wl}(E:o.guard=nN)(s x:Operand)(t:Ti)(J:o.op= .call {callee:= .builtin .append,args:=#[s,x],argTypes:=#[t,t]})(e:Ti)(z:Vl)(sz l:Nat)(O:0<sz)(S:P.underlying t=nM (.slice e))(F:(P.info? e).map (fun i=>(i.zero,i.size,i.bytes))=nM (nM z,sz,l))(Z:z.cells.size=sz)(sv:Vl)(n:Nat)(xs:List Vl)(N:a.eval s=sv)(L:Ba w sv e sz n xs)(B b m c:Nat)(us:List Vl)(X:a.eval x= nS (nM ⟨B,b,nN⟩) m c)(H:0<m)(V:us.length=m*sz)(T:∀j v,us[j]? =nM v->w.cell? ⟨B,b+j,nN⟩=nM v)(U:∀u∈us,u.oneCell'=true)(p:(n+m)*l<=140737488355328)(aa:n+m<=140737488355328)(h:∀g f w',Ba w' (nS (nM ⟨g,0,nN⟩) (n+m) f) e sz (n+m) (xs++us)->Chg w w' sv.ownBlock.toList->(sv.ownBlock=nM g\/g=w.heap.size)->
   wpList P q Q rest (a.put o.dst (nS (nM ⟨g,0,nN⟩) (n+m) f)) w'):wpList P q Q (o::rest) a w:=by
 obtain⟨i,hi,Y,R,C⟩:=info_parts F
 have I:∀j v,us[j]? =nM v->w.cell? ((⟨B,b,nN⟩:Addr).add j)=nM v:=fun j v W=>by
  rw[show(⟨B,b,nN⟩:Addr).add j=⟨B,b+j,nN⟩from by unfold Addr.add;split<;>simp_all];exact T j v W
 obtain⟨g,f,w',M,r,d,y,h4⟩:=run_append_lies (P:=P) w t o.type 0 e i z sz l S hi Y R C Z O sv n xs L ⟨B,b,nN⟩ m c us V I U H (by unfold maxLen;omega) p (Nat.zero_le _) _ rfl;refine wpList_plain E fun K A=> ?_
 unfold Oper.wp execOp;simp only[J,resolve,invoke,builtin,Sem.run_bind,Sem.run_pure,Result.andThen_ok,List.map_toArray,List.map_cons,List.map_nil,N,X,M];exact A _ _ (h g f w' r ⟨d.os,d.tape,d.output,d.size,fun k G p=>d.block k G fun D=>p (by rw[<-D];simp)⟩ y)
theorem Ip{P:Program}{k:Array Oper}{rest:List Oper}{o:Oper}{a:Act}{Q:Exit->Act->Wl->Prop}{w:Wl}(q:o.guard=nN)(s x:Operand)(t:Ti)(D:o.op= .call {callee:= .builtin .append,args:=#[s,x],argTypes:=#[t,t]})(e:Ti)(z:Vl)(d:Nat)(G:P.underlying t=nM (.slice e))(r:(P.info? e).map (fun i=>(i.zero,i.size,i.bytes))=nM (nM z,1,d))(L:z.cells.size=1)(sv:Vl)(xs:List Vl)(F:a.eval s=sv)(E:AK w sv e xs)(B f m c:Nat)(us:List Vl)(K:a.eval x= nS (nM ⟨B,f,nN⟩) m c)(y:0<m)(J:us.length=m)(H:∀j v,us[j]? =nM v->w.cell? ⟨B,f+j,nN⟩=nM v)(I:∀u∈us,u.oneCell'=true)(A:(xs.length+m)*d<=140737488355328)(C:xs.length+m<=140737488355328)(h:∀g b w',AK w' (nS (nM ⟨g,0,nN⟩) (xs.length+m) b) e (xs++us)->Chg w w' sv.ownBlock.toList->(sv.ownBlock=nM g\/g=w.heap.size)->
   wpList P k Q rest (a.put o.dst (nS (nM ⟨g,0,nN⟩) (xs.length+m) b)) w'):wpList P k Q (o::rest) a w:=
 Er q s x t D e z 1 d ZM G r L sv xs.length xs F E.toK B f m c us K y Zj H I A C fun g b w' l n p=>
  h g b w' (by unfold AK;rw[Qk,J];exact l) n p
end
section
open _root_.Go.Proofs.Tryz
open Go Go.RowKit
def Gv(l:List Nat):List Vl:=l.map fun(n:Nat)=>Vl.int .u16 n
theorem Ll(l m:List Nat):Gv (l++m)=Gv l++Gv m:=by simp[Gv]
theorem UN(w:Wl)(cs:List Vl)(T:Ti):∀j v,cs[j]? =nM v->(w.alloc (nC cs.toArray T)).cell? ⟨w.heap.size,0+j,nN⟩=nM v:=fun j v a=>by
 rw[(Ac.new w cs T).cell,Nat.zero_add,a]
theorem OF{s:BY}{L:List Int}(h:Utf.Sb s=nM L):L.length<=s.size:=by have:=MS _ _ _ h;omega
theorem T4(r:Nat):(Utf.Be r).length<=2:=by unfold Utf.Be;split<;>simp
theorem ON(l:List Nat):(l.flatMap Utf.Be).length<=2*l.length:=by
 induction l with
 |nil=>simp
 |cons x l a=>have:=T4 x;simp only[List.flatMap_cons,Qk,Qj];omega
theorem RU(s:BY)(w:Wl)(hs:s.size<=2147483648)(b:Utf.Al s=true):
  Cl prog 208 #[nG s] w fun e w'=>(∃v,e= nR v/\AK w' v 325 (Gv (Utf.Fq s))/\∀g,v.ownBlock=nM g->w.heap.size<=g)/\Chg w w' []:=by
 obtain⟨m,z,S,_⟩:=Utf.FU b;have ah:m.length<=s.size:=by have:=OF z;simpa using this
 have X:Utf.Fq s=m.flatMap Utf.Be:=by unfold Utf.Fq;rw[z];simp[List.flatMap_map]
 rw[X];have HM:=hZ z;have Z:=hZ S;have M:Hid ((L3 (m.map Int.ofNat)).length=m.length):=by unfold Hid L3;simp
 clear z S b X;go_enter func208,ntmps208
 go_wp2_with(first|(go_at_call 243;refine(XC s _ _ hs HM.o).mono ?_;rintro e K ⟨⟨v,u,rfl,x,I⟩,T⟩;obtain⟨a1,c1,rfl,_⟩:=x.form;rw[M.o]at x I|-))
 have N:=hZ x;have HO:=hZ I;have L:=hZ T;clear x I T;go_loopw [3,6] (fun Y J wr=>∃i:Nat,i<=m.length/\J= nI nX i/\AK wr Y 325 (Gv ((m.take i).flatMap Utf.Be))/\Chg K wr []/\∀g,Y.ownBlock=nM g->K.heap.size<=g) (fun _ J _=>m.length-(intOf J).toNat)
 case atStart=>exact⟨0,Zj,rfl,AK.nil _ _,Chg.refl _ _,fun g a=>(by cases a)⟩
 case round=>
  obtain⟨C,rfl⟩:=Ue wr
  obtain⟨i,hi,rfl,Q,a,U⟩:=hrel;have F:=hZ Q;have c:=hZ a;have k:=hZ U;clear Q a U;by_cases ae:i<m.length
  .obtain⟨r,b⟩:∃r,m[i]? =nM r:=⟨_,Q9 ae⟩
   have V:r<1114112:=Z.o r (List.mem_iff_getElem?.2 ⟨i,b⟩)
   have y:∃d,a1=nM ⟨d,0,nN⟩/\C.cell? ⟨d,i,nN⟩=nM (nI .i32 r):=by
    obtain⟨a',c',e',ad⟩:=N.o.form
    injection e' with e1 _ e3
    subst e1;obtain⟨d,rfl⟩:=ad (by intro h0;have P:=M.o;rw[h0]at P;simp at P;omega);have hc:K.cell? ⟨d,i,nN⟩=nM (nI .i32 r):=N.o.cell rfl i _ (by simp[L3,b]);exact⟨d,rfl,c.o.keeps hc⟩
   obtain⟨d,rfl,y⟩:=y
   have A:(m.take (i+1)).flatMap Utf.Be=(m.take i).flatMap Utf.Be++Utf.Be r:=by
    rw[List.take_add_one,b,List.flatMap_append];simp
   have af:(Gv ((m.take i).flatMap Utf.Be)).length<=2*i:=by
    have:=ON (m.take i);rw[Ql]at this;simp only[Gv,List.length_map];omega
   obtain⟨us,f⟩:=Ue (Gv ((m.take i).flatMap Utf.Be))
   have O:Hid (AK C u3 325 us):=by rw[f];exact F.o
   rw[<-f]at af;by_cases B:r<65536
   .have t:Gv ((m.take (i+1)).flatMap Utf.Be)=us++[nI .u16 r]:=by
     rw[A,Ll,<-f];simp[Utf.Be,Gv,B]
    have j:=hZ t;have H:(r:Int)<65536:=Zj
    obtain⟨R,p⟩:=Ue ((r:Int):Int)
    have ag:0<=R:=Zj
    rw[<-p]at H y j;clear A t f b B V p
    go_wp2_with(first
     |(at_builtin;refine AM rfl _ _ _ rfl 325 (nI .u16 0) 2 underlying323 QQ rfl u3 us ZN (by exact O.o.kept (bs:=[]) (by exact cg cR) Zh) C.heap.size (nI .u16 R) ZN (by exact Bx Zh _ _) rfl Zj Zj ?_;intro g aa w3 o l n;have G:=hZ o;have D:=hZ l;have E:=hZ n;clear o l n))
    go_roundw
    case rel=>
     have z1:=c.o.size;refine⟨i+1,Zj,by go_num,by rw[j.o];exact G.o,Chg.own (sv:= nS nN 0 0) (by exact cg c.o) D.o (fun g a=>by cases a) (fun g a=> .inr (k.o g a)),fun g' q=> ?_⟩;simp[Vl.ownBlock]at q;subst q
     rcases E.o with h|h
     .exact k.o _ h
     .simp at h;omega
    case measure=>simp[intOf];omega
   .have t:Gv ((m.take (i+1)).flatMap Utf.Be)=us++[nI .u16 (55296+((r:Int)-65536)/1024),nI .u16 (56320+((r:Int)-65536) % 1024)]:=by
     rw[A,Ll,<-f];simp[Utf.Be,Gv,B];omega
    have j:=hZ t;have ab:65536<=(r:Int):=Zj
    have H:(r:Int)<1114112:=Zj
    obtain⟨R,p⟩:=Ue ((r:Int):Int)
    rw[<-p]at ab H y j;clear A t f b B V p
    go_wp2_with(first
     |(at_builtin;go_loud(refine Ip rfl _ _ _ rfl 325 (nI .u16 0) 2 underlying323 QQ rfl u3 us ZN (by exact O.o.kept (bs:=[]) (by exact cg cR) Zh) C.heap.size 0 2 2 [nI .u16 (55296+(R-65536)/1024),nI .u16 (56320+(R-65536) % 1024)] ZN ZM rfl (by exact UN _ _ _) (by intro u W;simp at W;rcases W with rfl|rfl<;>rfl) Zj Zj ?_;intro g aa w3 o l n;have G:=hZ o;have D:=hZ l;have E:=hZ n;clear o l n)))
    go_roundw
    case rel=>
     have z1:=c.o.size;refine⟨i+1,Zj,by go_num,by rw[j.o];exact G.o,Chg.own (sv:= nS nN 0 0) (by exact cg c.o) D.o (fun g a=>by cases a) (fun g a=> .inr (k.o g a)),fun g' q=> ?_⟩;simp[Vl.ownBlock]at q;subst q
     rcases E.o with h|h
     .exact k.o _ h
     .simp at h;omega
    case measure=>simp[intOf];omega
  .obtain rfl:i=m.length:=by omega
   rw[Qn (Q8 _)]at F;go_wp2
   go_ret
   exact⟨⟨_,rfl,F.o,fun g a=>Q7 L.o.size (k.o g a)⟩,L.o.trans c.o⟩
theorem Ss{w:Wl}{a:Option Addr}{n c:Nat}{U:List Nat}(h:AK w (nS a n c) 325 (Gv U)){i x:Nat}(d:U[i]? =nM x):∃g,a=nM ⟨g,0,nN⟩/\w.cell? ⟨g,i,nN⟩=nM (nI .u16 x):=by
 obtain⟨m,o,e,l⟩:=h.form
 injection e with f _ p
 subst f;obtain⟨j,rfl⟩:=l (by intro k;have b:=congrArg List.length k;simp[Gv]at b;subst b;simp at d);exact⟨j,rfl,h.cell rfl i _ (by simp[Gv,d])⟩
theorem Nc{s:BY}(h:Utf.Al s=true):(Utf.Fq s).length<=2*s.size:=by
 obtain⟨m,a,c,_⟩:=Utf.FU h;have d:m.length<=s.size:=by have:=OF a;simpa using this
 have b:Utf.Fq s=m.flatMap Utf.Be:=by unfold Utf.Fq;rw[a];simp[List.flatMap_map]
 rw[b];have:=ON m;omega
theorem JG{U:List Nat}{i:Nat}{x:Nat}(h:U[i]? =nM x):U.drop i=x::U.drop (i+1):=by
 obtain⟨a,b⟩:=Qc.1 h;rw[List.drop_eq_getElem_cons a,b]
theorem MN(a b:BY)(w:Wl)(B:a.size<=2147483648)(C:b.size<=2147483648)(j:Utf.Al a=true)(k:Utf.Al b=true):
  Cl prog 175 #[nG a,nG b] w fun e w'=>e= nR (nI nX (Utf.BK a b))/\Chg w w' []:=by
 have q:=Utf.VZ j k;have I:=Nc j;have J:=Nc k;have Y:=hZ j;have Z:=hZ k;have R:Hid (∀w,Cl prog 162 #[nG a] w fun e w'=>e= nR (.bool true)/\w=w'):=fun w=>by have:=Ii a w B;rw[j]at this;exact this
 have S:Hid (∀w,Cl prog 162 #[nG b] w fun e w'=>e= nR (.bool true)/\w=w'):=fun w=>by have:=Ii b w C;rw[k]at this;exact this
 have u:=hZ fun w=>RU a w B j
 have v:=hZ fun w=>RU b w C k
 obtain⟨U,z⟩:=Ue (Utf.Fq a)
 obtain⟨V,A⟩:=Ue (Utf.Fq b)
 rw[<-z]at q I u;rw[<-A]at q J v;have L:=hZ q;have aa:U.length<=4294967296:=Zj
 have ab:V.length<=4294967296:=Zj
 clear q z A j k I J;have T:Hid ((Gv U).length=U.length):=by unfold Hid Gv;simp
 have W:Hid ((Gv V).length=V.length):=by unfold Hid Gv;simp
 go_enter func175,ntmps175
 go_wp2_with(first
  |(go_at_call_of 162 (Vl.string a);refine(R.o _).mono ?_;rintro e K ⟨rfl,rfl⟩)
  |(go_at_call 162;refine(S.o _).mono ?_;rintro e K ⟨rfl,rfl⟩)
  |(go_at_call_of 208 (Vl.string a);refine(u.o _).mono ?_;rintro e K ⟨⟨v1,rfl,o,G⟩,F⟩;obtain⟨a1,c1,rfl,_⟩:=o.form;rw[T.o]at o G|-;have O:=hZ o;have M:=hZ F;clear o G F)
  |(go_at_call 208;refine(v.o _).mono ?_;rintro e w2 ⟨⟨v2,rfl,p,H⟩,r⟩;obtain⟨a2,c2,rfl,_⟩:=p.form;rw[W.o]at p H|-;have Q:=hZ p;have N:=hZ r;have P:=hZ (O.o.kept r);clear p H r))
 have l:=hZ (M.o.trans N.o);go_loopw [9] (fun t wr=>∃i:Nat,i<=U.length/\i<=V.length/\t= nI nX i/\Chg w2 wr []/\Utf.Fu (U.drop i) (V.drop i)=Utf.BK a b) (fun t _=>U.length-(intOf t).toNat)
 case atStart=>exact⟨0,Zj,Zj,rfl,Chg.refl _ _,L.o⟩
 case round=>
  obtain⟨i,h1,h2,rfl,E,D⟩:=hrel;have f:=hZ E;clear E;have n:=hZ D;clear D;by_cases X:i<U.length
  .obtain⟨x,m⟩:∃x,U[i]? =nM x:=⟨_,Q9 X⟩
   obtain⟨g1,rfl,cx⟩:=Ss (P.o.kept f.o) m;by_cases s:i<V.length
   .obtain⟨y,g⟩:∃y,V[i]? =nM y:=⟨_,Q9 s⟩
    obtain⟨g2,rfl,cy⟩:=Ss (Q.o.kept f.o) g;have c:=n.o;rw[JG m,JG g,Utf.Fu]at c;clear m g
    rcases Nat.lt_trichotomy x y with h|h|h
    .rw[Qs Zj,Qr h]at c
     have d:=hZ c;clear c;go_wp2
     all_goals(try (go_quiet(fail);go_wp2))
     go_ret
     exact⟨E5 d.o,l.o.trans (by exact cg f.o)⟩
    .subst h
     rw[Qr rfl]at c;have d:=hZ c;clear c;go_wp2
     all_goals(try (go_quiet(fail);go_wp2))
     all_goals(try (go_quiet(fail);go_wp2))
     go_roundw
     case rel=>exact⟨i+1,Zj,Zj,by go_num,by exact cg f.o,d.o⟩
     case measure=>simp[intOf];omega
    .rw[Qs Zj,Qs Zj]at c
     have d:=hZ c;clear c;go_wp2
     all_goals(try (go_quiet(fail);go_wp2))
     all_goals(try (go_quiet(fail);go_wp2))
     go_ret
     exact⟨E5 d.o,l.o.trans (by exact cg f.o)⟩
   .have c:=n.o
    rw[JG m,List.drop_of_length_le (by omega:V.length<=i),Utf.Fu]at c;have d:=hZ c;clear c m;go_wp2
    go_ret
    exact⟨E5 d.o,l.o.trans (by exact cg f.o)⟩
  .by_cases s:i<V.length
   .obtain⟨y,g⟩:∃y,V[i]? =nM y:=⟨_,Q9 s⟩
    have c:=n.o;rw[JG g,List.drop_of_length_le (by omega:U.length<=i),Utf.Fu]at c;have d:=hZ c;clear c g;go_wp2
    go_ret
    exact⟨E5 d.o,l.o.trans (by exact cg f.o)⟩
   .have c:=n.o
    rw[List.drop_of_length_le (by omega:V.length<=i),List.drop_of_length_le (by omega:U.length<=i),Utf.Fu]at c;have d:=hZ c;clear c;go_wp2
    go_ret
    exact⟨E5 d.o,l.o.trans (by exact cg f.o)⟩
end
section
open _root_.Go.Proofs.Tryz
open Go Go.RowKit Tree
def We(F:Nat->Prop)(t:Tr)(w:Wl)(e:Ending)(w':Wl):Prop:=∃sk,e= nR sk/\Ax w' F sk (Ad (JN t))/\Chg w w' []
theorem RY(F:Nat->Prop)(t:Tr)(v:Vl)(w:Wl)(a:Af w F t v)(c:∀k,F k->k<w.heap.size):
  Cl prog 65 #[nA #[v]] w (We F t w):=by
 have j:∀(s:BY) (w:Wl),(Instr.typeAssert (nF 220 (nG s)) 62 137 true).run prog w= .ok (nT #[nP nN,.bool false]) w:=fun _ _=>Yb
 have m:∀(w:Wl),(Instr.typeAssert (nF 214 (nA #[])) 62 137 true).run prog w= .ok (nT #[nP nN,.bool false]) w:=fun _=>Yb
 have n:∀(s:Bool) (w:Wl),(Instr.typeAssert (nF 215 (.bool s)) 62 137 true).run prog w= .ok (nT #[nP nN,.bool false]) w:=fun _ _=>Yb
 have o:∀(s:Nat) (w:Wl),(Instr.typeAssert (nF 219 (.float .f64 s)) 62 137 true).run prog w= .ok (nT #[nP nN,.bool false]) w:=fun _ _=>Yb
 have p:∀(s:Option Addr) (w:Wl),(Instr.typeAssert (nF 136 (nP s)) 62 137 true).run prog w= .ok (nT #[nP nN,.bool false]) w:=fun _ _=>Yb
 have q:∀(s:Option Addr) (w:Wl),(Instr.typeAssert (nF 137 (nP s)) 62 137 true).run prog w= .ok (nT #[nP s,.bool true]) w:=fun _ _=>Yb
 cases t with
 |null=>simp only[Af]at a;subst a;go_enter func65,ntmps65;go_wp2;go_ret;exact⟨_,rfl,Ax.empty _ _,by exact cg cR⟩
 |flag b=>simp only[Af]at a;subst a;go_enter func65,ntmps65;go_wp2;go_ret;exact⟨_,rfl,Ax.empty _ _,by exact cg cR⟩
 |num b=>simp only[Af]at a;subst a;go_enter func65,ntmps65;go_wp2;go_ret;exact⟨_,rfl,Ax.empty _ _,by exact cg cR⟩
 |text b=>simp only[Af]at a;subst a;go_enter func65,ntmps65;go_wp2;go_ret;exact⟨_,rfl,Ax.empty _ _,by exact cg cR⟩
 |list l=>simp only[Af]at a;obtain⟨b,i,vs,rfl,_⟩:=a;go_enter func65,ntmps65;go_wp2;go_ret;exact⟨_,rfl,Ax.empty _ _,by exact cg cR⟩
 |obj ks l=>
  simp only[Af]at a;obtain⟨b,sk,i,vs,rfl,g,_,_,_,_,c3,d,_⟩:=a;have f:=hZ d;have e:=hZ c;have r:=c b g;clear d c;go_enter func65,ntmps65
  go_wp2
  go_ret
  exact⟨_,rfl,f.o.kept (((Chg.refl w []).alloc _).keepsF e.o) (fun _ h=>h),by exact cg cR⟩
def UE(F:Nat->Prop)(t:Tr)(w:Wl)(e:Ending)(w':Wl):Prop:=∃a vs,e= nR a/\Ax w' F a vs/\Ak w' F (Ab t) vs/\Chg w w' []
theorem ID(F:Nat->Prop)(t:Tr)(v:Vl)(w:Wl)(a:Af w F t v)(c:∀k,F k->k<w.heap.size):
  Cl prog 66 #[nA #[v]] w (UE F t w):=by
 have n:∀(s:BY) (w:Wl),(Instr.typeAssert (nF 220 (nG s)) 62 137 true).run prog w= .ok (nT #[nP nN,.bool false]) w:=fun _ _=>Yb
 have o:∀(w:Wl),(Instr.typeAssert (nF 214 (nA #[])) 62 137 true).run prog w= .ok (nT #[nP nN,.bool false]) w:=fun _=>Yb
 have p:∀(s:Bool) (w:Wl),(Instr.typeAssert (nF 215 (.bool s)) 62 137 true).run prog w= .ok (nT #[nP nN,.bool false]) w:=fun _ _=>Yb
 have q:∀(s:Nat) (w:Wl),(Instr.typeAssert (nF 219 (.float .f64 s)) 62 137 true).run prog w= .ok (nT #[nP nN,.bool false]) w:=fun _ _=>Yb
 have r:∀(s:Option Addr) (w:Wl),(Instr.typeAssert (nF 136 (nP s)) 62 137 true).run prog w= .ok (nT #[nP nN,.bool false]) w:=fun _ _=>Yb
 have u:∀(s:Option Addr) (w:Wl),(Instr.typeAssert (nF 137 (nP s)) 62 137 true).run prog w= .ok (nT #[nP s,.bool true]) w:=fun _ _=>Yb
 have x:∀(s:BY) (w:Wl),(Instr.typeAssert (nF 220 (nG s)) 62 136 true).run prog w= .ok (nT #[nP nN,.bool false]) w:=fun _ _=>Yb
 have y:∀(w:Wl),(Instr.typeAssert (nF 214 (nA #[])) 62 136 true).run prog w= .ok (nT #[nP nN,.bool false]) w:=fun _=>Yb
 have z:∀(s:Bool) (w:Wl),(Instr.typeAssert (nF 215 (.bool s)) 62 136 true).run prog w= .ok (nT #[nP nN,.bool false]) w:=fun _ _=>Yb
 have A:∀(s:Nat) (w:Wl),(Instr.typeAssert (nF 219 (.float .f64 s)) 62 136 true).run prog w= .ok (nT #[nP nN,.bool false]) w:=fun _ _=>Yb
 have B:∀(s:Option Addr) (w:Wl),(Instr.typeAssert (nF 136 (nP s)) 62 136 true).run prog w= .ok (nT #[nP s,.bool true]) w:=fun _ _=>Yb
 have C:∀(s:Option Addr) (w:Wl),(Instr.typeAssert (nF 137 (nP s)) 62 136 true).run prog w= .ok (nT #[nP nN,.bool false]) w:=fun _ _=>Yb
 cases t with
 |null=>simp only[Af]at a;subst a;go_enter func66,ntmps66;go_wp2;go_ret;exact⟨_,[],rfl,Ax.empty _ _,by simp[Ab,Ak],by exact cg cR⟩
 |flag b=>simp only[Af]at a;subst a;go_enter func66,ntmps66;go_wp2;go_ret;exact⟨_,[],rfl,Ax.empty _ _,by simp[Ab,Ak],by exact cg cR⟩
 |num b=>simp only[Af]at a;subst a;go_enter func66,ntmps66;go_wp2;go_ret;exact⟨_,[],rfl,Ax.empty _ _,by simp[Ab,Ak],by exact cg cR⟩
 |text b=>simp only[Af]at a;subst a;go_enter func66,ntmps66;go_wp2;go_ret;exact⟨_,[],rfl,Ax.empty _ _,by simp[Ab,Ak],by exact cg cR⟩
 |list l=>
  simp only[Af]at a;obtain⟨b,m,vs,rfl,i,_,_,_,c3,e,hi⟩:=a;have g:=hZ e;have f:=hZ hi;have d:=hZ c;have j:=c b i;clear e hi c;go_enter func66,ntmps66
  go_wp2
  go_ret
  exact⟨_,vs,rfl,g.o.kept (((Chg.refl w []).alloc _).keepsF d.o) (fun _ h=>h),Ak.kept (((Chg.refl w []).alloc _).keepsF d.o) (fun _ h=>h) _ _ f.o,by exact cg cR⟩
 |obj ks l=>
  simp only[Af]at a;obtain⟨b,sk,m,vs,rfl,i,_,_,_,_,_,_,c4,e,hi⟩:=a;have g:=hZ e;have f:=hZ hi;have d:=hZ c;have j:=c b i;clear e hi c;go_enter func66,ntmps66
  go_wp2
  go_ret
  exact⟨_,vs,rfl,g.o.kept (((Chg.refl w []).alloc _).keepsF d.o) (fun _ h=>h),Ak.kept (((Chg.refl w []).alloc _).keepsF d.o) (fun _ h=>h) _ _ f.o,by exact cg cR⟩
theorem Up(F:Nat->Prop)(t:Tr)(v:Vl)(w:Wl)(d:Af w F t v)(g:∀k,F k->k<w.heap.size):
  Cl prog 63 #[nA #[v]] w fun e w'=>e= nR (nI nX (Ab t).length)/\Chg w w' []:=by
 have i:=hZ d;have f:=hZ g;obtain⟨n,x,rfl⟩:=d.iface;clear d g;go_enter func63,ntmps63
 go_wp2_with(first|(go_at_call 66;go_loud(have b:=((Chg.refl w []).alloc (nC #[nF n x] 64));refine(ID F t _ _ (Af.kept (b.keepsF f.o) (fun _ h=>h) _ _ i.o) (fun k l=>Q6 (f.o k l) b.size)).mono ?_;rintro e p ⟨o,vs,rfl,m,hi,j⟩;obtain⟨a,c,rfl,_⟩:=m.cell;rw[hi.length])))
 go_ret
 exact⟨rfl,b.trans j⟩
theorem IG(F:Nat->Prop)(a:Nat)(v:Vl)(w:Wl)(d:w.cell? ⟨a,0,nN⟩=nM v)(hi:∃b x,v= nF b x)(c:a<w.heap.size):
  Cl prog 30 #[nP (nM ⟨a,0,nN⟩)] w fun e w'=>e= nR (nA #[v])/\Chg w w' []:=by
 obtain⟨b,x,rfl⟩:=hi;go_enter func30,ntmps30
 go_wp2
 refine bodyPost_ret (v:= nA #[nF b x]) (by simp[results,results30,go_sem]) rfl ⟨rfl,by exact cg cR⟩
structure Cy(ks:List BY):Prop where
 right:∀s∈ks,Utf.Al s=true
 small:∀s∈ks,s.size<=2147483648
 rise:ks.Pairwise fun a b=>Utf.BK a b<0
 many:ks.length<=2147483648
theorem Cy.lt{ks:List BY}(h:Cy ks){i j:Nat}{a b:BY}(hi:ks[i]? =nM a)(d:ks[j]? =nM b)(c:i<j):Utf.BK a b<0:=by
 obtain⟨e,rfl⟩:=Qc.1 hi;obtain⟨f,rfl⟩:=Qc.1 d;exact List.pairwise_iff_getElem.1 h.rise i j e f c
def KQ(ks:List BY)(a:BY)(w:Wl)(e:Ending)(w':Wl):Prop:=
 ∃(i:Nat) (ok:Bool),e= nR (nT #[nI nX i,.bool ok])/\Chg w w' []/\(ok=true->ks[i]? =nM a)/\(ok=false->a∉ks)/\i<=ks.length/\
  (∀t s,t<i->ks[t]? =nM s->Utf.BK s a<0)/\(∀t s,i<=t->ks[t]? =nM s->0<=Utf.BK s a)
theorem J7(F:Nat->Prop)(sk:Vl)(ks:List BY)(d:BY)(w:Wl)(U:Ax w F sk (Ad ks))(Q:∀k,F k->k<w.heap.size)(J:Cy ks)(X:Utf.Al d=true)(G:d.size<=2147483648):
  Cl prog 182 #[sk,nG d,.func (.func 157) #[] #[]] w (KQ ks d w):=by
 obtain⟨a,c,rfl,R⟩:=U.cell;have V:(Ad ks).length=ks.length:=by simp[Ad]
 have af:=J.many;have Z:=hZ R;have HF:=hZ Q;have q:=hZ J;have B:=hZ X;clear U Q J X R;rw[V];clear V
 have L:Hid (∀(wr:Wl),Chg w wr []->∀(i:Nat) (s:BY),ks[i]? =nM s->∃b o,a=nM ⟨b,o,nN⟩/\wr.cell? ⟨b,o+i,nN⟩=nM (nG s)):=by
  intro wr T i s hi;obtain⟨b,o,e1,e2,e3⟩:=Z.o i (nG s) (by simp[Ad,hi]);exact⟨b,o,e1,T.keeps e3⟩
 go_enter func182,ntmps182
 go_wp2
 go_loopg [9,10] ks.length (fun kx s9 ab wr=>∃lo hi:Nat,s9= nI nX lo/\ab= nI nX hi/\lo<=hi/\hi<=ks.length/\hi-lo<=kx/\Chg w wr []/\
  (∀t s,t<lo->ks[t]? =nM s->Utf.BK s d<0)/\(∀t s,hi<=t->ks[t]? =nM s->0<=Utf.BK s d))
 case atStart=>exact⟨0,ks.length,rfl,rfl,Nat.zero_le _,Q8 _,Zj,Chg.refl _ _,fun t s f=>absurd f (Nat.not_lt_zero _),fun t s C D=>by have:=(Qc.1 D).1;omega⟩
 case round=>
  obtain⟨lo,hi,rfl,rfl,ad,E,T,S,M,N⟩:=hrel;have p:=hZ S;have v:=hZ M;have z:=hZ N;clear S M N;by_cases ae:lo<hi
  .have hm:(lo+hi)/2<ks.length:=by omega
   have j:ks[(lo+hi)/2]? =nM ks[(lo+hi)/2]:=Q9 hm;obtain⟨s,A⟩:=Ue (ks[(lo+hi)/2])
   rw[<-A]at j;have u:s∈ks:=Qi j;obtain⟨b,o,rfl,aa⟩:=L.o _ p.o _ _ j;have l:=hZ j;have x:=hZ (q.o.right s u);have y:=hZ (q.o.small s u);clear A j u;by_cases n:Utf.BK s d<0
   .have m:=hZ n
    go_wp2_with(first|(go_at_call 157;(with_reducible refine(FX s d _ y.o G x.o B.o).mono ?_);rintro e K ⟨rfl,r⟩))
    go_roundg (hi-((lo+hi)/2+1))
    case measure=>omega
    case rel=>
     refine⟨(lo+hi)/2+1,hi,by rw[show((lo:Int)+(hi:Int))/2+1=(((lo+hi)/2+1:Nat):Int) by omega],rfl,Zj,E,Q8 _,p.o.trans r,fun t Y f g=> ?_,z.o⟩;by_cases H:t=(lo+hi)/2
     .subst H;rw[l.o]at g;injection g with g;subst g;exact m.o
     .exact Utf.Ev (q.o.lt g l.o Zj) m.o
   .have m:=hZ n
    go_wp2_with(first|(go_at_call 157;(with_reducible refine(FX s d _ y.o G x.o B.o).mono ?_);rintro e K ⟨rfl,r⟩))
    go_roundg ((lo+hi)/2-lo)
    case measure=>omega
    case rel=>
     refine⟨lo,(lo+hi)/2,rfl,by rw[show((lo:Int)+(hi:Int))/2=(((lo+hi)/2:Nat):Int) by omega],Zj,Zj,Q8 _,p.o.trans r,v.o,fun t Y f g=> ?_⟩;by_cases H:t=(lo+hi)/2
     .subst H;rw[l.o]at g;injection g with g;subst g;have:=m.o;omega
     .have C:=q.o.lt l.o g Zj
      have D:=m.o;by_cases P:Utf.BK Y d<0
      .exact absurd (Utf.Ev C P) Zj
      .omega
  .obtain rfl:hi=lo:=by omega
   by_cases W:hi<ks.length
   .have j:ks[hi]? =nM ks[hi]:=Q9 W
    obtain⟨s,A⟩:=Ue (ks[hi])
    rw[<-A]at j;have u:s∈ks:=Qi j;obtain⟨b,o,rfl,aa⟩:=L.o _ p.o _ _ j;have l:=hZ j;have x:=hZ (q.o.right s u);have y:=hZ (q.o.small s u);clear A j u;by_cases n:Utf.BK s d=0
    .have m:=hZ n
     have hb:(Utf.BK s d==0)=true:=by simp[n]
     clear n;go_wp2_with(first|(go_at_call 157;(with_reducible refine(FX s d _ y.o G x.o B.o).mono ?_);rintro e K ⟨rfl,r⟩))
     go_ret2
     exact⟨hi,true,rfl,p.o.trans r,fun _=>by rw[l.o,Utf.FJ m.o],fun h=>(by cases h),E,v.o,z.o⟩
    .have m:=hZ n
     have hb:(Utf.BK s d==0)=false:=by simp[n]
     clear n;go_wp2_with(first|(go_at_call 157;(with_reducible refine(FX s d _ y.o G x.o B.o).mono ?_);rintro e K ⟨rfl,r⟩))
     go_ret2
     refine⟨hi,false,rfl,p.o.trans r,fun h=>(by cases h),fun _ I=> ?_,E,v.o,z.o⟩;obtain⟨t,f⟩:=List.mem_iff_getElem?.1 I;have O:=Utf.Gc d;by_cases C:t<hi
     .have:=v.o t d C f;omega
     .by_cases D:t=hi
      .subst D;rw[l.o]at f;injection f with f;subst f;exact m.o O
      .have P:=z.o hi s (Q8 _) l.o
       have h4:=q.o.lt l.o f Zj;omega
   .have HN:=hZ W
    go_wp2
    go_ret2
    refine⟨hi,false,rfl,p.o,fun h=>(by cases h),fun _ I=> ?_,E,v.o,z.o⟩;obtain⟨t,f⟩:=List.mem_iff_getElem?.1 I;have O:=Utf.Gc d;have:=(Qc.1 f).1;have:=v.o t d (by have:=HN.o;omega) f;omega
end
end Go.Proofs.YtkfnkppdhcaeoaaGreatDoor

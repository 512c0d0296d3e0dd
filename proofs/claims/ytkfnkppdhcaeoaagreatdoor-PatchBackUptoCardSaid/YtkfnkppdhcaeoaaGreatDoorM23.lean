/- Part 23 of the proof of backBase. -/
import Derived.Test.YtkfnkppdhcaeoaaGreatDoorM22
set_option maxRecDepth 100000
set_option maxHeartbeats 32000000
set_option linter.all false
namespace Go.Proofs.YtkfnkppdhcaeoaaGreatDoor
open Go renaming Calls->Cl,TypeId->Ti,Value->Vl,World->Wl
section
open _root_.Go.Proofs.Tryz
open Go Go.Shelf Go.RowKit Go.Lib Tree Ptr
def dM(w:Wl):Prop:=∀m:Nat,m<6->w.cell? ⟨0,m,none⟩=some (.string (Ec (m+1)))
theorem dM.kept{w w':Wl}(h:dM w)(a:Chg w w' []):dM w':=fun m b=>a.keeps (h m b)
structure dQ(w0:Wl)(X b P:Nat)(TP:Ti)(C vs kl:List Vl)(w:Wl):Prop where
 ex:∃sl sk,dL w X b sl sk vs kl/\(∀g,sl.ownBlock=some g->w0.heap.size<=g/\g≠P)/\(∀g,sk.ownBlock=some g->w0.heap.size<=g/\g≠P)
 chg:Chg w0 w []
 pb:Ac w P C TP
 hb:w0.heap.size<=b
 np:P≠b
theorem dS(w0:Wl)(X b P:Nat)(TP:Ti)(C vs d:List Vl)(m:BY)(n:Ti)(x:Vl)(w:Wl)(h:dQ w0 X b P TP C vs d w)(v:vs.length<=65536)(u:d.length<=65536):
  Cl prog 88 #[.string m,.iface n x,.pointer (some ⟨X,0,none⟩)] w fun e w'=>e= .returned (.tuple #[])/\dQ w0 X b P TP C (vs++[.iface n x]) (d++[.string m]) w':=by
 obtain⟨s,sk,H,f,j⟩:=h.ex;have z:=h.pb.lt;refine(dN X b s sk vs d m n x w H ⟨Zj,Zj⟩ ⟨Zj,Zj⟩).mono fun e w' ⟨p,t,r,q,o,i,k⟩=>⟨p,⟨⟨t,r,q,fun g l=> ?_,fun g l=> ?_⟩,h.chg.fresh o (fun y a=> ?_),h.pb.kept o (fun a=> ?_),h.hb,h.np⟩⟩
 .rcases i g l with c|c
  .exact f g c
  .have:=h.chg.size;exact⟨Zj,Zj⟩
 .rcases k g l with c|c
  .exact j g c
  .have:=h.chg.size;exact⟨Zj,Zj⟩
 .simp only[Qh,Qf,Option.mem_toList]at a
  rcases a with rfl|a|a
  .exact h.hb
  .exact(f y a).1
  .exact(j y a).1
 .simp only[Qh,Qf,Option.mem_toList]at a
  rcases a with a|a|a
  .exact h.np a
  .exact(f _ a).2 rfl
  .exact(j _ a).2 rfl
def dO(s:BY):Vl:= .iface 183 (.agg #[.iface 179 (.string s)])
theorem dT(s:BY)(w:Wl):Cl prog 89 #[.string s] w fun e w'=>e= .returned (dO s)/\w=w':=by
 go_enter func89,ntmps89
 go_wp2_with fail
 go_ret
 exact⟨rfl,rfl⟩
theorem dR(w:Wl)(s:BY):AP w (.text s) (dO s) []:=by simp only[AP];exact⟨rfl,trivial⟩
theorem dV{w:Wl}{s:BY}{l:List Tr}{r:List Vl}{a:List Nat}(h:PsAt w l r a):PsAt w (.text s::l) (dO s::r) a:=⟨_,_,[],a,rfl,dR w s,h,rfl⟩
theorem dQ.kept{w0 w w':Wl}{X b P:Nat}{TP:Ti}{C vs c:List Vl}(h:dQ w0 X b P TP C vs c w)(a:Chg w w' []):dQ w0 X b P TP C vs c w':=by
 obtain⟨f,sk,H,d,e⟩:=h.ex;exact⟨⟨f,sk,⟨H.cell.kept a,H.blk.kept a,H.items.kept a,H.keys.kept a,H.ne,H.ni,H.nk⟩,d,e⟩,h.chg.trans a,h.pb.kept a,h.hb,h.np⟩
theorem dQ.facts{w0 w:Wl}{X b P m:Nat}{vs c:List Vl}{k:Int}{p f:BY}{d e g v u:Vl}(h:dQ w0 X b P 111 [.int .i64 k,.string p,.string f,d,e,g,v] vs c w)(a:w0.cell? ⟨0,m,none⟩=some u):
  w.cell? ⟨P,0,none⟩=some (.int .i64 k)/\w.cell? ⟨P,1,none⟩=some (.string p)/\w.cell? ⟨P,2,none⟩=some (.string f)/\w.cell? ⟨P,6,none⟩=some v/\w.cell? ⟨X,0,none⟩=some (.pointer (some ⟨b,0,none⟩))/\w.cell? ⟨0,m,none⟩=some u:=by
 obtain⟨i,sk,H,_,_⟩:=h.ex;exact⟨h.pb.cell 0,h.pb.cell 1,h.pb.cell 2,h.pb.cell 6,H.cell.cell 0,h.chg.keeps a⟩
theorem dU{w0 w:Wl}{X b P:Nat}{TP:Ti}{C vs:List Vl}{ks:List BY}{l:List Tr}{c:List Nat}(h:dQ w0 X b P TP C vs (Ad ks) w)(f:ks.length=l.length)(g:PsAt w l vs c):
  ∃bs,AP w (.obj ks l) (.iface 175 (.pointer (some ⟨b,0,none⟩))) bs/\∀y,y∈bs->w0.heap.size<=y\/y∈c:=by
 obtain⟨i,sk,H,d,e⟩:=h.ex;refine⟨_,⟨b,i,sk,vs,c,rfl,H.blk,H.items,H.keys,f,g,rfl⟩,fun y a=> ?_⟩;simp only[Qh,Qf,Option.mem_toList]at a
 rcases a with rfl|a|a|a
 .exact .inl h.hb
 .exact .inl (d y a).1
 .exact .inl (e y a).1
 .exact .inr a
def dP(k:Int)(p f:BY)(x:Tr)(a:List Nat)(w:Wl)(e:Ending)(w':Wl):Prop:=
 ∃v bs,e= .returned v/\AP w' (Ze k.toNat p f x) v bs/\(∀y,y∈bs->w.heap.size<=y\/y∈a)/\Chg w w' []
theorem dX{m:Nat}(h:true=AO ((m:Int)+1)):m+1=4\/m+1=5:=by unfold AO at h;simp at h;omega
theorem dY{m:Nat}(h:true=AN ((m:Int)+1)):m+1=1\/m+1=3\/m+1=6:=by unfold AN at h;simp at h;omega
theorem dW{m:Nat}(h:false=AO ((m:Int)+1)):¬(m+1=4\/m+1=5):=by unfold AO at h;simp at h;omega
theorem dZ{m:Nat}(h:false=AN ((m:Int)+1)):¬(m+1=1\/m+1=3\/m+1=6):=by unfold AN at h;simp at h;omega
def eD(k:Int)(p f:BY)(sv slp a b:Vl):List Vl:=[.int .i64 k,.string p,.string f,sv,slp,a,b]
theorem ee(m:Nat)(p f:BY)(x:Tr)(C D E q:Vl)(d:List Nat)(w:Wl)(Z:m<6)(S:dM w)(U:AN ((m:Int)+1)=true->AP w x q d/\∀y,y∈d->y<w.heap.size):
  Cl prog 51 #[.agg (eD ((m:Int)+1) p f C D E q).toArray] w (dP ((m:Int)+1) p f x d w):=by
 have ag:∀(R:Fn) (first K:Array Vl) (w:Wl),(Instr.makeFunc R first K).run prog w= .ok (.func R first K) w:=fun _ _ _ _=>rfl
 have o:=S m Z;have X:=hZ U;have ad:(0:Int)<=(m:Int):=Zj
 have af:(m:Int)<6:=Zj
 have ae:(m:Int)+1-1=(m:Int):=Zj
 obtain⟨uf,u⟩:=Ue (AO ((m:Int)+1))
 obtain⟨uv,v⟩:=Ue (AN ((m:Int)+1))
 have k:=hZ u;have n:=hZ v;have I:=hZ (fun w=>Jm ((m:Int)+1) w);rw[<-u,<-v]at I;obtain⟨V,z⟩:=Ue (((w.alloc (.cells #[.int .i64 ((m:Int)+1),.string p,.string f,C,D,E,q] 111)).alloc (.cells #[.slice none 0 0,.slice none 0 0] 177)).alloc (.cells #[.pointer (some ⟨w.heap.size+1,0,none⟩)] 175))
 have J:=hZ z
 have T:dQ w (w.heap.size+1+1) (w.heap.size+1) w.heap.size 111 [.int .i64 ((m:Int)+1),.string p,.string f,C,D,E,q] [] [] V:=by
  rw[z];refine⟨⟨.slice none 0 0,.slice none 0 0,⟨BD _ _ _ _ _ rfl Zh,(BD _ _ _ _ _ rfl Zh).alloc _,World.ownsRow_nil _ 0 _ 1,World.ownsRow_nil _ 0 _ 1,Zj,(fun g c=>by cases c),(fun g c=>by cases c)⟩,(fun g c=>by cases c),(fun g c=>by cases c)⟩,(((Chg.refl w []).alloc _).alloc _).alloc _,((Ac.new w _ _).alloc _).alloc _,Zj,Zj⟩
 have H:=hZ T;clear S U u v z T;go_enter func51,ntmps51
 unfold eD;go_wp2_with fail
 rw[<-J.o];refine(I.o V).mono ?_;rintro e w1 ⟨rfl,t⟩;have a:=hZ (H.o.kept t);obtain⟨c0,c1,c2,c3,c4,c5⟩:=a.o.facts o;clear t H J;have s:((m:Int)+1).toNat=m+1:=Zj
 cases uf<;>cases uv
 .go_wp2_with(first
 |(go_at_call 89;refine(dT _ _).mono ?_;rintro e W ⟨rfl,rfl⟩;unfold dO)
 |(go_at_call 88;refine(dS w _ _ _ _ _ _ _ _ _ _ _ a.o Zh Zh).mono ?_;rintro e r ⟨rfl,b⟩;obtain⟨L,M,N,O,P,Q⟩:=b.facts o;clear a;have a:=hZ b;clear b))
  go_ret
  obtain⟨bs,i,j⟩:=dU (ks:=[SB,Fj]) (l:=[.text (Ec (m+1)),.text p]) (vs:=[dO (Ec (m+1)),dO p]) a.o rfl (dV (dV ⟨rfl,rfl⟩));refine⟨_,bs,rfl, ?_,fun y B=>(j y B).imp id (fun h=>by cases h),a.o.chg⟩;rw[s];unfold Ze;rw[Qs (dW k.o),Qs (dZ n.o)];exact i
 .obtain⟨A,aa⟩:=X.o n.o.symm
  obtain⟨F,G,rfl⟩:=A.iface;have Y:=hZ A;clear A aa
  go_wp2_with(first
 |(go_at_call 89;refine(dT _ _).mono ?_;rintro e W ⟨rfl,rfl⟩;unfold dO)
 |(go_at_call 88;refine(dS w _ _ _ _ _ _ _ _ _ _ _ a.o Zh Zh).mono ?_;rintro e r ⟨rfl,b⟩;obtain⟨L,M,N,O,P,Q⟩:=b.facts o;clear a;have a:=hZ b;clear b))
  go_ret
  have ab:AP r x (.iface F G) d:=Y.o.chg a.o.chg Zh;obtain⟨bs,i,j⟩:=dU (ks:=[SB,Fj,SZ]) (l:=[.text (Ec (m+1)),.text p,x]) (vs:=[dO (Ec (m+1)),dO p,.iface F G]) a.o rfl (show PsAt r [.text (Ec (m+1)),.text p,x] [dO (Ec (m+1)),dO p,.iface F G] d from dV (dV ⟨_,[],d,[],rfl,ab,⟨rfl,rfl⟩,Zh⟩));refine⟨_,bs,rfl, ?_,j,a.o.chg⟩;rw[s];unfold Ze;rw[Qs (dW k.o),Qr (dY n.o)];exact i
 .go_wp2_with(first
 |(go_at_call 89;refine(dT _ _).mono ?_;rintro e W ⟨rfl,rfl⟩;unfold dO)
 |(go_at_call 88;refine(dS w _ _ _ _ _ _ _ _ _ _ _ a.o Zh Zh).mono ?_;rintro e r ⟨rfl,b⟩;obtain⟨L,M,N,O,P,Q⟩:=b.facts o;clear a;have a:=hZ b;clear b))
  go_ret
  obtain⟨bs,i,j⟩:=dU (ks:=[Oa,SB,Fj]) (l:=[.text f,.text (Ec (m+1)),.text p]) (vs:=[dO f,dO (Ec (m+1)),dO p]) a.o rfl (dV (dV (dV ⟨rfl,rfl⟩)));refine⟨_,bs,rfl, ?_,fun y B=>(j y B).imp id (fun h=>by cases h),a.o.chg⟩;rw[s];unfold Ze;rw[Qr (dX k.o)];exact i
 .exfalso
  have t:=dX k.o;have h2:=dY n.o;omega
end
section
open _root_.Go.Proofs.Tryz
open Go Go.RowKit Tree Ptr
theorem fR(s:BY)(ks:List BY)(b o c:Nat)(w:Wl)(D:ks.length<=4294967296)(p:∀i k,ks[i]? =some k->w.cell? ⟨b,o+i,none⟩=some (.string k)):
  Cl prog 119 #[.slice (some ⟨b,o,none⟩) ks.length c,.string s] w fun e w'=>e= .returned (.int .i64 (eN ks s))/\Chg w w' []:=by
 have t:=hZ p;clear p;go_enter func119,ntmps119
 go_wp2_with fail
 go_loopw [8] (fun m wr=>∃i:Nat,i<=ks.length/\m= .int .i64 i/\w=wr/\∀j k,j<i->ks[j]? =some k->k≠s) (fun m _=>ks.length-(intOf m).toNat)
 case atStart=>exact⟨0,Zj,rfl,rfl,fun j k h=>absurd h (Nat.not_lt_zero j)⟩
 case round=>
  obtain⟨i,B,rfl,rfl,r⟩:=hrel;have g:=hZ r;clear r;by_cases z:i<ks.length
  .obtain⟨k,l⟩:∃k,ks[i]? =some k:=⟨_,Q9 z⟩
   have A:=t.o i k l;have n:=hZ l;clear l;by_cases a:s=k
   .have x:(s.toList==k.toList)=true:=by rw[a];simp
    have f:=hZ a;clear a;go_wp2_with fail
    go_ret
    exact⟨by rw[eO (f.o▸n.o) g.o];rfl,Chg.refl _ _⟩
   .have v:¬s.toList=k.toList:=fun e=>a (by rw[Lib.toList_data,Lib.toList_data]at e;exact ByteArray.ext (Array.toList_inj.1 e))
    have x:(s.toList==k.toList)=false:=by simpa using v
    have f:=hZ a;clear a;go_wp2_with fail
    go_roundw
    case rel=>
     refine⟨i+1,Zj,by go_num,trivial,fun j q C d=> ?_⟩;by_cases y:j=i
     .subst y
      have u:=n.o;rw[u]at d
      injection d with d
      rw[<-d];exact fun e=>f.o e.symm
     .exact g.o j q Zj d
    case measure=>simp[intOf];omega
  .obtain rfl:i=ks.length:=by omega
   go_wp2_with fail
   go_ret
   exact⟨by rw[eL g.o];rfl,Chg.refl _ _⟩
def fG:List BY:=[Ec 1,Ec 2,Ec 3,Ec 4,Ec 5,Ec 6]
theorem fP(s:BY):1+eN fG s=(Ob s:Int):=by
 unfold Ob;split
 .rename_i h;subst h;decide+kernel
 .rename_i b
  split
  .rename_i h;subst h;decide+kernel
  .rename_i c
   split
   .rename_i h;subst h;decide+kernel
   .rename_i d
    split
    .rename_i h;subst h;decide+kernel
    .rename_i f
     split
     .rename_i h;subst h;decide+kernel
     .rename_i g
      split
      .rename_i h;subst h;decide+kernel
      .rename_i i
       rw[eL]
       .rfl
       .intro j k _ l e
        subst e;have a:=Qi l;simp only[fG,Qh,List.not_mem_nil,or_false]at a
        rcases a with h|h|h|h|h|h
        .exact b h
        .exact c h
        .exact d h
        .exact f h
        .exact g h
        .exact i h
theorem gg(s:BY):Ob s<=6:=by
 unfold Ob
 repeat' split
 all_goals omega
theorem fQ{w:Wl}(h:dM w):∀i k,fG[i]? =some k->w.cell? ⟨0,0+i,none⟩=some (.string k):=by
 intro i k a;have hi:i<6:=(Qc.1 a).1;rw[Nat.zero_add,h i hi];have:i=0\/i=1\/i=2\/i=3\/i=4\/i=5:=Zj
 rcases this with rfl|rfl|rfl|rfl|rfl|rfl<;>(simp[fG]at a;rw[<-a])
end
section
open _root_.Go.Proofs.Tryz
open Go Go.Shelf Go.RowKit Go.Lib Tree Ptr
def Db(k:Int)(p f:BY)(sv:Vl):List Vl:=[.int .i64 k,.string p,.string f,sv,.slice none 0 0,.slice none 0 0,.nilIface]
theorem IK(k:Int)(p f:BY)(a:Option Addr)(n c:Nat):∀u∈Db k p f (.slice a n c),u.oneCell'=true:=by
 intro u b;simp only[Db,Qh,List.not_mem_nil,or_false]at b
 rcases b with rfl|rfl|rfl|rfl|rfl|rfl|rfl<;>rfl
theorem Ce:(prog.info? 111).map (·.size)=some 7:=Yb
theorem RH(o:Bq)(a:Option Addr)(n c:Nat)(w:Wl)(A:Br w)(F:o.path.size<=16777216)(D:CP o.kind=true)(E:AD o.path=none):
  Cl prog 52 #[.agg #[.int .i64 o.kind,.string o.path,.string o.frm,.slice a n c]] w (AZ 171 [] w):=by
 have y:=UD (∀d,Cl prog 90 #[.int .i64 o.kind] d fun e w'=>e= .returned (.tuple #[.bool (AO o.kind),.bool (AN o.kind),.bool true])/\Chg d w' []) fun d=>by
  have:=Jm o.kind d;rwa[D]at this
 have x:=UD (∀d,Chg w d []->Cl prog 58 #[.string o.path] d (IU d)) fun d W=>by
  have:=D8 o.path d (A.kept W) F;have e:AU o.path d=IU d:=by funext e w';unfold AU;rw[E]
  rwa[e]at this
 obtain⟨k,r⟩:=Ue o.kind
 obtain⟨uf,G⟩:=Ue (AO o.kind)
 obtain⟨uv,H⟩:=Ue (AN o.kind)
 rw[<-G,<-H,<-r]at y;obtain⟨p,s⟩:=Ue o.path
 obtain⟨f,C⟩:=Ue o.frm
 rw[<-s]at x;rw[<-r,<-s,<-C];have P:=UD (Ac (((w.alloc (.cells #[.int .i64 k,.string p,.string f,.slice a n c] 42)).alloc (.cells (Db 0 ⟨#[]⟩ ⟨#[]⟩ (.slice none 0 0)).toArray 111)).alloc (.cells (Db 0 ⟨#[]⟩ ⟨#[]⟩ (.slice none 0 0)).toArray 111)) (w.heap.size+1+1) (Db 0 ⟨#[]⟩ ⟨#[]⟩ (.slice none 0 0)) 111) (by have:=Ac.new ((w.alloc (.cells #[.int .i64 k,.string p,.string f,.slice a n c] 42)).alloc (.cells (Db 0 ⟨#[]⟩ ⟨#[]⟩ (.slice none 0 0)).toArray 111)) (Db 0 ⟨#[]⟩ ⟨#[]⟩ (.slice none 0 0)) 111;simpa using this);have R:=UD (Ac (((w.alloc (.cells #[.int .i64 k,.string p,.string f,.slice a n c] 42)).alloc (.cells (Db 0 ⟨#[]⟩ ⟨#[]⟩ (.slice none 0 0)).toArray 111)).alloc (.cells (Db 0 ⟨#[]⟩ ⟨#[]⟩ (.slice none 0 0)).toArray 111)) w.heap.size (BJ ⟨k,p,f,[]⟩ (.slice a n c)) 42) (((Ac.new w (BJ ⟨k,p,f,[]⟩ (.slice a n c)) 42).alloc _).alloc _);clear D G H r E A F s C;go_enter func52,ntmps52
 go_wp2_with(first
  |(refine Ae rfl _ _ _ rfl (w.heap.size+1+1) (Db k p f (.slice a n c)) ZN ZN 111 (Db 0 ⟨#[]⟩ ⟨#[]⟩ (.slice none 0 0)) (by exact P.o) Ce rfl (IK _ _ _ _ _ _) ?_;intro w0 I z q;have V:=hZ z;have Z:=hZ I;have S:=UD (Chg w w0 []) (Chg.step (b:=_) (by exact cg cR) q (fun i hi hl=>by simp at hi;omega));have u:=UD (Ac w0 w.heap.size (BJ ⟨k,p,f,[]⟩ (.slice a n c)) 42) (Ac.kept (w:=_) (by exact R.o) q (by simp;omega));have K:=u.o.cell 0;unfold BJ at K;simp only[Qa,Qb]at K;clear I z q)
  |(go_at_call 90;refine(y.o _).mono ?_;rintro e X ⟨rfl,g⟩;have v:=UD (Chg w X []) (ct S.o g);have l:=hZ (u.o.kept g);have Q:=hZ (V.o.kept g);have L:=l.o.cell 1;have M:=l.o.cell 2;have N:=l.o.cell 3;unfold BJ at L M N;simp only[Qa,Qb]at L M N;clear g)
  |(go_at_call_of 53 (Vl.bool true);refine(Bv _ _).mono ?_;rintro e w2 ⟨rfl,rfl⟩)
  |(go_at_call 58;refine(x.o _ (by exact cg v.o)).mono ?_;rintro e J ⟨⟨te,xe,rfl⟩,m⟩;have t:=hZ (Q.o.kept m);have O:=t.o.cell 4;have z4:∀j,J.frozen? ⟨w.heap.size+1+1,j,none⟩=false:=fun j=>t.o.frozen j;unfold Db at O;simp only[Qa,Qb]at O;have T:=UD (Chg w J []) (ct v.o m);clear m)
  |(go_at_call 53;refine(Bu _ _).mono ?_;rintro e Y ⟨B,h⟩;unfold By at B;subst B;have U:=UD (Chg w Y []) (Chg.trans (b:=_) (by exact T.o.setCell _ _ (by simp;omega)) h);clear h))
 exact⟨rfl,rfl,U.o⟩
theorem RE(o:Bq)(a:Option Addr)(n c:Nat)(w:Wl)(t:Br w)(M:o.path.size<=16777216)(N:o.frm.size<=16777216)(J:CP o.kind=true)(ts:List BY)(K:AD o.path=some ts)(O:AO o.kind=true)(L:AD o.frm=none):
  Cl prog 52 #[.agg #[.int .i64 o.kind,.string o.path,.string o.frm,.slice a n c]] w (AZ 171 [] w):=by
 have r:=UD (∀d,Cl prog 90 #[.int .i64 o.kind] d fun e w'=>e= .returned (.tuple #[.bool (AO o.kind),.bool (AN o.kind),.bool true])/\Chg d w' []) fun d=>by
  have:=Jm o.kind d;rwa[J]at this
 have F:=UD (∀d,Chg w d []->Cl prog 58 #[.string o.path] d (FA ts d)) fun d z=>by
  have:=D8 o.path d (t.kept z) M;have e:AU o.path d=FA ts d:=by funext e w';unfold AU;rw[K]
  rwa[e]at this
 have G:=UD (∀d bs,Chg w d bs->(∀b,b∈bs->10<=b)->Cl prog 58 #[.string o.frm] d (IU d)) fun d bs z hb=>by
  have:=D8 o.frm d (t.kept z hb) N;have e:AU o.frm d=IU d:=by funext e w';unfold AU;rw[L]
  rwa[e]at this
 obtain⟨k,x⟩:=Ue o.kind
 rw[O]at r;obtain⟨uv,P⟩:=Ue (AN o.kind)
 rw[<-P,<-x]at r;obtain⟨p,y⟩:=Ue o.path
 obtain⟨f,u⟩:=Ue o.frm
 rw[<-y]at F;rw[<-u]at G;rw[<-x,<-y,<-u];have BN:=UD (Ac (((w.alloc (.cells #[.int .i64 k,.string p,.string f,.slice a n c] 42)).alloc (.cells (Db 0 ⟨#[]⟩ ⟨#[]⟩ (.slice none 0 0)).toArray 111)).alloc (.cells (Db 0 ⟨#[]⟩ ⟨#[]⟩ (.slice none 0 0)).toArray 111)) (w.heap.size+1+1) (Db 0 ⟨#[]⟩ ⟨#[]⟩ (.slice none 0 0)) 111) (by have:=Ac.new ((w.alloc (.cells #[.int .i64 k,.string p,.string f,.slice a n c] 42)).alloc (.cells (Db 0 ⟨#[]⟩ ⟨#[]⟩ (.slice none 0 0)).toArray 111)) (Db 0 ⟨#[]⟩ ⟨#[]⟩ (.slice none 0 0)) 111;simpa using this);have ad:=UD (Ac (((w.alloc (.cells #[.int .i64 k,.string p,.string f,.slice a n c] 42)).alloc (.cells (Db 0 ⟨#[]⟩ ⟨#[]⟩ (.slice none 0 0)).toArray 111)).alloc (.cells (Db 0 ⟨#[]⟩ ⟨#[]⟩ (.slice none 0 0)).toArray 111)) w.heap.size (BJ ⟨k,p,f,[]⟩ (.slice a n c)) 42) (((Ac.new w (BJ ⟨k,p,f,[]⟩ (.slice a n c)) 42).alloc _).alloc _);clear J P x K t M N y u O L;go_enter func52,ntmps52
 go_wp2_with(first
  |(refine Ae rfl _ _ _ rfl (w.heap.size+1+1) (Db k p f (.slice a n c)) ZN ZN 111 (Db 0 ⟨#[]⟩ ⟨#[]⟩ (.slice none 0 0)) (by exact BN.o) Ce rfl (IK _ _ _ _ _ _) ?_;intro w0 Q H v;have ae:=hZ H;have af:=hZ Q;have H0:=UD (Chg w w0 []) (Chg.step (b:=_) (by exact cg cR) v (fun i hi hl=>by simp at hi;omega));have C:=UD (Ac w0 w.heap.size (BJ ⟨k,p,f,[]⟩ (.slice a n c)) 42) (Ac.kept (w:=_) (by exact ad.o) v (by simp;omega));have T:=C.o.cell 0;unfold BJ at T;simp only[Qa,Qb]at T;clear Q H v)
  |(go_at_call 90;refine(r.o _).mono ?_;rintro e w1 ⟨rfl,m⟩;have D:=UD (Chg w w1 []) (ct H0.o m);have l:=hZ (C.o.kept m);have aa:=hZ (ae.o.kept m);have U:=l.o.cell 1;have V:=l.o.cell 2;have W:=l.o.cell 3;unfold BJ at U V W;simp only[Qa,Qb]at U V W;clear m)
  |(go_at_call_of 53 (Vl.bool true);refine(Bv _ _).mono ?_;rintro e w2 ⟨rfl,rfl⟩)
  |(go_at_call_of 58 (Vl.string p);refine(F.o _ (by exact cg D.o)).mono ?_;rintro e R ⟨ag,rfl,A,q2,q⟩;have Q1:=hZ A;obtain⟨a1,c1,rfl,_⟩:=A.form;have g:=hZ (aa.o.kept q);have ab:=hZ (l.o.kept q);have Y:=g.o.cell 4;have z4:∀j,R.frozen? ⟨w.heap.size+1+1,j,none⟩=false:=fun j=>g.o.frozen j;have X:=ab.o.cell 2;unfold Db at Y;unfold BJ at X;simp only[Qa,Qb]at Y X;have E:=UD (Chg w R []) (ct D.o q);have l3:=g.o.lt;clear q A q2)
  |(go_at_call_of 58 (Vl.string f);refine(G.o _ [] (by exact E.o.setCell _ _ (by simp;omega)) Zh).mono ?_;rintro e S ⟨⟨te,xe,rfl⟩,s⟩;have B:=hZ (((g.o.set 4 (.slice a1 (Ad ts).length c1))).kept s);have Z:=B.o.cell 5;have z5:∀j,S.frozen? ⟨w.heap.size+1+1,j,none⟩=false:=fun j=>B.o.frozen j;unfold Db at Z;simp only[Qa,Qb,List.set_cons_zero,List.set_cons_succ]at Z;have H5:=UD (Chg w S []) (Chg.trans (b:=_) (by exact E.o.setCell _ _ (by simp;omega)) s);clear s)
  |(go_at_call_of 53 (Vl.bool false);refine(Bu _ _).mono ?_;rintro e w4 ⟨I,h⟩;unfold By at I;subst I;have H4:=UD (Chg w w4 []) (Chg.trans (b:=_) (by exact H5.o.setCell _ _ (by simp;omega)) h);clear h))
 exact⟨rfl,rfl,H4.o⟩
theorem Nd{k:Int}(h:AN k=true):AO k=false:=by
 unfold AN at h;unfold AO;simp only[Bool.or_eq_true,decide_eq_true_eq]at h
 rcases h with(h|h)|h<;>subst h<;>rfl
theorem TC(o:Bq)(a:Option Addr)(n c:Nat)(w:Wl)(H:Br w)(Q:o.path.size<=16777216)(N:CP o.kind=true)(ts:List BY)(P:AD o.path=some ts)(z:AN o.kind=true)(ys:List Vl)(I:As w (.slice a n c) 6 o.steps.length ys)(J:Az w o.steps ys)(K:∀s∈o.steps,Di s)(O:o.steps.length<=4294967296)(u:AS o.steps=none):
  Cl prog 52 #[.agg #[.int .i64 o.kind,.string o.path,.string o.frm,.slice a n c]] w (AZ 174 [] w):=by
 have t:=UD (∀d,Cl prog 90 #[.int .i64 o.kind] d fun e w'=>e= .returned (.tuple #[.bool (AO o.kind),.bool (AN o.kind),.bool true])/\Chg d w' []) fun d=>by
  have:=Jm o.kind d;rwa[N]at this
 have E:=UD (∀d,Chg w d []->Cl prog 58 #[.string o.path] d (FA ts d)) fun d q=>by
  have:=D8 o.path d (H.kept q) Q;have e:AU o.path d=FA ts d:=by funext e w';unfold AU;rw[P]
  rwa[e]at this
 have HB:=UD (∀d,Chg w d []->Cl prog 28 #[.slice a n c] d (fun e w'=>(∃(ti:Ti) (Z:Vl),e= .returned (.tuple #[.pointer none,.iface ti Z]))/\Chg d w' [])) fun d q=>by
  have:=Fk o.steps _ ys d (I.kept q) (J.kept q) K O;refine this.mono fun e w' h=> ?_
  unfold BO at h;unfold AS at u;rw[u]at h;exact h
 have R:=Nd z;obtain⟨k,x⟩:=Ue o.kind
 rw[R,z]at t;rw[<-x]at t;obtain⟨p,y⟩:=Ue o.path
 obtain⟨f,M⟩:=Ue o.frm
 rw[<-y]at E;rw[<-x,<-y,<-M];have BN:=UD (Ac (((w.alloc (.cells #[.int .i64 k,.string p,.string f,.slice a n c] 42)).alloc (.cells (Db 0 ⟨#[]⟩ ⟨#[]⟩ (.slice none 0 0)).toArray 111)).alloc (.cells (Db 0 ⟨#[]⟩ ⟨#[]⟩ (.slice none 0 0)).toArray 111)) (w.heap.size+1+1) (Db 0 ⟨#[]⟩ ⟨#[]⟩ (.slice none 0 0)) 111) (by have:=Ac.new ((w.alloc (.cells #[.int .i64 k,.string p,.string f,.slice a n c] 42)).alloc (.cells (Db 0 ⟨#[]⟩ ⟨#[]⟩ (.slice none 0 0)).toArray 111)) (Db 0 ⟨#[]⟩ ⟨#[]⟩ (.slice none 0 0)) 111;simpa using this);have ad:=UD (Ac (((w.alloc (.cells #[.int .i64 k,.string p,.string f,.slice a n c] 42)).alloc (.cells (Db 0 ⟨#[]⟩ ⟨#[]⟩ (.slice none 0 0)).toArray 111)).alloc (.cells (Db 0 ⟨#[]⟩ ⟨#[]⟩ (.slice none 0 0)).toArray 111)) w.heap.size (BJ ⟨k,p,f,[]⟩ (.slice a n c)) 42) (((Ac.new w (BJ ⟨k,p,f,[]⟩ (.slice a n c)) 42).alloc _).alloc _);clear N x P H Q y M R z I J K O u;go_enter func52,ntmps52
 go_wp2_with(first
  |(refine Ae rfl _ _ _ rfl (w.heap.size+1+1) (Db k p f (.slice a n c)) ZN ZN 111 (Db 0 ⟨#[]⟩ ⟨#[]⟩ (.slice none 0 0)) (by exact BN.o) Ce rfl (IK _ _ _ _ _ _) ?_;intro w0 S G v;have ae:=hZ G;have af:=hZ S;have H0:=UD (Chg w w0 []) (Chg.step (b:=_) (by exact cg cR) v (fun i hi hl=>by simp at hi;omega));have B:=UD (Ac w0 w.heap.size (BJ ⟨k,p,f,[]⟩ (.slice a n c)) 42) (Ac.kept (w:=_) (by exact ad.o) v (by simp;omega));have U:=B.o.cell 0;unfold BJ at U;simp only[Qa,Qb]at U;clear S G v)
  |(go_at_call 90;refine(t.o _).mono ?_;rintro e w1 ⟨rfl,l⟩;have C:=UD (Chg w w1 []) (ct H0.o l);have g:=hZ (B.o.kept l);have aa:=hZ (ae.o.kept l);have V:=g.o.cell 1;have W:=g.o.cell 2;have X:=g.o.cell 3;unfold BJ at V W X;simp only[Qa,Qb]at V W X;clear l)
  |(go_at_call_of 53 (Vl.bool true);refine(Bv _ _).mono ?_;rintro e w2 ⟨rfl,rfl⟩)
  |(go_at_call_of 58 (Vl.string p);refine(E.o _ (by exact cg C.o)).mono ?_;rintro e T ⟨ag,rfl,A,q2,m⟩;have Q1:=hZ A;obtain⟨a1,c1,rfl,_⟩:=A.form;have r:=hZ (aa.o.kept m);have ab:=hZ (g.o.kept m);have y4:=r.o.cell 4;have z4:∀j,T.frozen? ⟨w.heap.size+1+1,j,none⟩=false:=fun j=>r.o.frozen j;have Y:=ab.o.cell 3;unfold Db at y4;unfold BJ at Y;simp only[Qa,Qb]at y4 Y;have D:=UD (Chg w T []) (ct C.o m);have l3:=r.o.lt;clear m A q2)
  |(go_at_call 28;refine(HB.o _ (by exact D.o.setCell _ _ (by simp;omega))).mono ?_;rintro e w5 ⟨⟨te,Z,rfl⟩,F⟩;have H5:=UD (Chg w w5 []) (Chg.trans (b:=_) (by exact D.o.setCell _ _ (by simp;omega)) F);clear F)
  |(go_at_call_of 53 (Vl.bool false);refine(Bu _ _).mono ?_;rintro e w4 ⟨L,h⟩;unfold By at L;subst L;have H4:=UD (Chg w w4 []) (Chg.trans (b:=_) (by exact H5.o) h);clear h))
 exact⟨rfl,rfl,H4.o⟩
theorem gn{ks:List BY}{l:List Tr}{p:BY}{o:CW}(h:Xi ks l p= .yes o):
  ∃s,E4 ks l p SB= .yes s/\Ob s≠0/\o.kind=Ob s/\RL ks l p Fj= .yes o.path/\(AO (Ob s)=true->RL ks l p Oa= .yes o.frm)/\(AO (Ob s)=false->o.frm=Dz)/\
   (AN (Ob s)=true->C4 ks SZ=true/\o.steps=Ai (l.getD (A5 ks SZ) .null))/\(AN (Ob s)=false->o.steps=[]):=by
 unfold Xi at h
 cases g:E4 ks l p SB with
 |no e q=>rw[g]at h;cases h
 |yes s=>
  rw[g]at h;simp only at h;split at h
  .cases h
  .rename_i k
   refine⟨s,rfl,k, ?_⟩
   cases i:RL ks l p Fj with
   |no e q=>rw[i]at h;cases h
   |yes m=>
    rw[i]at h;simp only at h
    cases a:(if AO (Ob s)=true then RL ks l p Oa else .yes Dz)with
    |no e q=>rw[a]at h;cases h
    |yes f=>
     rw[a]at h;simp only at h
     have b:(AO (Ob s)=true->RL ks l p Oa= .yes f)/\(AO (Ob s)=false->f=Dz):=by
      constructor
      .intro d;rw[Qr d]at a;exact a
      .intro d;rw[Qs (by rw[d];simp)]at a;injection a with a;exact a.symm
     split at h
     .rename_i c
      split at h
      .rename_i j
       injection h with h
       subst h;exact⟨rfl,rfl,b.1,b.2,fun _=>⟨j,rfl⟩,fun e=>by rw[e]at c;cases c⟩
      .cases h
     .rename_i c
      injection h with h
      subst h;exact⟨rfl,rfl,b.1,b.2,fun e=>absurd e c,fun _=>rfl⟩
theorem fY{l:List Tr}(h:∀u∈l,Bt u):∀s,.text s∈l->s.size<=16777216:=fun s a=>by
 have:=(Ar (h _ a).fits).2.1;simp only[Ag]at this;omega
def fV(o:Bq)(w:Wl)(e:Ending)(w':Wl):Prop:=
 ∃sv ys G,e= .returned (.tuple #[.agg (BJ o sv).toArray,.nilIface])/\As w' sv 6 o.steps.length ys/\SE G sv/\Cr w' G o.steps ys/\(∀b,G b->w.heap.size<=b/\b<w'.heap.size)/\Chg w w' []
def gj:List Vl:=[.int .i64 0,.string ⟨#[]⟩,.string ⟨#[]⟩,.slice none 0 0]
theorem fU{w w2 d f:Wl}{o:CW}(h:Chg w d [])(j:Chg d f [w2.heap.size,w.heap.size])(l:w.heap.size<=w2.heap.size)(a:o.steps=[]):
  fV o.toI w (.returned (.tuple #[.agg (BJ o.toI (.slice none 0 0)).toArray,.nilIface])) f:=
 ⟨.slice none 0 0,[],fun _=>False,rfl,by unfold CW.toI;rw[a];exact⟨none,0,rfl,Q8 _,rfl,fun i v k=>by simp at k⟩,(fun b o n c e=>by cases e),by unfold CW.toI;rw[a];exact rfl,(fun b (g:False)=>g.elim),h.fresh j (fun i hi=>by simp at hi;omega)⟩
theorem gi(ks:List BY)(l:List Tr)(vs:List Vl)(F:Nat->Prop)(v:Option Addr)(c:Nat)(p:BY)(o:CW)(w:Wl)(hL:Br w)(ag:dM w)(h:eR ks l vs F v w)(Q:p.size<=1000)(hs:∀s,.text s∈l->s.size<=16777216)(ho:Xi ks l p= .yes o)(H:AN o.kind=false):
  Cl prog 71 #[.slice v ks.length c,.string p] w (fV o.toI w):=by
 obtain⟨s,i,f,d,g,m,O,h7,P⟩:=gn ho;rw[d]at H;have ah:=gg s;have hq:=fP s;obtain⟨k,hk⟩:=Ue (Ob s)
 rw[<-hk]at f d m O P H ah hq;have eo:o=⟨k,o.path,o.frm,[]⟩:=by cases o;simp only at d P|-;rw[d,P H]
 obtain⟨x,ab⟩:=Ue o.path
 obtain⟨N,aa⟩:=Ue o.frm
 rw[<-ab,<-aa]at eo;rw[<-ab]at g;rw[<-aa]at m O;subst eo;clear ab aa d P ho;have an:IntKind.i64.wrap (1+eN fG s)=(k:Int):=by rw[hq];exact IntWalk.i64_in _ ⟨Zj,Zj⟩
 obtain⟨q,ad⟩:=Ue (eN fG s)
 rw[<-ad]at an;have V:=UD (∀a,Chg w a []->Cl prog 118 #[.slice v ks.length c,.string p,.string SB] a (eW (.yes s) a)) fun a r=>by rw[<-i];exact fi ks l vs F v c p SB a (h.kept r) Q ZM
 have W:=UD (∀a,Chg w a []->Cl prog 120 #[.slice v ks.length c,.string p,.string Fj] a (eW (.yes x) a)) fun a r=>by rw[<-g];exact fS ks l vs F v c p Fj a (hL.kept r) (h.kept r) Q ZM hs
 have K:=UD (AO k=true->∀a,Chg w a []->Cl prog 120 #[.slice v ks.length c,.string p,.string Oa] a (eW (.yes N) a)) fun u a r=>by rw[<-m u];exact fS ks l vs F v c p Oa a (hL.kept r) (h.kept r) Q ZM hs
 have HI:=UD (∀Z a,Chg w a []->Cl prog 119 #[.slice (some ⟨0,0,none⟩) 6 Z,.string s] a fun e w'=>e= .returned (.int .i64 q)/\Chg a w' []) fun Z a r=>by rw[ad];exact fR s fG _ 0 Z a ZM (fQ (ag.kept r))
 have M:=UD (∀a,Cl prog 90 #[.int .i64 k] a fun e w'=>e= .returned (.tuple #[.bool (AO k),.bool false,.bool true])/\Chg a w' []) fun a=>by
  have:=Jm k a;rw[H,show CP k=true by unfold CP;simp;omega]at this;exact this
 obtain⟨n,hn⟩:=Ue ks.length
 rw[<-hn]at V W K|-;have S:=hZ O;clear h hL ag hs i f g m O h7 hq ad H ah hn Q hk
 cases u:AO k with
 |false=>
  rw[u]at M;have am:=S.o u;subst am;clear K S u;go_enter func71,ntmps71
  go_wp2_with(first
   |(go_at_call 118;refine(V.o _ (by exact cg cR)).mono ?_;rintro e I ⟨i,rfl⟩;have A:=UD (Chg w I []) (ct cR i);have X:=UD (Ac I w.heap.size gj 42) ((Ac.new w _ _).kept i);clear i)
   |(go_at_call 119;refine(HI.o _ _ A.o).mono ?_;rintro e w2 ⟨rfl,f⟩;have ai:=hZ f;have j:=hZ (A.o.trans f);have C:=hZ (X.o.kept f);have L:=UD (w.heap.size≠w2.heap.size) (by have:=C.o.lt;omega);clear f)
   |(go_at_call 90;refine(M.o _).mono ?_;rintro e J ⟨rfl,d⟩;have B:=UD (Chg w2 J []) (ct cR d);have Y:=UD (Ac J w2.heap.size [.int .i64 k,.string ⟨#[]⟩,.string ⟨#[]⟩,.slice none 0 0] 42) ((Ac.new w2 _ _).kept d);clear d)
   |(go_at_call 120;refine(W.o _ (j.o.trans B.o)).mono ?_;rintro e z ⟨g,rfl⟩;have y:=hZ (B.o.trans g);have D:=hZ (Y.o.kept g);obtain⟨x1,x2,x3,x4,x5,x6⟩:=Ac.cells4 D.o;clear g)
   |(refine Bp rfl _ _ rfl w2.heap.size ZN 42 (BJ (CW.toI ⟨k,x,Dz,[]⟩) (.slice none 0 0)) (by exact(D.o.set 1 (.string x))) _ underlying42 rfl A0 ?_)
   |(refine Ae rfl _ _ _ rfl w.heap.size (BJ (CW.toI ⟨k,x,Dz,[]⟩) (.slice none 0 0)) ZN ZN 42 gj (by exact(C.o.kept y.o).set_other _ _ L.o.symm) A0 rfl (Dx _ _ _ _) ?_;intro w6 ae E G;have T:=hZ E;have U:=UD (Chg z w6 [w2.heap.size,w.heap.size]) (Chg.trans (b:=_) ((Chg.refl z _).setCell _ _ Zh) (G.mono fun _ _ t=>by simp at t;simp[t]));clear ae E G))
  refine bodyPost_ret (Gn rfl _ _ w.heap.size 42 _ _ rfl T.o underlying42 rfl A0) rfl ?_;exact fU (w2:=w2) (j.o.trans y.o) U.o j.o.size rfl
 |true=>
  rw[u]at M;have ak:=hZ (K.o u);clear K S u;go_enter func71,ntmps71
  go_wp2_with(first
   |(go_at_call 120;have ao:=y.o;refine(ak.o _ ((j.o.trans y.o).setCell _ _ (by have:=j.o.size;simp;omega))).mono ?_;rintro e R ⟨m,rfl⟩;have af:=UD (Ac R w2.heap.size [.int .i64 k,.string x,.string ⟨#[]⟩,.slice none 0 0] 42) ((D.o.set 1 (.string x)).kept m);have aj:=UD (Chg z R [w2.heap.size]) (Chg.trans (b:=_) ((Chg.refl z _).setCell _ _ Zh) (m.none _));have al:=UD (Ac R w.heap.size gj 42) (((C.o.kept y.o).set_other _ _ L.o.symm).kept m);clear x1 x2 x3 x4 x5 x6;obtain⟨x1,x2,x3,x4,x5,x6⟩:=Ac.cells4 af.o;clear m)
   |(go_at_call 118;refine(V.o _ (by exact cg cR)).mono ?_;rintro e I ⟨i,rfl⟩;have A:=UD (Chg w I []) (ct cR i);have X:=UD (Ac I w.heap.size gj 42) ((Ac.new w _ _).kept i);clear i)
   |(go_at_call 119;refine(HI.o _ _ A.o).mono ?_;rintro e w2 ⟨rfl,f⟩;have ai:=hZ f;have j:=hZ (A.o.trans f);have C:=hZ (X.o.kept f);have L:=UD (w.heap.size≠w2.heap.size) (by have:=C.o.lt;omega);clear f)
   |(go_at_call 90;refine(M.o _).mono ?_;rintro e J ⟨rfl,d⟩;have B:=UD (Chg w2 J []) (ct cR d);have Y:=UD (Ac J w2.heap.size [.int .i64 k,.string ⟨#[]⟩,.string ⟨#[]⟩,.slice none 0 0] 42) ((Ac.new w2 _ _).kept d);clear d)
   |(go_at_call 120;refine(W.o _ (j.o.trans B.o)).mono ?_;rintro e z ⟨g,rfl⟩;have y:=hZ (B.o.trans g);have D:=hZ (Y.o.kept g);obtain⟨x1,x2,x3,x4,x5,x6⟩:=Ac.cells4 D.o;clear g)
   |(refine Bp rfl _ _ rfl w2.heap.size ZN 42 (BJ (CW.toI ⟨k,x,N,[]⟩) (.slice none 0 0)) (by exact(af.o.set 2 (.string N))) _ underlying42 rfl A0 ?_)
   |(refine Ae rfl _ _ _ rfl w.heap.size (BJ (CW.toI ⟨k,x,N,[]⟩) (.slice none 0 0)) ZN ZN 42 gj (by exact al.o.set_other _ _ L.o.symm) A0 rfl (Dx _ _ _ _) ?_;intro w6 ae E G;have T:=hZ E;have U:=UD (Chg z w6 [w2.heap.size,w.heap.size]) (Chg.trans (b:=_) (aj.o.mono (fun _ _ t=>by simp at t;simp[t])) (Chg.trans (b:=_) ((Chg.refl R _).setCell _ _ Zh) (G.mono fun _ _ t=>by simp at t;simp[t])));clear ae E G))
  refine bodyPost_ret (Gn rfl _ _ w.heap.size 42 _ _ rfl T.o underlying42 rfl A0) rfl ?_;exact fU (w2:=w2) (j.o.trans y.o) U.o j.o.size rfl
theorem gp(ks:List BY)(l:List Tr)(vs:List Vl)(F:Nat->Prop)(la:Option Addr)(c:Nat)(p:BY)(o:CW)(w:Wl)(hL:Br w)(ar:dM w)(h:eR ks l vs F la w)(hp:p.size<=1000)(Z:∀u∈l,Bt u)(ho:Xi ks l p= .yes o)(E:AN o.kind=true):
  Cl prog 71 #[.slice la ks.length c,.string p] w (fV o.toI w):=by
 obtain⟨s,t,r,m,z,C,H,h7,h8⟩:=gn ho;rw[m]at E;have Q:=Nd E;obtain⟨hh,P⟩:=h7 E;have ad:=H Q;have hs:=fY Z;have aw:=gg s;have A:=fP s;obtain⟨b,oa,ti,xi,rfl,aa,c1,af⟩:=h.at_ hh;have av:eN ks SZ=(A5 ks SZ:Int):=by unfold eN;rw[Qr hh]
 have ag:l.getD (A5 ks SZ) .null∈l:=by
  rw[List.getD_eq_getElem?_getD,Q9 (by rw[<-h.len];exact aa),Option.getD_some];exact List.getElem_mem _
 obtain⟨x,j⟩:=Ue (l.getD (A5 ks SZ) .null)
 rw[<-j]at af ag P;have O:=Z x ag;obtain⟨k,hk⟩:=Ue (Ob s)
 rw[<-hk]at r m E Q aw A;have eo:o=⟨k,o.path,Dz,Ai x⟩:=by cases o;simp only at m P ad|-;rw[m,P,ad]
 obtain⟨I,ax⟩:=Ue o.path
 rw[<-ax]at eo z;subst eo;have aM:IntKind.i64.wrap (1+eN fG s)=(k:Int):=by rw[A];exact IntWalk.i64_in _ ⟨Zj,Zj⟩
 obtain⟨q,ae⟩:=Ue (eN fG s)
 rw[<-ae]at aM;have HM:=UD (∀a,Chg w a []->Cl prog 118 #[.slice (some ⟨b,oa,none⟩) ks.length c,.string p,.string SB] a (eW (.yes s) a)) fun a j=>by rw[<-t];exact fi ks l vs F _ c p SB a (h.kept j) hp ZM
 have HP:=UD (∀a,Chg w a []->Cl prog 120 #[.slice (some ⟨b,oa,none⟩) ks.length c,.string p,.string Fj] a (eW (.yes I) a)) fun a j=>by rw[<-z];exact fS ks l vs F _ c p Fj a (hL.kept j) (h.kept j) hp ZM hs
 have HI:=UD (∀V a,Chg w a []->Cl prog 119 #[.slice (some ⟨0,0,none⟩) 6 V,.string s] a fun e w'=>e= .returned (.int .i64 q)/\Chg a w' []) fun V a j=>by rw[ae];exact fR s fG _ 0 V a ZM (fQ (ar.kept j))
 have HU:=UD (∀a,Cl prog 90 #[.int .i64 k] a fun e w'=>e= .returned (.tuple #[.bool false,.bool true,.bool true])/\Chg a w' []) fun a=>by
  have:=Jm k a;rw[E,Q,show CP k=true by unfold CP;simp;omega]at this;exact this
 have T:=UD (∀a,Chg w a []->Cl prog 121 #[.slice (some ⟨b,oa,none⟩) ks.length c,.func (.func 122) #[] #[]] a fun e w'=>e= .returned (.int .i64 (A5 ks SZ:Int))/\Chg a w' []) fun a j=>by
  rw[<-av];exact eV 122 #[] SZ ks vs F _ c a (by rw[h.len,h.kids.length]) (by have:=h.many;omega) (h.kept j).row h.boxed (fun _ _=>Yb) fun wy k ti xi d=>eQ k ti xi wy
 have aE:=UD (∀a,Chg w a []->Cl prog 76 #[.iface ti xi] a (SF x a)) fun a hw=>ab _ x F _ a (Q8 _) (Ar O.fits).1 (Hm.kept (hw.keepsF h.lt) (fun _ h=>h) _ _ af) (fun y d=>Q6 (h.lt y d) hw.size)
 have aI:=UD (∀a v bs,AP a x v bs->∃f args,(callMethod v EB #[.slice none 0 0]).run prog a= .ok (.enter f args) a/\Cl prog f args a fun e w'=>∃sv,e= .returned sv/\LN x a sv w') fun a v bs h=>Le O.good O.fits h
 obtain⟨n,hn⟩:=Ue ks.length
 obtain⟨pl,ay⟩:=Ue (A5 ks SZ)
 rw[<-hn]at HM HP T aa|-;rw[<-ay]at T aa c1;have aA:=hZ c1;clear h hL ar hs t r m z C H h7 h8 A ae E Q aw hn hp hk ho hh P ad c1 af av ag j O ay ax Z;go_enter func71,ntmps71
 go_wp2_with(first
  |(go_at_call 118;refine(HM.o _ (by exact cg cR)).mono ?_;rintro e w1 ⟨t,rfl⟩;have H1:=UD (Chg w w1 []) (ct cR t);have aF:=UD (Ac w1 w.heap.size gj 42) ((Ac.new w _ _).kept t);clear t)
  |(go_at_call 119;refine(HI.o _ _ H1.o).mono ?_;rintro e w2 ⟨rfl,r⟩;have aO:=hZ r;have B:=hZ (H1.o.trans r);have U:=hZ (aF.o.kept r);have al:=UD (w.heap.size≠w2.heap.size) (by have:=U.o.lt;omega);clear r)
  |(go_at_call 90;refine(HU.o _).mono ?_;rintro e w3 ⟨rfl,m⟩;have ah:=UD (Chg w2 w3 []) (ct cR m);have aJ:=UD (Ac w3 w2.heap.size [.int .i64 k,.string ⟨#[]⟩,.string ⟨#[]⟩,.slice none 0 0] 42) ((Ac.new w2 _ _).kept m);clear m)
  |(go_at_call 120;refine(HP.o _ (B.o.trans ah.o)).mono ?_;rintro e w4 ⟨z,rfl⟩;have R:=hZ (ah.o.trans z);have an:=hZ (aJ.o.kept z);obtain⟨x1,x2,x3,x4,x5,x6⟩:=Ac.cells4 an.o;clear z)
  |(go_at_call 121;refine(T.o _ ((B.o.trans R.o).setCell _ _ (by have:=B.o.size;simp;omega))).mono ?_;rintro e L ⟨rfl,C⟩;have ao:=UD (Ac L w2.heap.size [.int .i64 k,.string I,.string ⟨#[]⟩,.slice none 0 0] 42) ((an.o.set 1 (.string I)).kept C);have aG:=UD (Ac L w.heap.size gj 42) (((U.o.kept R.o).set_other _ _ al.o.symm).kept C);have M:=UD (Chg w L []) (((B.o.trans R.o).setCell _ _ (by have:=B.o.size;simp;omega)).trans C);have c5:=M.o.keeps aA.o;clear x1 x2 x3 x4 x5 x6 C)
  |(go_at_call 76;refine(aE.o L M.o).mono ?_;rintro e w6 ⟨v,bs,rfl,A,_,H⟩;obtain⟨tv,xv,rfl⟩:=A.iface;obtain⟨f,args,m1,d1⟩:=aI.o w6 _ bs A;have aD:=hZ m1;have aB:=hZ d1;have ai:=hZ H;clear A m1 d1 H c5)
  |(refine Ft rfl _ _ _ _ rfl (.iface tv xv) (.slice none 0 0) ZN ZN f args aD.o _ aB.o ?_;rintro e w7 ⟨sv,rfl,Y⟩;refine⟨_,rfl, ?_⟩;obtain⟨G,xs,W,g2,g3,g4⟩:=Y.ex;obtain⟨J,K,rfl⟩:=W.slots;have ak:=hZ W;have am:=hZ g2;have aC:=hZ g3;have aj:=hZ g4;have S:=hZ (ai.o.trans Y.chg);have aK:=UD (L.heap.size<=w6.heap.size) ai.o.size;have ap:=hZ (ao.o.kept S.o);have aH:=hZ (aG.o.kept S.o);obtain⟨x1,x2,x3,x4,x5,x6⟩:=Ac.cells4 ap.o;clear Y W g2 g3 g4)
  |(refine Bp rfl _ _ rfl w2.heap.size ZN 42 (BJ (CW.toI ⟨k,I,Dz,Ai x⟩) (.slice J (Ag x).nodes K)) (by exact(ap.o.set 3 (.slice J (Ag x).nodes K))) _ underlying42 rfl A0 ?_)
  |(refine Ae rfl _ _ _ rfl w.heap.size (BJ (CW.toI ⟨k,I,Dz,Ai x⟩) (.slice J (Ag x).nodes K)) ZN ZN 42 gj (by exact aH.o.set_other _ _ al.o.symm) A0 rfl (Dx _ _ _ _) ?_;intro w9 aN aq au;have az:=hZ aq;have N:=UD (Chg w7 w9 [w2.heap.size,w.heap.size]) (Chg.trans (b:=_) ((Chg.refl w7 _).setCell _ _ Zh) (au.mono fun _ _ D=>by simp at D;simp[D]));clear aN aq au))
 refine bodyPost_ret (Gn rfl _ _ w.heap.size 42 _ _ rfl az.o underlying42 rfl A0) rfl ?_;have z2:=B.o.size;have l2:=ao.o.lt;have l1:=U.o.lt;have z6:=aK.o;have z9:=N.o.size;have X:∀y,G y->w6.heap.size<=y/\y<w7.heap.size:=aC.o
 have aL:=ak.o.kept N.o (fun g hg D=>by have:=(aj.o g hg).1;simp at D;omega);refine⟨.slice J (Ag x).nodes K,xs,fun y=>G y\/(Vl.slice J (Ag x).nodes K).ownBlock=some y,rfl, ?_,fun b o n c e=> ?_,Cr.kept (N.o.keepsF (fun y d=>(X y d).2) (fun y D d=>by have:=(X y d).1;simp at D;omega)) (fun _ h=> .inl h) am.o,fun y d=> ?_,(M.o.trans S.o).fresh N.o (fun i hi=>by simp at hi;omega)⟩
 .show As w9 _ 6 (MW x).length xs
  rw[Ju];exact aL.rowC (by rw[am.o.toR.length,Ju])
 .injection e with e1 _ _
  exact .inr (by rw[e1];rfl)
 .have z5:=M.o.size
  rcases d with d|d
  .have:=X y d;omega
  .have t:=(aj.o y d).1;have r:=ak.o.lt d;omega
theorem gq(ks:List BY)(l:List Tr)(vs:List Vl)(F:Nat->Prop)(a:Option Addr)(c:Nat)(p:BY)(o:CW)(w:Wl)(b:Br w)(d:dM w)(h:eR ks l vs F a w)(g:p.size<=1000)(e:∀u∈l,Bt u)(f:Xi ks l p= .yes o):
  Cl prog 71 #[.slice a ks.length c,.string p] w (fV o.toI w):=by
 cases i:AN o.kind with
 |true=>exact gp ks l vs F a c p o w b d h g e f i
 |false=>exact gi ks l vs F a c p o w b d h g (fY e) f i
def I8(o:Bq)(h g:List BY)(x:Tr)(sv:Vl)(w:Wl)(e:Ending)(w':Wl):Prop:=
 ∃slp d f c F a,e= .returned (.agg #[.int .i64 o.kind,.string o.path,.string o.frm,sv,slp,d,f])/\UH w' o h g x slp d f c F a/\BP w c/\(∀b,F b->w.heap.size<=b)/\(∀b,a b->w.heap.size<=b)/\(∀b,b∈c->¬F b/\¬a b)/\Chg w w' []/\(d.oneCell'=true/\f.oneCell'=true)
theorem LL{i w':Wl}{d:Vl}{ts:List BY}{s:BY}(h:AK i d 9 (Ad ts))(g:AD s=some ts)(l:s.size<=16777216)(f:Chg i w' []):JC w' (fun b=>d.ownBlock=some b) d ts:=
 ⟨(h.kept f).rowAt (fun _ e=>e),fun b k=>Q6 (h.lt k) f.size,PK g Zj,fun t m=>Q7 (Lf g t m) l,fun a n c e=>by
  obtain⟨o,p,j,_⟩:=h.form;rw[j]at e h;have v:=h.capLe.2
  injection e with q r u
  omega⟩
theorem RG(o:Bq)(a:Option Addr)(n c:Nat)(w:Wl)(T:Br w)(H:o.path.size<=16777216)(W:o.frm.size<=16777216)(V:CP o.kind=true)(ts:List BY)(x:AD o.path=some ts)(I:AO o.kind=false)(J:AN o.kind=false):
  Cl prog 52 #[.agg #[.int .i64 o.kind,.string o.path,.string o.frm,.slice a n c]] w (I8 o ts [] .null (.slice a n c) w):=by
 have C:=UD (∀d,Cl prog 90 #[.int .i64 o.kind] d fun e w'=>e= .returned (.tuple #[.bool (AO o.kind),.bool (AN o.kind),.bool true])/\Chg d w' []) fun d=>by
  have:=Jm o.kind d;rwa[V]at this
 have P:=UD (∀d,Chg w d []->Cl prog 58 #[.string o.path] d (FA ts d)) fun d hx=>by
  have:=D8 o.path d (T.kept hx) H;have e:AU o.path d=FA ts d:=by funext e w';unfold AU;rw[x]
  rwa[e]at this
 have HT:=UD (∀(z:Vl) (q w':Wl),AK q z 9 (Ad ts)->Chg q w' []->JC w' (fun b=>z.ownBlock=some b) z ts) fun z q w' l h2=>LL l x H h2
 have am:=hZ x;have Q:=hZ I;have ao:=hZ J;have an:=hZ W;obtain⟨k,v⟩:=Ue o.kind
 rw[I,J]at C;rw[<-v]at C;obtain⟨p,y⟩:=Ue o.path
 obtain⟨f,D⟩:=Ue o.frm
 rw[<-y]at P;have ak:=hZ v;have al:=hZ y;have aj:=hZ D;rw[<-v,<-y,<-D];have BN:=UD (Ac (((w.alloc (.cells #[.int .i64 k,.string p,.string f,.slice a n c] 42)).alloc (.cells (Db 0 ⟨#[]⟩ ⟨#[]⟩ (.slice none 0 0)).toArray 111)).alloc (.cells (Db 0 ⟨#[]⟩ ⟨#[]⟩ (.slice none 0 0)).toArray 111)) (w.heap.size+1+1) (Db 0 ⟨#[]⟩ ⟨#[]⟩ (.slice none 0 0)) 111) (by have:=Ac.new ((w.alloc (.cells #[.int .i64 k,.string p,.string f,.slice a n c] 42)).alloc (.cells (Db 0 ⟨#[]⟩ ⟨#[]⟩ (.slice none 0 0)).toArray 111)) (Db 0 ⟨#[]⟩ ⟨#[]⟩ (.slice none 0 0)) 111;simpa using this);have ae:=UD (Ac (((w.alloc (.cells #[.int .i64 k,.string p,.string f,.slice a n c] 42)).alloc (.cells (Db 0 ⟨#[]⟩ ⟨#[]⟩ (.slice none 0 0)).toArray 111)).alloc (.cells (Db 0 ⟨#[]⟩ ⟨#[]⟩ (.slice none 0 0)).toArray 111)) (w.heap.size+1) (Db 0 ⟨#[]⟩ ⟨#[]⟩ (.slice none 0 0)) 111) ((CH w _ _ _).alloc _);have ag:=UD (Ac (((w.alloc (.cells #[.int .i64 k,.string p,.string f,.slice a n c] 42)).alloc (.cells (Db 0 ⟨#[]⟩ ⟨#[]⟩ (.slice none 0 0)).toArray 111)).alloc (.cells (Db 0 ⟨#[]⟩ ⟨#[]⟩ (.slice none 0 0)).toArray 111)) w.heap.size (BJ ⟨k,p,f,[]⟩ (.slice a n c)) 42) (((Ac.new w (BJ ⟨k,p,f,[]⟩ (.slice a n c)) 42).alloc _).alloc _);clear V v x T H W y D I J;go_enter func52,ntmps52
 go_wp2_with(first
  |(refine Ae rfl _ _ _ rfl (w.heap.size+1+1) (Db k p f (.slice a n c)) ZN ZN 111 (Db 0 ⟨#[]⟩ ⟨#[]⟩ (.slice none 0 0)) (by exact BN.o) Ce rfl (IK _ _ _ _ _ _) ?_;intro w0 X R u;have ah:=hZ R;have au:=hZ X;have H0:=UD (Chg w w0 []) (Chg.step (b:=_) (by exact cg cR) u (fun i hi hl=>by simp at hi;omega));have M:=UD (Ac w0 w.heap.size (BJ ⟨k,p,f,[]⟩ (.slice a n c)) 42) (Ac.kept (w:=_) (by exact ag.o) u (by simp;omega));have aa:=UD (Ac w0 (w.heap.size+1) (Db 0 ⟨#[]⟩ ⟨#[]⟩ (.slice none 0 0)) 111) (Ac.kept (w:=_) (by exact ae.o) u Zh);have x0:=M.o.cell 0;unfold BJ at x0;simp only[Qa,Qb]at x0;clear X R u)
  |(go_at_call 90;refine(C.o _).mono ?_;rintro e Z ⟨rfl,l⟩;have B:=UD (Chg w Z []) (ct H0.o l);have t:=hZ (M.o.kept l);have L:=hZ (ah.o.kept l);have ab:=hZ (aa.o.kept l);have x1:=t.o.cell 1;have x2:=t.o.cell 2;have x3:=t.o.cell 3;unfold BJ at x1 x2 x3;simp only[Qa,Qb]at x1 x2 x3;clear l)
  |(go_at_call_of 53 (Vl.bool true);refine(Bv _ _).mono ?_;rintro e w2 ⟨rfl,rfl⟩)
  |(go_at_call_of 58 (Vl.string p);refine(P.o _ (by exact cg B.o)).mono ?_;rintro e q ⟨ay,rfl,K,Y,r⟩;have Q1:=hZ K;obtain⟨h,c1,rfl,_⟩:=K.form;have s:=hZ (L.o.kept r);have af:=hZ (t.o.kept r);have ad:=hZ (ab.o.kept r);have y4:=s.o.cell 4;have z4:∀j,q.frozen? ⟨w.heap.size+1+1,j,none⟩=false:=fun j=>s.o.frozen j;have x5:=af.o.cell 2;unfold Db at y4;unfold BJ at x5;simp only[Qa,Qb]at y4 x5;have N:=UD (Chg w q []) (ct B.o r);have l3:=s.o.lt;have Q2:=hZ Y;have ar:=hZ r;clear r K Y)
  |(refine Bp rfl _ _ rfl (w.heap.size+1+1) ZN 111 [.int .i64 k,.string p,.string f,.slice a n c,.slice h (Ad ts).length c1,.slice none 0 0,.nilIface] (by exact s.o.set 4 (.slice h (Ad ts).length c1)) _ underlying111 rfl Ce ?_)
  |(refine Ae rfl _ _ _ rfl (w.heap.size+1) [.int .i64 k,.string p,.string f,.slice a n c,.slice h (Ad ts).length c1,.slice none 0 0,.nilIface] ZN ZN 111 (Db 0 ⟨#[]⟩ ⟨#[]⟩ (.slice none 0 0)) (by exact ad.o.set_other _ _ Zh) Ce rfl (by simp[Vl.oneCell']) ?_;intro A aq S U;have ai:=hZ S;have O:=hZ U;clear aq S U))
 have ax:=N.o.size;have av:=L.o.lt;have F:∀b,(Vl.slice h (Ad ts).length c1).ownBlock=some b->Z.heap.size<=b:=fun b m=>Q2.o.ge b (by rw[m];simp)
 have aw:=B.o.size;have ap:AK A (.slice h (Ad ts).length c1) 9 (Ad ts):=(Q1.o.kept ((Chg.refl q [w.heap.size+1+1]).setCell ⟨w.heap.size+1+1,4,none⟩ (.slice h (Ad ts).length c1) Zh) (fun g E G=>by have:=F g E;simp at G;omega)).kept O.o (fun g E G=>by have:=F g E;simp at G;omega);refine bodyPost_ret (Bi rfl _ _ (w.heap.size+1) 111 [.int .i64 k,.string p,.string f,.slice a n c,.slice h (Ad ts).length c1,.slice none 0 0,.nilIface] _ rfl ai.o underlying111 rfl Ce) rfl ?_;have e1:=ak.o;have e2:=al.o;have e3:=aj.o;subst e1 e2 e3;have hC:Chg w A []:=Chg.step (b:=_) (by exact N.o.setCell _ _ (by simp;omega)) O.o (fun i hi hl=>by simp at hi;omega);refine⟨_,_,_,[],(fun b=>(Vl.slice h (Ad ts).length c1).ownBlock=some b),(fun _=>False),rfl,⟨?_,(fun e=>by rw[Q.o]at e;cases e),(fun e=>by rw[ao.o]at e;cases e),am.o,(fun e=>by rw[Q.o]at e;cases e),an.o⟩,BP.nil _,(fun b m=> ?_),(fun b m=>m.elim),(fun b m=>by cases m),hC,rfl,rfl⟩
 .exact HT.o _ A A ap cR
 .have:=F b m;omega
end
end Go.Proofs.YtkfnkppdhcaeoaaGreatDoor

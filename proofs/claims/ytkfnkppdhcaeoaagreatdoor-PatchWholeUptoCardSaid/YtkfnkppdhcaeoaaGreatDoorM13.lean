/- Part 13 of the proof of patchJoined_card. -/
import Derived.Deep.CutRange
import Derived.Laws.Bits64b
import Derived.Test.YtkfnkppdhcaeoaaGreatDoorM11
set_option maxRecDepth 100000
set_option maxHeartbeats 32000000
set_option linter.unusedSimpArgs false
set_option linter.unusedVariables false
set_option linter.unnecessarySimpa false
namespace Go.Proofs.YtkfnkppdhcaeoaaGreatDoor
open Go renaming Calls->Cl,TypeId->Ti,Value->Vl,World->Wl
section
open Go Go.RowKit Tree
def LP(w:Wl)(F:Nat->Prop)(a:Option Addr)(xs:List Vl):Prop:=xs=[]\/∃b o,a=some ⟨b,o,none⟩/\F b/\∀i v,xs[i]? =some v->w.cell? ⟨b,o+i,none⟩=some v
mutual
def AL (w:Wl) (F:Nat->Prop):Tr->List Vl->Prop
 | .null,cs=>∃la lc ka kc,cs=vC 1 false 0 Dz (.slice la 0 lc) (.slice ka 0 kc)
 | .flag b,cs=>∃la lc ka kc,cs=vC 2 b 0 Dz (.slice la 0 lc) (.slice ka 0 kc)
 | .num n,cs=>∃la lc ka kc,cs=vC 3 false n Dz (.slice la 0 lc) (.slice ka 0 kc)
 | .text s,cs=>∃la lc ka kc,cs=vC 4 false 0 s (.slice la 0 lc) (.slice ka 0 kc)
 | .list l,cs=>∃la lc ka kc xs,cs=vC 5 false 0 Dz (.slice la l.length lc) (.slice ka 0 kc)/\LP w F la xs/\Aq w F l xs
 | .obj ks l,cs=>∃la lc ka kc xs,cs=vC 6 false 0 Dz (.slice la l.length lc) (.slice ka ks.length kc)/\ks.length=l.length/\Ax w F (.slice ka ks.length kc) (Ad ks)/\LP w F la xs/\Aq w F l xs
def Aq (w:Wl) (F:Nat->Prop):List Tr->List Vl->Prop
 |[],xs=>xs=[]
 |t::l,xs=>∃c r,xs=c++r/\AL w F t c/\Aq w F l r
end
theorem LP.kept{w w':Wl}{F G:Nat->Prop}{c:Option Addr}{xs:List Vl}(h:LP w F c xs)(g:BZ F w w')(f:∀b,F b->G b):LP w' G c xs:=by
 rcases h with h|⟨b,o,d,a,e⟩
 .exact .inl h
 .exact .inr ⟨b,o,d,f b a,fun i v j=>(g b _ a).trans (e i v j)⟩
mutual
theorem AL.kept {w w':Wl} {F G:Nat->Prop} (hk:BZ F w w') (hF:∀b,F b->G b):∀(t:Tr) (v:List Vl),AL w F t v->AL w' G t v
 | .null,_,h=>by simp only[AL]at h|-;exact h
 | .flag _,_,h=>by simp only[AL]at h|-;exact h
 | .num _,_,h=>by simp only[AL]at h|-;exact h
 | .text _,_,h=>by simp only[AL]at h|-;exact h
 | .list l,v,h=>by
  simp only[AL]at h|-;obtain⟨la,lc,ka,kc,xs,h1,h2,h3⟩:=h;exact⟨la,lc,ka,kc,xs,h1,h2.kept hk hF,Aq.kept hk hF l xs h3⟩
 | .obj ks l,v,h=>by
  simp only[AL]at h|-;obtain⟨la,lc,ka,kc,xs,h1,h0,h2,h3,h4⟩:=h;exact⟨la,lc,ka,kc,xs,h1,h0,h2.kept hk hF,h3.kept hk hF,Aq.kept hk hF l xs h4⟩
theorem Aq.kept {w w':Wl} {F G:Nat->Prop} (hk:BZ F w w') (hF:∀b,F b->G b):∀(l:List Tr) (xs:List Vl),Aq w F l xs->Aq w' G l xs
 |[],_,h=>by simp only[Aq]at h|-;exact h
 |t::l,xs,h=>by
  simp only[Aq]at h|-;obtain⟨c,r,h1,h2,h3⟩:=h;exact⟨c,r,h1,AL.kept hk hF t c h2,Aq.kept hk hF l r h3⟩
end
theorem AL.uni{w:Wl}{F:Nat->Prop}{t:Tr}{cs:List Vl}(h:AL w F t cs):
  ∃d e a c xs,cs=vC (Aa t).sort (Aa t).flag (Aa t).bits (Aa t).text (.slice d (Ab t).length e) (.slice a (Aa t).keys.length c)/\
   Ax w F (.slice a (Aa t).keys.length c) (Ad (Aa t).keys)/\LP w F d xs/\Aq w F (Ab t) xs/\(Aa t).count=(if(Aa t).sort=5 then(Ab t).length else 0):=by
 cases t with
 |null=>simp only[AL]at h;obtain⟨d,e,a,c,rfl⟩:=h;exact⟨d,e,a,c,[],rfl,.inl ⟨rfl,_,_,rfl⟩,.inl rfl,by simp[Ab,Aq],rfl⟩
 |flag b=>simp only[AL]at h;obtain⟨d,e,a,c,rfl⟩:=h;exact⟨d,e,a,c,[],rfl,.inl ⟨rfl,_,_,rfl⟩,.inl rfl,by simp[Ab,Aq],rfl⟩
 |num n=>simp only[AL]at h;obtain⟨d,e,a,c,rfl⟩:=h;exact⟨d,e,a,c,[],rfl,.inl ⟨rfl,_,_,rfl⟩,.inl rfl,by simp[Ab,Aq],rfl⟩
 |text s=>simp only[AL]at h;obtain⟨d,e,a,c,rfl⟩:=h;exact⟨d,e,a,c,[],rfl,.inl ⟨rfl,_,_,rfl⟩,.inl rfl,by simp[Ab,Aq],rfl⟩
 |list l=>simp only[AL]at h;obtain⟨d,e,a,c,xs,rfl,f,g⟩:=h;exact⟨d,e,a,c,xs,rfl,.inl ⟨rfl,_,_,rfl⟩,f,g,rfl⟩
 |obj ks l=>simp only[AL]at h;obtain⟨d,e,a,c,xs,rfl,_,f,g,i⟩:=h;exact⟨d,e,a,c,xs,rfl,f,g,i,rfl⟩
theorem AL.length{w:Wl}{F:Nat->Prop}{t:Tr}{cs:List Vl}(h:AL w F t cs):cs.length=6:=by
 obtain⟨_,_,_,_,_,rfl,_⟩:=h.uni;rfl
theorem Aq.get{w:Wl}{F:Nat->Prop}:∀{l:List Tr} {xs:List Vl},Aq w F l xs->∀(i:Nat) (t:Tr),l[i]? =some t->∃c,AL w F t c/\∀j v,c[j]? =some v->xs[6*i+j]? =some v
 |[],_,_,i,t,a=>by simp at a
 |p::l,xs,h,i,t,a=>by
  simp only[Aq]at h;obtain⟨c,r,f,d,g⟩:=h;subst f
  cases i with
  |zero=>
   simp at a;subst a;refine⟨c,d,fun j v b=> ?_⟩;have k:j<c.length:=(Qc.1 b).1;rw[Nat.mul_zero,Nat.zero_add,List.getElem?_append_left k,b]
  |succ i=>
   obtain⟨e,m,n⟩:=g.get i t (by simpa using a);have o:=d.length;refine⟨e,m,fun j v b=> ?_⟩;rw[List.getElem?_append_right (by omega),<-n j v b]
   congr 1
   omega
theorem Aq.length{w:Wl}{F:Nat->Prop}:∀{l:List Tr} {xs:List Vl},Aq w F l xs->xs.length=6*l.length
 |[],xs,h=>by simp only[Aq]at h;subst h;rfl
 |t::l,xs,h=>by
  simp only[Aq]at h;obtain⟨c,r,a,b,d⟩:=h;subst a;have:=b.length;have:=d.length;simp;omega
theorem Ba.rowN{w:Wl}{a:Option Addr}{n c sz:Nat}{e:Ti}{xs:List Vl}{F:Nat->Prop}(h:Ba w (.slice a n c) e sz n xs)(f:xs.length=n*sz)(l:∀g,(Vl.slice a n c).ownBlock=some g->F g):LP w F a xs:=by
 by_cases d:xs=[]
 .exact .inl d
 .obtain⟨p,q,j,m⟩:=h.form
  injection j with k _ _
  subst k
  obtain⟨g,rfl⟩:=m (by
   rcases Nat.eq_zero_or_pos n with b|b
   .rw[b,Nat.zero_mul]at f;exact absurd (List.eq_nil_of_length_eq_zero f) d
   .exact b)
  exact .inr ⟨g,0,rfl,l g rfl,fun i v o=>by rw[Nat.zero_add];exact h.cell rfl i v o⟩
end
section
open _root_.Go.Proofs.Tryz
open Go Go.RowKit Tree
def PN:Vl:= .agg #[.int .i64 0,.bool false,.int .u64 0,.string ⟨#[]⟩,.int .i64 0,.slice none 0 0]
theorem GO:(prog.info? 158).map (fun i=>(i.zero,i.size,i.bytes))=some (some PN,6,72):=by kernel_rfl
theorem YU(t:Tr):Ag t=⟨1+(Bk (Ab t)).nodes,(Aa t).text.size+Ay (Aa t).keys+(Bk (Ab t)).bytes,(Bk (Ab t)).depth+1⟩:=by
 cases t<;>simp[Ag,Ab,Aa,Bk,Sz.over,Ay,Dz]<;>rfl
theorem AL.keysLen{w:Wl}{F:Nat->Prop}{t:Tr}{cs:List Vl}(h:AL w F t cs):(Aa t).keys.length<=(Ab t).length:=by
 cases t with
 |obj ks l=>simp only[AL]at h;obtain⟨_,_,_,_,_,_,a,_⟩:=h;exact Nat.le_of_eq a
 |_=>simp[Aa]
theorem PJ(l:List Tr)(i:Nat):(Bk (l.take i)).nodes<=(Bk l).nodes/\(Bk (l.take i)).bytes<=(Bk l).bytes/\(Bk (l.take i)).depth<=(Bk l).depth:=by
 have h:=congrArg (fun s=>Bk s) (List.take_append_drop i l);simp only[G4,Sz.add]at h;rw[<-h];exact⟨by simp,by simp,by simp;omega⟩
theorem Zu{l:List Tr}{i:Nat}{t:Tr}(h:l[i]? =some t):(Ag t).nodes<=(Bk l).nodes/\(Ag t).bytes<=(Bk l).bytes/\(Ag t).depth<=(Bk l).depth:=by
 have a:=PJ l (i+1);rw[BM h]at a;simp only[Sz.add]at a;omega
theorem FH{ks:List BY}{i:Nat}{s:BY}(h:ks[i]? =some s):Ay (ks.take (i+1))=Ay (ks.take i)+s.size:=by
 unfold Ay;rw[List.take_add_one,h];simp
theorem OV(ks:List BY)(i:Nat):Ay (ks.take i)<=Ay ks:=by
 have h:=congrArg Ay (List.take_append_drop i ks);unfold Ay at*;simp only[List.map_append,List.sum_append]at h;omega
theorem XA:∀(k:Nat) (t:Tr) (F:Nat->Prop) (cs:List Vl) (w:Wl),(Ag t).nodes<=k->(Ag t).nodes<=1099511627776->(Ag t).bytes<=1152921504606846976->(Ag t).depth<=1099511627776->AL w F t cs->(∀b,F b->b<w.heap.size)->
  Cl prog 95 #[.agg cs.toArray] w fun e w'=>e= .returned (.tuple #[.int .i64 (Ag t).nodes,.int .i64 (Ag t).bytes,.int .i64 (Ag t).depth])/\Chg w w' []:=by
 intro k
 induction k with
 |zero=>intro t _ _ _ h;have:=Cv t;omega
 |succ k ih=>
  intro t F cs w hk aN aI aK J hF;have IH:=hZ ih;have R:=hZ hF;obtain⟨la,lc,ka,kc,xs,rfl,aw,ay,aA,_⟩:=J.uni;have f:=YU t;have ae:=Bj t;have O:=J.keysLen;have V:=hZ aw;have aF:=hZ ay;have Y:=hZ aA;have au:∀i u,(Ab t)[i]? =some u->(Ag u).nodes<(Ag t).nodes:=fun i u h=>CO h
  have aj:=hZ au;obtain⟨a,ar⟩:∃a,a=Aa t:=⟨_,rfl⟩
  obtain⟨L,hL⟩:∃L,L=Ab t:=⟨_,rfl⟩
  rw[<-ar]at V f O|-;rw[<-hL]at Y f ae aj O|-
  have aJ:(Bk L).nodes<=1099511627776/\(Bk L).bytes<=1152921504606846976/\(Bk L).depth<=1099511627776/\a.text.size+Ay a.keys+(Bk L).bytes<=1152921504606846976:=by
   have d:=congrArg Sz.nodes f;have h2:=congrArg Sz.bytes f;have h3:=congrArg Sz.depth f;simp only at d h2 h3;omega
  obtain⟨aP,aQ,aR,aH⟩:=aJ;have ak:=hZ f;obtain⟨l,af⟩:∃l,l=L.length:=⟨_,rfl⟩
  rw[<-af]at ae O|-;have W:=hZ af;obtain⟨g,ab⟩:∃g,g=a.keys.length:=⟨_,rfl⟩
  rw[<-ab]at V O|-;have T:=hZ ab;obtain⟨N,hN⟩:∃N,N=(Ag t).nodes:=⟨_,rfl⟩
  rw[<-hN]at ae hk aN;have aV:a.text.size<=1152921504606846976:=by omega
  have aU:g<=1099511627776:=by omega
  clear ih J hF aw ay aA ar af ab au f hL aI aK;obtain⟨w0,C⟩:∃x,x=w.alloc (.cells (vC a.sort a.flag a.bits a.text (.slice la l lc) (.slice ka g kc)).toArray 29):=⟨_,rfl⟩
  have Z:Hid (Ac w0 w.heap.size (vC a.sort a.flag a.bits a.text (.slice la l lc) (.slice ka g kc)) 29):=by rw[C];exact hZ (Ac.new _ _ _)
  have D:Hid (Chg w w0 []):=by rw[C];exact hZ ((Chg.refl w []).alloc _)
  have aB:w0.heap.size=w.heap.size+1:=by rw[C];simp
  have aO:=hZ aB;rw[Jy]at C;have HW:=hZ C;obtain⟨a0,aZ,y0,y1,y2,y3,y4,y5⟩:=Z.o.cells6;clear C aB;rw[Jy];go_enter func95,ntmps95
  go_wp2_with fail
  rw[<-HW.o];go_quiet(fail)
  go_wp2_with fail
  go_loopw [6,8] (fun v6 v8 wr=>∃i:Nat,i<=g/\v8= .int .i64 i/\v6= .int .i64 (a.text.size+Ay (a.keys.take i):Nat)/\Chg w0 wr []) (fun _ v8 _=>g-(intOf v8).toNat)
  case atStart=>exact⟨0,by omega,rfl,by simp[Ay],by exact cg cR⟩
  case round=>
   obtain⟨i,hi,rfl,rfl,p⟩:=hrel;have K:=hZ (Z.o.kept p);obtain⟨xl,xf,x0,x1,x2,x3,x4,x5⟩:=K.o.cells6;have S:=hZ p;clear p;by_cases ad:i<g
   .obtain⟨s,ag⟩:∃s,a.keys[i]? =some s:=⟨_,Q9 (by rw[<-T.o];exact ad)⟩
    have B:=FH ag;have aM:=OV a.keys (i+1)
    obtain⟨b,o,aL,al,E⟩:∃b o,ka=some ⟨b,o,none⟩/\F b/\w.cell? ⟨b,o+i,none⟩=some (.string s):=by
     rcases V.o with⟨h,_⟩|⟨b,o,c,d,h2,h3⟩
     .exfalso;have d:=congrArg List.length h;rw[Ao]at d;have:=T.o;simp only[List.length_nil]at d;omega
     .injection d with d _ _
      exact⟨b,o,d,h2,h3 i _ (by simp[Ad,ag])⟩
    subst aL;have N:=(D.o.trans S.o).keeps E;obtain⟨M,A⟩:∃M,M=a.text.size+Ay (a.keys.take i):=⟨_,rfl⟩
    have am:a.text.size+Ay (a.keys.take (i+1))=M+s.size:=by rw[B,A];omega
    have aS:M+s.size<=1152921504606846976:=by omega
    rw[<-A];have aD:=hZ am;clear A am B aM ag E;go_wp2_with fail
    go_roundw
    case rel=>exact⟨i+1,by omega,by go_num,by rw[aD.o];go_num,by exact cg S.o⟩
    case measure=>simp[intOf];omega
   .obtain rfl:i=g:=by omega
    have G:a.keys.take i=a.keys:=Qn (by rw[T.o];exact Q8 _);rw[G];obtain⟨M,A⟩:∃M,M=a.text.size+Ay a.keys:=⟨_,rfl⟩
    rw[<-A]at aH ak|-;clear G A;go_wp2_with fail
    go_loopw [5,6,7,9] (fun v5 v6 v7 v9 wr=>∃j:Nat,j<=l/\v9= .int .i64 j/\v5= .int .i64 (1+(Bk (L.take j)).nodes:Nat)/\v6= .int .i64 (M+(Bk (L.take j)).bytes:Nat)/\v7= .int .i64 (Bk (L.take j)).depth/\Chg w0 wr []) (fun _ _ _ v9 _=>l-(intOf v9).toNat)
    case atStart=>exact⟨0,by omega,rfl,by simp[Bk],by simp[Bk],by simp[Bk],by exact cg S.o⟩
    case round=>
     obtain⟨j,hj,rfl,rfl,rfl,rfl,p⟩:=hrel;clear xl xf x0 x1 x2 x3 x4 x5 K;have K:=hZ (Z.o.kept p);obtain⟨xl,xf,x0,x1,x2,x3,x4,x5⟩:=K.o.cells6;have y:=hZ p;clear p;have az:=PJ L j;obtain⟨nj,r⟩:∃x,x=(Bk (L.take j)).nodes:=⟨_,rfl⟩
     obtain⟨bj,m⟩:∃x,x=(Bk (L.take j)).bytes:=⟨_,rfl⟩
     obtain⟨dj,n⟩:∃x,x=(Bk (L.take j)).depth:=⟨_,rfl⟩
     rw[<-r,<-m,<-n]at az|-;obtain⟨aW,aX,aY⟩:=az;by_cases ad:j<l
     .obtain⟨u,I⟩:∃u,L[j]? =some u:=⟨_,Q9 (by rw[<-W.o];exact ad)⟩
      obtain⟨c,N,ao⟩:=Y.o.get j u I;have f:=aj.o j u I;have aa:=Zu I;have an:=N.length;have ah:=Y.o.length;have H:=PJ L (j+1);have B:=BM I;rw[B]at H;simp only[Sz.add,<-r,<-m,<-n]at H
      obtain⟨b,o,rfl,al,E⟩:∃b o,la=some ⟨b,o,none⟩/\F b/\∀i v,xs[i]? =some v->w.cell? ⟨b,o+i,none⟩=some v:=by
       rcases aF.o with h|h
       .exfalso;rw[h]at ah;simp at ah;have:=W.o;omega
       .exact h
      have aT:=R.o b al
      have ax:wr.rangeAt b (o+j*6) c:=fun q v J=>by
       have d:=E _ _ (ao q v J);rw[show o+j*6+q=o+(6*j+q)from by omega];exact(D.o.trans y.o).keeps d
      have aE:=hZ ax;have HC:=hZ (AL.kept ((D.o.trans y.o).keepsF R.o) (fun _ h=>h) _ _ N);have av:(prog.info? 29).map (·.size)=some c.length:=by rw[an];exact A9
      have aC:=hZ av;have aG:Hid (∀b,F b->b<wr.heap.size):=hZ fun b hb=>Q6 (R.o b hb) (D.o.trans y.o).size
      have X:=hZ (IH.o u F c wr (by omega) (by omega) (by omega) (by omega) HC.o aG.o);have P:Bk (L.take (j+1))=⟨nj+(Ag u).nodes,bj+(Ag u).bytes,max dj (Ag u).depth⟩:=by rw[B];simp only[Sz.add,<-r,<-m,<-n]
      obtain⟨U,hU⟩:∃U,U=Ag u:=⟨_,rfl⟩
      rw[<-hU]at X P H aa;obtain⟨u1,u2,u3⟩:=U;simp only at X P H aa;obtain⟨g1,g2,g3⟩:=aa;obtain⟨k1,k2,k3⟩:=H;have z:=hZ P;clear I N ao f an ah E ax av B P hU r m n
      go_wp2_with(first
       |(refine wpList_load_mid rfl _ _ rfl b (o+j*6) (by rfl) c _ aE.o underlying29 rfl aC.o ?_))
      refine X.o.mono ?_;rintro e w6 ⟨rfl,aq⟩;have ai:=hZ aq;clear aq;by_cases ap:dj<u3
      .go_wp2_with fail
       go_roundw
       case rel=>exact⟨j+1,by omega,by go_num,by rw[z.o];go_num,by rw[z.o];go_num,by rw[z.o];simp only[Nat.max_eq_right (Nat.le_of_lt ap)],y.o.trans ai.o⟩
       case measure=>simp[intOf];omega
      .go_wp2_with fail
       go_roundw
       case rel=>exact⟨j+1,by omega,by go_num,by rw[z.o];go_num,by rw[z.o];go_num,by rw[z.o];simp only[Nat.max_eq_left (Nat.le_of_not_lt ap)],y.o.trans ai.o⟩
       case measure=>simp[intOf];omega
     .obtain rfl:j=l:=by omega
      have G:L.take j=L:=Qn (by rw[W.o];exact Q8 _);have e1:(Ag t).nodes=1+nj/\(Ag t).bytes=M+bj/\(Ag t).depth=dj+1:=by rw[G]at r m n;rw[ak.o,r,m,n];exact⟨rfl,rfl,rfl⟩
      have Q:=hZ e1;clear G e1 r m n hN;go_wp2_with fail
      refine bodyPost_ret (results_tmp3 rfl _ _ _) rfl ?_;rw[Q.o.1,Q.o.2.1,Q.o.2.2];exact⟨by go_num,D.o.trans y.o⟩
theorem Ex(t:Tr)(F:Nat->Prop)(cs:List Vl)(w:Wl)(m:(Ag t).nodes<=1099511627776)(a:(Ag t).bytes<=1152921504606846976)(l:(Ag t).depth<=1099511627776)(f:AL w F t cs)(d:∀b,F b->b<w.heap.size):
  Cl prog 56 #[.agg cs.toArray] w fun e w'=>e= .returned (.bool (Ag t).within)/\Chg w w' []:=by
 have c:=hZ fun w' (h:Chg w w' [])=>XA _ t F cs w' (Q8 _) m a l (AL.kept (h.keepsF d) (fun _ h=>h) _ _ f) (fun b a=>Q6 (d b a) h.size)
 obtain⟨u,v,r,s,xs,rfl,_⟩:=f.uni;obtain⟨o,g⟩:∃x,x=(Ag t).nodes:=⟨_,rfl⟩
 obtain⟨p,i⟩:∃x,x=(Ag t).bytes:=⟨_,rfl⟩
 obtain⟨q,j⟩:∃x,x=(Ag t).depth:=⟨_,rfl⟩
 have k:(Ag t).within=(decide (o<=65536)&&decide (p<=2097152)&&decide (q<=512)):=by unfold Sz.within;rw[g,i,j]
 rw[k];rw[<-g,<-i,<-j]at c;rw[Jy]at c|-;clear f d g i j k m a l;go_enter func56,ntmps56
 go_wp2_with(first|(go_at_call 95;refine(c.o _ (by exact cg cR)).mono ?_;rintro e y ⟨rfl,n⟩))
 all_goals go_ret
 all_goals refine⟨Bo ?_,((Chg.refl w []).alloc _).trans n⟩
 all_goals go_light
 all_goals(rw[Bool.eq_iff_iff];simp;omega)
theorem Ov(F:Nat->Prop)(sk:Vl)(ks:List BY)(w:Wl)(r:Ax w F sk (Ad ks))(f:∀s∈ks,s.size<=2147483648)(A:ks.length<=4294967296):
  Cl prog 163 #[sk] w fun e w'=>e= .returned (.bool (ks.all Utf.Al))/\Chg w w' []:=by
 obtain⟨a,c,rfl,p⟩:=r.cell;have t:(Ad ks).length=ks.length:=by simp[Ad]
 rw[t];have u:=hZ p;have v:=hZ f;clear p f t r;go_enter func163,ntmps163
 go_wp2_with fail
 go_loopw [3] (fun m wr=>∃i:Nat,i<=ks.length/\m= .int .i64 i/\Chg w wr []/\(ks.take i).all Utf.Al=true) (fun m _=>ks.length-(intOf m).toNat)
 case atStart=>exact⟨0,by omega,rfl,by exact cg cR,rfl⟩
 case round=>
  obtain⟨i,hi,rfl,q,d⟩:=hrel;have g:=hZ q;have l:=hZ d;clear q d;by_cases x:i<ks.length
  .obtain⟨s,f⟩:∃s,ks[i]? =some s:=⟨_,Q9 x⟩
   have j:s∈ks:=List.mem_iff_getElem?.2 ⟨i,f⟩;obtain⟨b,o,rfl,_,n⟩:=u.o i (.string s) (by simp[Ad,f]);have B:=g.o.keeps n;have h:=hZ (Ii s wr (v.o s j));have z:=hZ f;by_cases d:Utf.Al s=true
   .rw[d]at h
    have k:Hid ((ks.take (i+1)).all Utf.Al=true):=hZ (by rw[List.take_add_one,f,List.all_append,l.o];simp[d]);clear n f j d;go_wp2_with fail
    refine h.o.mono ?_;rintro e y ⟨rfl,rfl⟩;go_wp2_with fail
    go_roundw
    case rel=>exact⟨i+1,by omega,by go_num,g.o,k.o⟩
    case measure=>simp[intOf];omega
   .have d:Utf.Al s=false:=by simpa using d
    rw[d]at h
    have k:Hid (ks.all Utf.Al=false):=hZ (by
     rw[List.all_eq_false];exact⟨s,j,by simp[d]⟩)
    clear n f j d;go_wp2_with fail
    refine h.o.mono ?_;rintro e y ⟨rfl,rfl⟩;go_wp2_with fail
    go_ret
    exact⟨congrArg (fun b=>Ending.returned (.bool b)) k.o.symm,g.o⟩
  .obtain rfl:i=ks.length:=by omega
   rw[Qn (Q8 _)]at l;go_wp2_with fail
   go_ret
   exact⟨congrArg (fun b=>Ending.returned (.bool b)) l.o.symm,g.o⟩
theorem UU(b:Nat)(d:b<18446744073709551616):(bits .and .u64 ((b:Int)/4503599627370496) 2047 !=2047)=Fl.Fh b:=by
 have a:((b:Int)/4503599627370496)=((b/4503599627370496:Nat):Int):=by omega
 have c:(2047:Int)=((2047:Nat):Int):=rfl;rw[a,c,bits_and_u64_nat _ _ (by omega) (by decide),show(2047:Nat)=2^11-1 from rfl,Nat.and_two_pow_sub_one_eq_mod];unfold Fl.Fh Fl.A7;rw[Bool.eq_iff_iff];simp;omega
theorem MM(b:Nat)(c:b<18446744073709551616)(w:Wl):
  Cl prog 161 #[.int .u64 b] w fun e w'=>e= .returned (.bool (Fl.Fh b))/\Chg w w' []:=by
 have a:=hZ (UU b c);go_enter func161,ntmps161
 go_wp2
 go_ret
 exact⟨Bo a.o,Chg.refl _ _⟩
def JA(s:BY):Prop:=Utf.Al s=true/\s.size<=2147483648
theorem FV(l m:List BY):Ad (l++m)=Ad l++Ad m:=by simp[Ad]
theorem VN(l:List BY)(k:Nat):(Ad l).take k=Ad (l.take k):=by simp[Ad,List.map_take]
theorem VM(l:List BY)(k:Nat):(Ad l).drop k=Ad (l.drop k):=by simp[Ad,List.map_drop]
def Ja(ks:List BY)(w:Wl)(e:Ending)(w':Wl):Prop:=
 (∃v,e= .returned v/\AK w' v 9 (Ad (AY ks))/\∀g,v.ownBlock=some g->w.heap.size<=g)/\Chg w w' []
theorem TK(N:Nat):∀(ks:List BY) (sl:Vl) (w:Wl),ks.length<=N->As w sl 1 ks.length (Ad ks)->(∀s∈ks,JA s)->ks.length<=4294967296->
  Cl prog 194 #[sl] w (Ja ks w):=by
 induction N using Nat.strongRecOn with
 |_ N ih=> ?_
 intro ks sl w hN hR hk hl;obtain⟨a,c,rfl,aZ,_⟩:=hR.form;have HR:=hZ hR;have HK:=hZ hk;have az:=hZ ih;clear hR hk ih;by_cases i:ks.length<2
 .have ax:AY ks=ks:=by
   rw[VE]
   match ks,i with
   |[],_=>exact Uw _
   |[x],_=>exact Ux _ x
  by_cases h0:ks.length=0
  .have aP:ks=[]:=List.eq_nil_of_length_eq_zero h0
   subst aP;go_enter func194,ntmps194
   obtain⟨ti,aQ,_⟩:=info_parts Cf
   go_wp2_with(first
    |(at_builtin;refine A1 rfl _ _ _ rfl 9 ti underlying27 aQ _ 0 0 (Q8 _) (by rfl) a c (by rfl) ?_))
   go_ret
   exact⟨⟨_,rfl,by rw[ax];exact AK.lit _ [] _ 0 rfl (by decide),fun g d=>by simp[Vl.ownBlock]at d;omega⟩,by exact cg cR⟩
  .have h1:ks.length=1:=by omega
   obtain⟨b,o,rfl,au⟩:=HR.o.base (by omega) (by decide);have U:=hZ ax;clear ax i h0;have aK:Hid (∀j v,(Ad ks)[j]? =some v->(w.alloc (.cells #[] 9)).cell? ⟨b,o+j,none⟩=some v):=fun j v hv=>((Chg.refl w []).alloc _).keeps (au j v hv)
   go_enter func194,ntmps194
   go_wp2_with(first
    |(at_builtin;go_loud(refine Ip rfl _ _ _ rfl 9 Ho 16 underlying27 Cf rfl _ [] (by rfl) (by exact AK.lit _ [] _ 0 rfl (by decide)) b o ks.length c (Ad ks) (by rfl) (by omega) (by simp[Ad]) (by exact fun j v hv=>by exact aK.o j v hv) (by exact Gu ks) (by simp;omega) (by simp;omega) ?_;intro g am w3 aN r t)))
   go_ret
   refine⟨⟨_,rfl,by rw[U.o];exact aN.norm (by simp[h1]) rfl,fun g' n=> ?_⟩,Chg.own (sv:= .slice none 0 0) (by exact cg cR) r (fun g d=>by cases d) (fun g d=> .inr (by have:w.heap.size=g:=(by injection d);omega))⟩;simp[Vl.ownBlock]at n;subst n
   rcases t with h|h
   .have:w.heap.size=g:=by injection h
    omega
   .simp at h;omega
 .obtain⟨b,o,rfl,au⟩:=HR.o.base (by omega) (by decide)
  have aO:(ks.length:Int)/2=((ks.length/2:Nat):Int):=by omega
  obtain⟨h,hh⟩:∃h,h=ks.length/2:=⟨_,rfl⟩
  rw[<-hh]at aO;have a2:h<ks.length:=by omega
  have a7:1<=h:=by omega
  have ar:=HR.o.head h (by omega);have an:=HR.o.tail h (ks.length-h) (c-h) (by omega) (by omega);rw[Nat.mul_one,VN]at ar;rw[Nat.mul_one,VM]at an;simp only[Option.map_some,FB]at an;have av:(ks.take h).length=h:=by rw[Ql];omega
  have aw:(ks.drop h).length=ks.length-h:=by rw[Qm]
  have aA:Hid (∀w',Chg w w' []->Cl prog 194 #[.slice (some ⟨b,o,none⟩) h c] w' (Ja (ks.take h) w')):=fun w' hc=>
   az.o h (by omega) (ks.take h) _ w' (by omega) (by rw[av];exact ar.kept hc) (fun s i=>HK.o s (List.mem_of_mem_take i)) (by omega)
  have aB:Hid (∀w',Chg w w' []->Cl prog 194 #[.slice (some ⟨b,o+h,none⟩) (ks.length-h) (c-h)] w' (Ja (ks.drop h) w')):=fun w' hc=>
   az.o (ks.length-h) (by omega) (ks.drop h) _ w' (by omega) (by rw[aw];exact an.kept hc) (fun s i=>HK.o s (List.mem_of_mem_drop i)) (by omega)
  have U:Hid (List.merge (AY (ks.take h)) (AY (ks.drop h)) (Hp fun s=>s)=AY ks):=by unfold Hid;rw[PF,List.take_append_drop]
  have E:Hid ((AY (ks.take h)).length=h/\(AY (ks.drop h)).length=ks.length-h):=by unfold Hid;rw[A3,A3,av,aw];exact⟨rfl,rfl⟩
  have aC:Hid (∀s∈AY (ks.take h),JA s):=fun s i=>HK.o s (List.mem_of_mem_take (D9.1 i))
  have aD:Hid (∀s∈AY (ks.drop h),JA s):=fun s i=>HK.o s (List.mem_of_mem_drop (D9.1 i))
  clear ar an av aw au hh i;have q1:h<=c:=by omega
  have q2:(h:Int)<=(c:Int):=by omega
  have q3:¬c=h:=by omega
  have q4:h<c:=by omega
  have z1:IntKind.i64.wrap (h:Int)=(h:Int):=IntWalk.i64_in _ (by omega);have z2:(0:Int)<=(h:Int):=by omega
  have q5:(h:Int)<=(ks.length:Int):=by omega
  go_enter func194,ntmps194
  go_upto_region 3 with(fail)
  go_cut [3,4]from 12 to 23 (fun s3 s4 wx=>AK wx s3 9 (Ad (AY (ks.take h)))/\AK wx s4 9 (Ad (AY (ks.drop h)))/\Chg w wx [])
  case first=>
   go_region_with(first
    |(go_at_call_of 194 (Vl.slice (some ⟨b,o,none⟩) h c);refine(aA.o _ (by first|exact(Chg.refl w []).drew|exact((Chg.refl w []).drew).trans ao)).mono ?_;rintro e w1 ⟨⟨v1,rfl,Z,a8⟩,C⟩)
    |(go_at_call 194;refine(aB.o _ (by first|exact(Chg.refl w []).drew|exact((Chg.refl w []).drew).trans C)).mono ?_;rintro e w2 ⟨⟨v2,rfl,aa,a9⟩,ao⟩))
   all_goals(go_wp2_with fail;go_meet)
   all_goals first
    |exact⟨Z.kept ao,aa,(((Chg.refl w []).drew).trans C).trans ao⟩
    |exact⟨Z,aa.kept C,(((Chg.refl w []).drew).trans ao).trans C⟩
  case rest=>
   obtain⟨Z,aa,d⟩:=hcut;have HG:=hZ d;have O:=Z.rowC;have P:=aa.rowC;rw[Ao,E.o.1]at O;rw[Ao,E.o.2]at P;obtain⟨F,aJ⟩:∃x,x=wc:=⟨_,rfl⟩
   rw[<-aJ]at HG O P|-;obtain⟨A,hA⟩:∃A,A=AY (ks.take h):=⟨_,rfl⟩
   obtain⟨B,hB⟩:∃B,B=AY (ks.drop h):=⟨_,rfl⟩
   rw[<-hA]at O U aC E;rw[<-hB]at P U aD E;clear Z aa d aJ hA hB aA aB;obtain⟨a3,c3,rfl,a0,_⟩:=O.form;obtain⟨a4,c4,rfl,a1,_⟩:=P.form;have aL:=hZ O;have aM:=hZ P;clear O P;go_wp2_with fail
   go_loopw [3,4,5] (fun v3 v4 v5 wr=>∃(X Y f:List BY),As F v3 1 X.length (Ad X)/\As F v4 1 Y.length (Ad Y)/\AK wr v5 9 (Ad f)/\Chg F wr []/\(∀g,v5.ownBlock=some g->F.heap.size<=g)/\
     f++List.merge X Y (Hp fun s=>s)=AY ks/\X.length+Y.length+f.length=ks.length/\(∀s∈X,JA s)/\(∀s∈Y,JA s)) (fun v3 v4 _ _=>LD v3+LD v4)
   case atStart=>exact⟨A,B,[],by rw[E.o.1];exact aL.o,by rw[E.o.2];exact aM.o,AK.nil _ _,Chg.refl _ _,fun g d=>(by cases d),U.o,by rw[E.o.1,E.o.2];simp;omega,aC.o,aD.o⟩
   case round=>
    obtain⟨wa,rfl⟩:∃x,x=wr:=⟨_,rfl⟩
    obtain⟨X,Y,f,hX,hY,hO,d,ho,z,L,aF,aG⟩:=hrel;obtain⟨a5,c5,rfl,ab,_⟩:=hX.form;obtain⟨a6,c6,rfl,ad,_⟩:=hY.form;have V:=hZ hX;have W:=hZ hY;have T:=hZ hO;have p:=hZ d;have D:=hZ ho;have S:=hZ z;have Q:=hZ aF;have R:=hZ aG;clear hX hY hO d ho z aF aG;have u:Hid ((Ad f).length=f.length):=Ao f
    match X,Y with
    |[],[]=>
     have aE:f=AY ks:=by have:=S.o;simpa using this
     have HF:=hZ aE;clear aE;go_wp2_with fail
     go_ret
     exact⟨⟨_,rfl,by rw[<-HF.o];exact T.o,fun g d=>Q7 HG.o.size (D.o g d)⟩,HG.o.trans p.o⟩
    |[],y::l=>
     have J:Hid (f++[y]++List.merge [] l (Hp fun s=>s)=AY ks):=by unfold Hid;rw[<-S.o,FP,FP];simp
     obtain⟨b6,o6,rfl,af⟩:=W.o.base (by simp) (by decide);have ah:=p.o.keeps (af 0 (.string y) rfl);rw[Nat.add_zero]at ah;simp only[List.length_nil,Qj]at L ab ad|-;have aI:f.length<=4294967296:=by omega
     obtain⟨m,z⟩:∃m,m=l.length+1:=⟨_,rfl⟩
     have al:Hid (As F (.slice (some ⟨b6,o6,none⟩) m c6) 1 m (.string y::Ad l)):=by rw[z];exact W.o
     have ak:=hZ z;rw[<-z]at L ad|-;have aT:((m:Int)==0)=false:=by rw[Qq];omega
     have aU:(0:Int)<(m:Int):=by omega
     have aV:m<=4294967297:=by omega
     have ay:0<m:=by omega
     have aY:decide (0<m)=true:=decide_eq_true ay;clear z;clear af
     rcases Decidable.em (c6=1)with K|K
     all_goals
      go_wp2_with fail
      go_quiet(fail)
      go_wp2_with(first
       |(at_builtin;refine AM rfl _ _ _ rfl 9 Ho 16 underlying27 Cf rfl u5 (Ad f) (by rfl) (by exact T.o.kept (bs:=[]) (by exact cg cR) (by simp)) wa.heap.size (.string y) (by rfl) (by exact Bx (by simp) _ _) rfl (by rw[u.o];omega) (by rw[u.o];omega) ?_;rw[u.o];intro g am w3 B r t;have I:=hZ B;have G:=hZ r;have H:=hZ t;clear B r t))
      go_roundw
      case rel=>
       have z1:=p.o.size;have e1:=ak.o;refine⟨[],l,f++[y],V.o,(by first|(rw[<-Ao l];refine al.o.next _ ?_ ?_<;>(try rw[Ao])<;>omega)|(rw[<-Ao l];refine ED ?_ ?_<;>(rw[Ao];omega))),(by rw[FV];exact I.o.norm (by simp) rfl),Chg.own (sv:= .slice none 0 0) (by exact cg p.o) G.o (fun g d=>by cases d) (fun g d=> .inr (D.o g d)),fun g' n=> ?_,by rw[<-J.o],by rw[Qk];simp only[List.length_nil,Qj];omega,Q.o,(fun s i=>R.o s (by simp[i]))⟩;simp[Vl.ownBlock]at n;subst n
       rcases H.o with h|h
       .exact D.o _ h
       .simp at h;omega
      case measure=>simp[LD];omega
    |x::k,[]=>
     have J:Hid (f++[x]++List.merge k [] (Hp fun s=>s)=AY ks):=by unfold Hid;rw[<-S.o,FQ,FQ];simp
     obtain⟨b5,o5,rfl,ae⟩:=V.o.base (by simp) (by decide);have ag:=p.o.keeps (ae 0 (.string x) rfl);rw[Nat.add_zero]at ag;simp only[List.length_nil,Qj]at L ab ad|-;have aI:f.length<=4294967296:=by omega
     obtain⟨m,z⟩:∃m,m=k.length+1:=⟨_,rfl⟩
     have aj:Hid (As F (.slice (some ⟨b5,o5,none⟩) m c5) 1 m (.string x::Ad k)):=by rw[z];exact V.o
     have ai:=hZ z;rw[<-z]at L ab|-;have aT:((m:Int)==0)=false:=by rw[Qq];omega
     have aU:(0:Int)<(m:Int):=by omega
     have aV:m<=4294967297:=by omega
     have ay:0<m:=by omega
     have aY:decide (0<m)=true:=decide_eq_true ay;clear z;clear ae
     rcases Decidable.em (c5=1)with K|K
     all_goals
      go_wp2_with fail
      go_quiet(fail)
      go_wp2_with(first
       |(at_builtin;refine AM rfl _ _ _ rfl 9 Ho 16 underlying27 Cf rfl u5 (Ad f) (by rfl) (by exact T.o.kept (bs:=[]) (by exact cg cR) (by simp)) wa.heap.size (.string x) (by rfl) (by exact Bx (by simp) _ _) rfl (by rw[u.o];omega) (by rw[u.o];omega) ?_;rw[u.o];intro g am w3 B r t;have I:=hZ B;have G:=hZ r;have H:=hZ t;clear B r t))
      go_roundw
      case rel=>
       have z1:=p.o.size;have e1:=ai.o;refine⟨k,[],f++[x],(by first|(rw[<-Ao k];refine aj.o.next _ ?_ ?_<;>(try rw[Ao])<;>omega)|(rw[<-Ao k];refine ED ?_ ?_<;>(rw[Ao];omega))),W.o,(by rw[FV];exact I.o.norm (by simp) rfl),Chg.own (sv:= .slice none 0 0) (by exact cg p.o) G.o (fun g d=>by cases d) (fun g d=> .inr (D.o g d)),fun g' n=> ?_,by rw[<-J.o],by rw[Qk];simp only[List.length_nil,Qj];omega,(fun s i=>Q.o s (by simp[i])),R.o⟩;simp[Vl.ownBlock]at n;subst n
       rcases H.o with h|h
       .exact D.o _ h
       .simp at h;omega
      case measure=>simp[LD];omega
    |x::k,y::l=>
     obtain⟨b5,o5,rfl,ae⟩:=V.o.base (by simp) (by decide);obtain⟨b6,o6,rfl,af⟩:=W.o.base (by simp) (by decide);have ag:=p.o.keeps (ae 0 (.string x) rfl);have ah:=p.o.keeps (af 0 (.string y) rfl);rw[Nat.add_zero]at ag ah;simp only[List.length_nil,Qj]at L ab ad|-;have aI:f.length<=4294967296:=by omega
     obtain⟨M,ap⟩:∃m,m=k.length+1:=⟨_,rfl⟩
     have aj:Hid (As F (.slice (some ⟨b5,o5,none⟩) M c5) 1 M (.string x::Ad k)):=by rw[ap];exact V.o
     have ai:=hZ ap;rw[<-ap]at L ab|-;have ba:((M:Int)==0)=false:=by rw[Qq];omega
     have bc:(0:Int)<(M:Int):=by omega
     have be:M<=4294967297:=by omega
     have aW:0<M:=by omega
     have bg:decide (0<M)=true:=decide_eq_true aW;clear ap;obtain⟨N,aq⟩:∃m,m=l.length+1:=⟨_,rfl⟩
     have al:Hid (As F (.slice (some ⟨b6,o6,none⟩) N c6) 1 N (.string y::Ad l)):=by rw[aq];exact W.o
     have ak:=hZ aq;rw[<-aq]at L ad|-;have bb:((N:Int)==0)=false:=by rw[Qq];omega
     have bd:(0:Int)<(N:Int):=by omega
     have bf:N<=4294967297:=by omega
     have aX:0<N:=by omega
     have bh:decide (0<N)=true:=decide_eq_true aX;clear aq;clear ae af;have kx:=Q.o x (by simp);have ky:=R.o y (by simp);have HC:=hZ fun w=>MN x y w kx.2 ky.2 kx.1 ky.1
     clear kx ky;obtain⟨q,hq⟩:∃q,q=Utf.BK x y:=⟨_,rfl⟩
     rw[<-hq]at HC;by_cases aH:q<=0
     .have J:Hid (f++[x]++List.merge k (y::l) (Hp fun s=>s)=AY ks):=by unfold Hid;rw[<-S.o,Mj (fun s=>s) (by rw[<-hq];exact aH)];simp
      clear hq
      rcases Decidable.em (c5=1)with K|K
      all_goals
       go_wp2_with fail
       go_still_tail 14,(by kernel_rfl)
       go_wp2_with(first
        |(go_at_call 175;refine(HC.o _).mono ?_;rintro e w1 ⟨rfl,C⟩;have A:=hZ ((Chg.refl wa []).drew.trans C);have aR:=A.o.keeps ag;have aS:=A.o.keeps ah;clear C)
        |(at_builtin;refine AM rfl _ _ _ rfl 9 Ho 16 underlying27 Cf rfl u5 (Ad f) (by rfl) (by exact(T.o.kept A.o).kept (bs:=[]) (by exact cg cR) (by simp)) w1.heap.size (.string x) (by rfl) (by exact Bx (by simp) _ _) rfl (by rw[u.o];omega) (by rw[u.o];omega) ?_;rw[u.o];intro g am w3 B r t;have I:=hZ B;have G:=hZ r;have H:=hZ t;clear B r t))
       go_roundw
       case rel=>
        have z1:=p.o.size;have z2:=A.o.size;have e1:=ai.o;have e2:=ak.o;refine⟨k,(y::l),f++[x],(by first|(rw[<-Ao k];refine aj.o.next _ ?_ ?_<;>(try rw[Ao])<;>omega)|(rw[<-Ao k];refine ED ?_ ?_<;>(rw[Ao];omega))),(by rw[Qj,<-e2];exact al.o),(by rw[FV];exact I.o.norm (by simp) rfl),Chg.own (sv:= .slice none 0 0) (by exact cg (p.o.trans A.o)) G.o (fun g d=>by cases d) (fun g d=> .inr (D.o g d)),fun g' n=> ?_,by rw[<-J.o],by rw[Qk];simp only[List.length_nil,Qj];omega,(fun s i=>Q.o s (by simp[i])),R.o⟩;simp[Vl.ownBlock]at n;subst n
        rcases H.o with h|h
        .exact D.o _ h
        .simp at h;omega
       case measure=>simp[LD];omega
     .have J:Hid (f++[y]++List.merge (x::k) l (Hp fun s=>s)=AY ks):=by unfold Hid;rw[<-S.o,K9 (fun s=>s) (by rw[<-hq];exact aH)];simp
      clear hq
      rcases Decidable.em (c6=1)with K|K
      all_goals
       go_wp2_with fail
       go_still_tail 14,(by kernel_rfl)
       go_wp2_with(first
        |(go_at_call 175;refine(HC.o _).mono ?_;rintro e w1 ⟨rfl,C⟩;have A:=hZ ((Chg.refl wa []).drew.trans C);have aR:=A.o.keeps ag;have aS:=A.o.keeps ah;clear C)
        |(at_builtin;refine AM rfl _ _ _ rfl 9 Ho 16 underlying27 Cf rfl u5 (Ad f) (by rfl) (by exact(T.o.kept A.o).kept (bs:=[]) (by exact cg cR) (by simp)) w1.heap.size (.string y) (by rfl) (by exact Bx (by simp) _ _) rfl (by rw[u.o];omega) (by rw[u.o];omega) ?_;rw[u.o];intro g am w3 B r t;have I:=hZ B;have G:=hZ r;have H:=hZ t;clear B r t))
       go_roundw
       case rel=>
        have z1:=p.o.size;have z2:=A.o.size;have e1:=ai.o;have e2:=ak.o;refine⟨(x::k),l,f++[y],(by rw[Qj,<-e1];exact aj.o),(by first|(rw[<-Ao l];refine al.o.next _ ?_ ?_<;>(try rw[Ao])<;>omega)|(rw[<-Ao l];refine ED ?_ ?_<;>(rw[Ao];omega))),(by rw[FV];exact I.o.norm (by simp) rfl),Chg.own (sv:= .slice none 0 0) (by exact cg (p.o.trans A.o)) G.o (fun g d=>by cases d) (fun g d=> .inr (D.o g d)),fun g' n=> ?_,by rw[<-J.o],by rw[Qk];simp only[List.length_nil,Qj];omega,Q.o,(fun s i=>R.o s (by simp[i]))⟩;simp[Vl.ownBlock]at n;subst n
        rcases H.o with h|h
        .exact D.o _ h
        .simp at h;omega
       case measure=>simp[LD];omega
theorem ZF{x y:BY}(h:x≠y):(x.toList==y.toList)=false:=by
 rw[Qq];intro e;rw[ByteArray.toList_eq,ByteArray.toList_eq]at e;exact h (ByteArray.ext (Array.toList_inj.1 e))
theorem Ow(ks:List BY)(Q:Vl)(w:Wl)(C:As w Q 1 ks.length (Ad ks))(N:∀s∈ks,JA s)(hl:ks.length<=4294967296):
  Cl prog 164 #[Q] w fun e w'=>e= .returned (.bool (!decide ks.Nodup))/\Chg w w' []:=by
 obtain⟨a,c,rfl,ae,_⟩:=C.form;have H:=hZ fun w' (h:Chg w w' [])=>TK ks.length ks _ w' (Q8 _) (C.kept h) N hl
 have D:=TU (l:=AY ks) (Cs (fun s=>s) ks);rw[Lb]at D;have ab:=A3 ks;have u:=hZ D;obtain⟨L,B⟩:∃L,L=AY ks:=⟨_,rfl⟩
 have T:Hid (∀w',Chg w w' []->Cl prog 194 #[.slice a ks.length c] w' fun e R=>(∃v,e= .returned v/\AK R v 9 (Ad L)/\∀g,v.ownBlock=some g->w'.heap.size<=g)/\Chg w' R []):=by rw[B];exact H.o
 rw[<-B]at ab u;have ad:L.length<=4294967296:=by omega
 have A:Hid ((Ad L).length=L.length):=Ao L;clear C N D B H;go_enter func164,ntmps164
 go_wp2_with(first|(go_at_call 194;refine(T.o _ cR).mono ?_;rintro e w1 ⟨⟨v,rfl,r,_⟩,M⟩;obtain⟨a1,c1,rfl,_⟩:=r.form;rw[A.o]at r|-;have V:=hZ r;have G:=hZ M;clear r M))
 go_loopw [4] (fun F wr=>∃i:Nat,1<=i/\(i<=L.length\/i=1)/\F= .int .i64 i/\Chg w1 wr []/\∀j s,j+1<i->L[j]? =some s->L[j+1]? ≠some s) (fun F _=>L.length-(intOf F).toNat)
 case atStart=>exact⟨1,by omega,.inr rfl,rfl,Chg.refl _ _,fun j s h=>by omega⟩
 case round=>
  obtain⟨i,ag,ah,rfl,K,O⟩:=hrel;have p:=hZ K;have I:=hZ O;clear K O;by_cases ai:i<L.length
  .obtain⟨b,q⟩:∃b,i=b+1:=⟨i-1,by omega⟩
   obtain⟨x,n⟩:∃x,L[b]? =some x:=⟨_,Q9 (by omega)⟩
   obtain⟨y,o⟩:∃y,L[b+1]? =some y:=⟨_,Q9 (by omega)⟩
   have t:=V.o.kept p.o;obtain⟨aa,cc,W,J⟩:=t.form
   injection W with X _ Y
   subst X;subst Y;obtain⟨g,rfl⟩:=J (by intro Z;have d:=A.o;rw[Z]at d;simp at d;omega);have cx:wr.cell? ⟨g,b,none⟩=some (.string x):=t.cell rfl b _ (by simp[Ad,n]);have cy:wr.cell? ⟨g,i,none⟩=some (.string y):=t.cell rfl i _ (by simp[Ad,q,o]);have z1:(i:Int)-1=(b:Int):=by omega
   have z2:(0:Int)<=(b:Int):=by omega
   have z3:(b:Int)<(L.length:Int):=by omega
   have z4:IntKind.i64.wrap (b:Int)=(b:Int):=IntWalk.i64_in _ (by omega);have af:b<=4294967296:=by omega
   rw[show(Ad L).length=L.length from A.o]at*;have S:=hZ q;clear J t;by_cases E:y=x
   .subst E
    have m:¬ks.Nodup:=fun h=>(u.o.1 h) b y n o
    have k:(!decide ks.Nodup)=true:=by simp[m]
    have z:=hZ k;clear m k n o q;go_wp2_with fail
    go_quiet(fail)
    go_wp2_with fail
    go_ret
    exact⟨Bo z.o.symm,G.o.trans (by exact cg p.o)⟩
   .have P:∀j s,j+1<b+1+1->L[j]? =some s->L[j+1]? ≠some s:=by
     intro j s hj d f;by_cases e:j=b
     .subst e;rw[n]at d;rw[o]at f;injection d with d;injection f with f;exact E (f.trans d.symm)
     .exact I.o j s (by omega) d f
    have U:=hZ P;have hb:(y.toList==x.toList)=false:=ZF E;clear P n o q;go_wp2_with fail
    go_quiet(fail)
    go_wp2_with fail
    go_roundw
    case rel=>exact⟨i+1,by omega,.inl (by omega),by go_num,by exact cg p.o,by rw[S.o];exact U.o⟩
    case measure=>simp[intOf];omega
  .have m:ks.Nodup:=u.o.2 fun i s d f=>by
    have hj:=(Qc.1 f).1;exact I.o i s (by omega) d f
   have k:(!decide ks.Nodup)=false:=by simp[m]
   have z:=hZ k;clear m k;go_wp2_with fail
   go_ret
   exact⟨Bo z.o.symm,G.o.trans p.o⟩
end
end Go.Proofs.YtkfnkppdhcaeoaaGreatDoor

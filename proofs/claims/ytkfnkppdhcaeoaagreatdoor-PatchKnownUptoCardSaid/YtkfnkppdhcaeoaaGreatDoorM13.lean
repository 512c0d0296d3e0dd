/- Part 13 of the proof of coreBase. -/
import Derived.Test.YtkfnkppdhcaeoaaGreatDoorM12
set_option maxRecDepth 100000
set_option maxHeartbeats 32000000
set_option linter.all false
namespace Go.Proofs.YtkfnkppdhcaeoaaGreatDoor
open Go renaming TypeId->Ti,Value->Vl,World->Wl
open Go.Value renaming int->nI,slice->nS,string->nG
open Go.Ending renaming returned->nR
open Option renaming none->nN,some->nM
section
open Go Go.RowKit Tree Ptr
def Ht(t:Tr)(w:Wl)(e:Ending)(w':Wl):Prop:=
 ∃v G,e= nR v/\Hm w' G t v/\Chg w w' []/\∀b,G b->w.heap.size<=b/\b<w'.heap.size
def T8(w0:Wl)(l:List Tr)(k:Nat)(a:Vl)(wr:Wl):Prop:=
 ∃xs G,AK wr a 144 xs/\Dc wr G (l.take k) xs/\(∀b,G b->w0.heap.size<=b/\b<wr.heap.size)/\(∀g,a.ownBlock=nM g->w0.heap.size<=g/\¬G g)/\Chg w0 wr []
def cz(w0:Wl)(ks:List BY)(l:List Tr)(k:Nat)(a:Vl)(wr:Wl):Prop:=
 ∃xs G,Ba wr a 236 2 k (Kp (ks.take k) xs)/\Dc wr G (l.take k) xs/\(∀b,G b->w0.heap.size<=b/\b<wr.heap.size)/\(∀g,a.ownBlock=nM g->w0.heap.size<=g/\¬G g)/\Chg w0 wr []
theorem Cb{a:Type}{l:List a}{k:Nat}{u:a}(h:l[k]? =nM u):l.take (k+1)=l.take k++[u]:=by rw[List.take_add_one,h];rfl
theorem Dc.keptC{w w':Wl}{G H:Nat->Prop}{l:List Tr}{vs:List Vl}{bs:List Nat}(h:Dc w G l vs)(c:Chg w w' bs)(d:∀b,G b->b<w.heap.size)(e:∀b,b∈bs->¬G b)(a:∀b,G b->H b):Dc w' H l vs:=
 Dc.kept (c.keepsF d e) a l vs h
theorem T8.next{w0 wr d q:Wl}{l:List Tr}{k:Nat}{f A:Vl}{u:Tr}{xs:List Vl}{G r:Nat->Prop}{g n v:Nat}{o:Obj}(y:l[k]? =nM u)(B:Dc wr G (l.take k) xs)(i:∀b,G b->w0.heap.size<=b/\b<wr.heap.size)(m:∀g,f.ownBlock=nM g->w0.heap.size<=g/\¬G g)(w:Chg w0 wr [])(z:∀g,f.ownBlock=nM g->g<wr.heap.size)(D:Hm d r u A)(t:Chg wr d [])(e:∀b,r b->wr.heap.size<=b/\b<d.heap.size)(E:AK q (nS (nM ⟨g,0,nN⟩) n v) 144 (xs++[A]))(F:Chg (d.alloc o) q f.ownBlock.toList)(H:f.ownBlock=nM g\/g=(d.alloc o).heap.size):
  T8 w0 l (k+1) (nS (nM ⟨g,0,nN⟩) n v) q:=by
 have p:Chg d q f.ownBlock.toList:=((Chg.refl d []).alloc o|>.none _).trans F;have J:=w.size;have K:=t.size;have L:=p.size;refine⟨_,fun b=>G b\/r b,E, ?_, ?_, ?_, ?_⟩
 .rw[Cb y]
  refine Dc.snoc ?_ ?_
  .refine(B.keptC t (fun b a=>(i b a).2) Zh (fun _ h=>h)).keptC p (fun b a=>by have:=(i b a).2;omega) (fun b a s=>(m b (by simpa using a)).2 s) (fun _ h=> .inl h)
  .exact Hm.kept (p.keepsF (fun b a=>(e b a).2) (fun b a s=>by have:=z b (by simpa using a);have:=(e b s).1;omega)) (fun _ h=> .inr h) _ _ D
 .intro b a
  rcases a with a|a
  .have:=i b a;omega
  .have:=e b a;omega
 .intro I x
  simp[Vl.ownBlock]at x;subst x
  rcases H with h|h
  .refine⟨(m _ h).1,fun c=> ?_⟩
   rcases c with c|c
   .exact(m _ h).2 c
   .have:=z _ h;have:=(e _ c).1;omega
  .rw[World.size_alloc]at h
   refine⟨Zj,fun c=> ?_⟩
   rcases c with c|c
   .have:=(i _ c).2;omega
   .have:=(e _ c).2;omega
 .exact(w.trans t).step p fun j C y=>by have:=(m j (by simpa using C)).1;omega
theorem cz.next{w0 wr e v:Wl}{ks:List BY}{l:List Tr}{k:Nat}{n t:Vl}{u:Tr}{s:BY}{xs:List Vl}{G o:Nat->Prop}{g w:Nat}(q:l[k]? =nM u)(B:ks[k]? =nM s)(x:Dc wr G (l.take k) xs)(f:∀b,G b->w0.heap.size<=b/\b<wr.heap.size)(i:∀g,n.ownBlock=nM g->w0.heap.size<=g/\¬G g)(y:Chg w0 wr [])(A:∀g,n.ownBlock=nM g->g<wr.heap.size)(F:Hm e o u t)(r:Chg wr e [])(d:∀b,o b->wr.heap.size<=b/\b<e.heap.size)(H:Ba v (nS (nM ⟨g,0,nN⟩) (k+1) w) 236 2 (k+1) (Kp (ks.take k) xs++[nG s,t]))(m:Chg e v n.ownBlock.toList)(I:n.ownBlock=nM g\/e.heap.size<=g):
  cz w0 ks l (k+1) (nS (nM ⟨g,0,nN⟩) (k+1) w) v:=by
 have M:=y.size;have N:=r.size;have O:=m.size
 have E:(ks.take k).length=xs.length:=by
  have C:=x.length;have J:=(Qc.1 q).1;have K:=(Qc.1 B).1;rw[C,Ql,Ql];omega
 refine⟨xs++[t],fun b=>G b\/o b, ?_, ?_, ?_, ?_, ?_⟩
 .rw[Cb B,Oj E];exact H
 .rw[Cb q]
  refine Dc.snoc ?_ ?_
  .refine(x.keptC r (fun b a=>(f b a).2) Zh (fun _ h=>h)).keptC m (fun b a=>by have:=(f b a).2;omega) (fun b a p=>(i b (by simpa using a)).2 p) (fun _ h=> .inl h)
  .exact Hm.kept (m.keepsF (fun b a=>(d b a).2) (fun b a p=>by have:=A b (by simpa using a);have:=(d b p).1;omega)) (fun _ h=> .inr h) _ _ F
 .intro b a
  rcases a with a|a
  .have:=f b a;omega
  .have:=d b a;omega
 .intro L z
  simp[Vl.ownBlock]at z;subst z
  rcases I with h|h
  .refine⟨(i _ h).1,fun c=> ?_⟩
   rcases c with c|c
   .exact(i _ h).2 c
   .have:=A _ h;have:=(d _ c).1;omega
  .refine⟨Zj,fun c=> ?_⟩
   rcases c with c|c
   .have:=(f _ c).2;omega
   .have:=(d _ c).2;omega
 .exact(y.trans r).step m fun j D q=>by have:=(i j (by simpa using D)).1;omega
theorem KM{P:Program}{h:Array Oper}{rest:List Oper}{o:Oper}{a:Act}{Q:Exit->Act->Wl->Prop}{w:Wl}(y:o.guard=nN)(l c:Operand)(t:Ti)(F:o.op=Op.makeSlice t l c)(e:Ti)(z:Vl)(sz d:Nat)(I:P.underlying t=nM (.slice e))(A:(P.info? e).map (fun i=>(i.zero,i.size,i.bytes))=nM (nM z,sz,d))(g f:IntKind)(C:Int)(n:Nat)(E:a.eval l= nI g 0)(x:a.eval c= nI f C)(r:C=(n:Int))(j:d*n<=281474976710656)(m:n<=maxLen)(B:Nat)(q:w.heap.size=B)(s:∀w',Ba w' (nS (nM ⟨B,0,nN⟩) 0 n) e sz 0 []->Chg w w' []->wpList P h Q rest (a.put o.dst (nS (nM ⟨B,0,nN⟩) 0 n)) w'):
  wpList P h Q (o::rest) a w:=by
 obtain⟨i,hi,J,H,v⟩:=info_parts A;subst r;subst v;subst q;obtain⟨w',G,p,b⟩:=run_make_own (P:=P) w 0 t e i z sz I hi J H g f n j m (Nat.zero_le _);refine wpList_plain y fun K u=> ?_
 unfold Oper.wp;simp only[execOp,F,E,x,G,Sem.run_bind,Result.andThen_ok,Sem.run_pure];exact u _ _ (s w' p ⟨b.os,b.tape,b.output,b.size,fun k D _=>b.block k D Zh⟩)
structure BP(w0:Wl)(bs:List Nat):Prop where
 nodup:bs.Nodup
 ge:∀b,b∈bs->w0.heap.size<=b
def SF(t:Tr)(w:Wl)(e:Ending)(w':Wl):Prop:=
 ∃v bs,e= nR v/\AP w' t v bs/\BP w bs/\Chg w w' []
structure GD(w0 wr:Wl)(ex:List Nat)(l:List Tr)(sv:Vl)(vs:List Vl)(fs:List Nat):Prop where
 lst:AK wr sv 95 vs
 at_:PsAt wr l vs fs
 new:BP w0 (ex++(sv.ownBlock.toList++fs))
 lt:∀b,b∈ex->b<wr.heap.size
theorem BP.perm{w:Wl}{bs cs:List Nat}(h:BP w bs)(a:cs.Perm bs):BP w cs:=⟨a.nodup_iff.2 h.nodup,fun b c=>h.ge b (a.mem_iff.1 c)⟩
theorem BP.nil(w:Wl):BP w []:=⟨List.nodup_nil,fun _ h=>by cases h⟩
theorem BP.of_le{w w':Wl}{bs:List Nat}(h:BP w' bs)(c:w.heap.size<=w'.heap.size):BP w bs:=⟨h.nodup,fun b a=>Q7 c (h.ge b a)⟩
theorem BP.append{w d:Wl}{bs cs:List Nat}(h:BP w bs)(g:∀b,b∈bs->b<d.heap.size)(k:BP d cs)(i:w.heap.size<=d.heap.size):BP w (bs++cs):=
 ⟨List.nodup_append.2 ⟨h.nodup,k.nodup,fun a f b c e=>by have:=g a f;have:=k.ge b c;omega⟩,fun b c=>(Qf.1 c).elim (h.ge b) fun c=>Q7 i (k.ge b c)⟩
theorem BP.left{w:Wl}{bs cs:List Nat}(h:BP w (bs++cs)):BP w bs:=⟨(List.nodup_append.1 h.nodup).1,fun b a=>h.ge b (Qe _ a)⟩
theorem BP.right{w:Wl}{bs cs:List Nat}(h:BP w (bs++cs)):BP w cs:=⟨(List.nodup_append.1 h.nodup).2.1,fun b a=>h.ge b (Qd _ a)⟩
theorem BP.apart{w:Wl}{bs cs:List Nat}(h:BP w (bs++cs)):∀a,a∈bs->a∉cs:=fun a b c=>(List.nodup_append.1 h.nodup).2.2 a b a c rfl
theorem GD.kept{w0 wr j:Wl}{f:List Nat}{l:List Tr}{sv:Vl}{vs:List Vl}{a:List Nat}{cs:List Nat}(h:GD w0 wr f l sv vs a)(d:Chg wr j cs)(i:∀b,b∈cs->b∉sv.ownBlock.toList++a:=by simp):GD w0 j f l sv vs a:=
 ⟨h.lst.kept d (fun g k e=>i g e (Qe _ (by simpa using k))),h.at_.chg d (fun b c e=>i b c (Qd _ e)),h.new,fun b c=>Q6 (h.lt b c) d.size⟩
theorem GD.ltAll{w0 wr:Wl}{c:List Nat}{l:List Tr}{sv:Vl}{vs:List Vl}{d:List Nat}(h:GD w0 wr c l sv vs d):∀b,b∈c++(sv.ownBlock.toList++d)->b<wr.heap.size:=fun b a=>by
 rcases Qf.1 a with a|a
 .exact h.lt b a
 .rcases Qf.1 a with a|a
  .exact h.lst.ltB b a
  .exact PsAt.lt _ _ _ h.at_ b a
theorem GD.nil{w0 w:Wl}{a:List Nat}(h:BP w0 a)(c:∀b,b∈a->b<w.heap.size):GD w0 w a [] (nS nN 0 0) [] []:=⟨AK.nil _ _,⟨rfl,rfl⟩,by simpa[Vl.ownBlock]using h,c⟩
theorem GD.push{w0 wr k s:Wl}{f:List Nat}{l:List Tr}{u:Tr}{sv r:Vl}{vs:List Vl}{i d:List Nat}{g n t:Nat}(h:GD w0 wr f l sv vs i)(w:AP k u r d)(x:BP wr d)(p:Chg wr k [])(D:AK s (nS (nM ⟨g,0,nN⟩) n t) 95 (vs++[r]))(q:Chg k s sv.ownBlock.toList)(o:sv.ownBlock=nM g\/k.heap.size<=g)(C:w0.heap.size<=wr.heap.size):
  GD w0 s f (l++[u]) (nS (nM ⟨g,0,nN⟩) n t) (vs++[r]) (i++d):=by
 have j:=h.ltAll;have y:=h.new.right.apart;have E:=p.size;refine⟨D, ?_, ?_,fun b c=>Q6 (h.lt b c) (Q7 p.size q.size)⟩
 .refine PsAt.snoc ((h.at_.chg p Zh).chg q y) (w.chg q fun b c A=> ?_)
  have:=j b (by simp only[Qf];exact .inr (.inl c));have:=x.ge b A;omega
 .have m:BP w0 (f++(sv.ownBlock.toList++i)++d):=h.new.append j x C
  rcases o with o|o
  .rw[o]at m
   simpa[Vl.ownBlock,List.append_assoc]using m
  .have z:∀b,b∈f++(i++d)->b<k.heap.size:=fun b c=>by
    rcases Qf.1 c with c|c
    .have:=h.lt b c;omega
    .rcases Qf.1 c with c|c
     .have:=j b (by simp only[Qf];exact .inr (.inr c));omega
     .exact AP.lt _ _ _ w b c
   have v:BP w0 (f++(i++d)):=by
    refine⟨m.nodup.sublist ?_,fun b c=>m.ge b (by simp only[Qf]at c|-;rcases c with h|h|h;exact .inl (.inl h);exact .inl (.inr (.inr h));exact .inr h)⟩;rw[List.append_assoc];refine List.Sublist.append_left ?_ f;rw[List.append_assoc];exact List.sublist_append_right _ _
   have B:BP w0 ([g]++(f++(i++d))):=by
    refine⟨List.nodup_append.2 ⟨Zh,v.nodup,fun a j b c e=> ?_⟩,fun b c=> ?_⟩
    .simp at j;subst j;subst e;have:=z a c;omega
    .rcases Qf.1 c with c|c
     .simp at c;subst c;omega
     .exact v.ge b c
   refine B.perm ?_;simp only[Vl.ownBlock,Option.toList_some];exact Ew _ _ _
def Aw.toI(s:Aw):Ap:=⟨s.sort,s.flag,s.bits,s.text,s.count,s.keys⟩
theorem Zy{l:List Tr}{u:Tr}(h:u∈l):(Ag u).nodes<=(Bk l).nodes/\(Ag u).bytes<=(Bk l).bytes/\(Ag u).depth<=(Bk l).depth:=by
 obtain⟨i,hi⟩:=List.mem_iff_getElem?.1 h;have:=(Kc hi u).1;rw[this];simp only[Sz.add];omega
theorem C8{t u:Tr}(h:(Ag t).within=true)(a:u∈Ab t):(Ag u).within=true:=by
 have b:=Ar h;have c:=Zy a;unfold Sz.within
 cases t with
 |list l=>simp only[Ab,Ag,Sz.over]at*;simp;omega
 |obj ks l=>simp only[Ab,Ag,Sz.over]at*;simp;omega
 |_=>simp[Ab]at a
theorem WY(t:Tr)(h:∀ks l,t= .obj ks l->ks.length=l.length):Hn (Aa t).toI=(Ab t).length:=by
 cases t<;>simp[Hn,Aa,Aw.toI,Ab]
 exact h _ _ rfl
theorem YC{t:Tr}(h:Av t):Kw (Aa t).toI=true:=by
 rw[CU]
 cases t with
 |num b=>
  simp only[Av]at h;refine⟨?_,fun _=>h.2.1, ?_,rfl,List.nodup_nil⟩
  .simp[Aa,Aw.toI,Bs,Dz]
  .show Utf.Al Dz=true;rfl
 |text s=>
  simp only[Av]at h;exact⟨by simp[Aa,Aw.toI,Bs],fun e=>by simp[Aa,Aw.toI]at e,h.1,rfl,List.nodup_nil⟩
 |obj ks l=>
  simp only[Av]at h;exact⟨by simp[Aa,Aw.toI,Bs,Dz],fun e=>by simp[Aa,Aw.toI]at e,rfl,List.all_eq_true.2 h.1.right,h.1.nodup⟩
 |list l=>exact⟨by simp[Aa,Aw.toI,Bs,Dz],fun e=>by simp[Aa,Aw.toI]at e,rfl,rfl,List.nodup_nil⟩
 |flag b=>exact⟨by simp[Aa,Aw.toI,Bs,Dz],fun e=>by simp[Aa,Aw.toI]at e,rfl,rfl,List.nodup_nil⟩
 |null=>exact⟨by simp[Aa,Aw.toI,Bs,Dz],fun e=>by simp[Aa,Aw.toI]at e,rfl,rfl,List.nodup_nil⟩
theorem U8{t:Tr}(h:Av t):CF (Aa t).toI (Ab t)=t:=by
 cases t with
 |num b=>simp only[Av]at h;simp[CF,Aa,Aw.toI,h.2.2]
 |obj ks l=>simp only[Av]at h;simp[CF,Aa,Aw.toI,Ab,h.1.objT h.2.1]
 |_=>simp[CF,Aa,Aw.toI,Ab]
theorem Av.keysLen{t:Tr}(h:Av t):∀ks l,t= .obj ks l->ks.length=l.length:=by
 intro ks l e;subst e;exact h.2.1
theorem Gp{t:Tr}(h:Av t)(f:(Ag t).within=true)(row:List Tr):DS (row++Ab t) [(Aa t).toI]=nM (row++[t]):=by
 have a:=WY t h.keysLen
 have c:(row++Ab t).drop ((row++Ab t).length-Hn (Aa t).toI)=Ab t:=by
  rw[a,Qk,Nat.add_sub_cancel,List.drop_left]
 have e:(row++Ab t).take ((row++Ab t).length-Hn (Aa t).toI)=row:=by
  rw[a,Qk,Nat.add_sub_cancel,List.take_left]
 have b:AF (Aa t).toI (row++Ab t)=t:=by
  unfold AF;rw[c];exact U8 h
 have d:Ds (Aa t).toI (row++Ab t)=true:=by
  unfold Ds;rw[YC h,b,f,a];simp
 simp only[DS,d,if_true];unfold NW;rw[e,b]
theorem Il{row r:List Tr}{l m:List Ap}(h:DS row l=nM r):DS row (l++m)=DS r m:=by
 induction l generalizing row with
 |nil=>simp[DS]at h;subst h;rfl
 |cons s l b=>
  simp only[Qo,DS]at h|-;split at h
  .rename_i a;rw[Qr a];exact b h
  .cases h
mutual
theorem OD:∀(t:Tr) (row:List Tr),Av t->(Ag t).within=true->DS row ((Ai t).map Aw.toI)=nM (row++[t])
 | .null,row,h,hw=>by have:=Gp h hw row;simpa[Ai,Ab]using this
 | .flag b,row,h,hw=>by have:=Gp h hw row;simpa[Ai,Ab]using this
 | .num n,row,h,hw=>by have:=Gp h hw row;simpa[Ai,Ab]using this
 | .text s,row,h,hw=>by have:=Gp h hw row;simpa[Ai,Ab]using this
 | .list l,row,h,hw=>by
  simp only[Ai,List.map_append,List.map_cons,List.map_nil];rw[Il (Jr l row h.items fun u hu=>C8 (t:= .list l) hw hu)];exact Gp h hw row
 | .obj ks l,row,h,hw=>by
  simp only[Ai,List.map_append,List.map_cons,List.map_nil];rw[Il (Jr l row h.items fun u hu=>C8 (t:= .obj ks l) hw hu)];exact Gp h hw row
theorem Jr:∀(l:List Tr) (row:List Tr),(∀u∈l,Av u)->(∀u∈l,(Ag u).within=true)->DS row ((BI l).map Aw.toI)=nM (row++l)
 |[],row,_,_=>by simp[BI,DS]
 |t::l,row,h,hw=>by
  simp only[BI,List.map_append];rw[Il (OD t row (h t Zh) (hw t Zh)),Jr l (row++[t]) (fun u hu=>h u (by simp[hu])) fun u hu=>hw u (by simp[hu])];simp
end
theorem FE{t:Tr}(h:Av t)(a:(Ag t).within=true):AS ((Ai t).map Aw.toI)=nM t:=by
 unfold AS;rw[List.length_map,BL,Qr (Ar a).1];unfold CA;rw[OD t [] h a];rfl
theorem Ji{t:Tr}{s:BY}{i:Nat}{m:List Tr}(h:D6 t s=nM i):Ab (AW t m)=m:=QX h
theorem Rs{t:Tr}{a s:BY}{j:Nat}{m:List Tr}(b:D6 t a=nM j)(c:m.length=(Ab t).length):D6 (AW t m) s=D6 t s:=by
 rcases IA b with⟨l,rfl⟩|⟨ks,l,rfl⟩
 .simp only[AW,D6,Ab]at*;rw[c]
 .rfl
theorem V4{t:Tr}{s:BY}{i:Nat}(h:D6 t s=nM i){u:Tr}(a:(Ab t)[i]? =nM u):AW t ((Ab t).set i u)=t:=by
 obtain⟨hi,rfl⟩:=Qc.1 a;rw[List.set_getElem_self]
 rcases IA h with⟨l,rfl⟩|⟨ks,l,rfl⟩<;>rfl
theorem V5{t:Tr}(m n:List Tr):AW (AW t m) n=AW t n:=by cases t<;>rfl
theorem Mf{f:Tr->Tr}{ts:List BY}:∀{t p:Tr},Ah t ts=nM p->Ah (Bz f t ts) ts=nM (f p):=by
 induction ts with
 |nil=>intro t p h;simp only[Ah]at h;injection h with h;subst h;rfl
 |cons s r d=>
  intro t p h;obtain⟨i,v,a,b,c⟩:=CC h;have hi:=(Qc.1 b).1;rw[BF a b];simp only[Ah,Dy];rw[Rs a (by rw[List.length_set]),a,Ji a];simp only[Option.bind_some];rw[List.getElem?_set_self hi];exact d c
theorem Yy{f g:Tr->Tr}{ts:List BY}:∀{t p:Tr},Ah t ts=nM p->Bz g (Bz f t ts) ts=Bz (fun u=>g (f u)) t ts:=by
 induction ts with
 |nil=>intro t p h;rfl
 |cons s r j=>
  intro t p h;obtain⟨i,v,a,b,e⟩:=CC h;have hi:=(Qc.1 b).1;have c:D6 (AW t ((Ab t).set i (Bz f v r))) s=nM i:=by rw[Rs a (by rw[List.length_set]),a]
  have d:(Ab (AW t ((Ab t).set i (Bz f v r))))[i]? =nM (Bz f v r):=by rw[Ji a,List.getElem?_set_self hi]
  rw[BF a b,BF c d,BF a b,Ji a,V5,List.set_set,j e]
theorem WX{f:Tr->Tr}{ts:List BY}:∀{t p:Tr},Ah t ts=nM p->f p=p->Bz f t ts=t:=by
 induction ts with
 |nil=>intro t p h a;simp only[Ah]at h;injection h with h;subst h;exact a
 |cons s r e=>
  intro t p h a;obtain⟨i,v,b,c,d⟩:=CC h;rw[BF b c,e d a,V4 b c]
theorem Mk{f g:Tr->Tr}{ts:List BY}{t p:Tr}(h:Ah t ts=nM p)(a:g (f p)=p):Bz g (Bz f t ts) ts=t:=by
 rw[Yy h];exact WX h a
theorem L2{ks:List BY}{s:BY}(h:s∉ks):C4 ks s=false:=by
 cases g:C4 ks s with
 |false=>rfl
 |true=>exact absurd (Cp.1 g) h
theorem Tn:D5 IN.data.toList=nN:=ZM
theorem WE(n:Nat):bL IN n=nN:=by unfold bL;rw[Tn]
theorem OZ(k:Nat):(⟨(Go.Lib.decDigits k).toArray⟩:BY).data.toList=Go.Lib.decDigits k:=rfl
theorem SY{k n:Nat}(h:k<n):bL ⟨(Go.Lib.decDigits k).toArray⟩ n=nM k:=GN.2 ⟨OZ k,h⟩
theorem Pb{ks:List BY}(h:Cy ks)(s:BY):∃i,i<=ks.length/\(∀t k,t<i->ks[t]? =nM k->Utf.BK k s<0)/\(∀t k,i<=t->ks[t]? =nM k->0<=Utf.BK k s):=by
  refine⟨(ks.takeWhile fun k=>decide (Utf.BK k s<0)).length,(List.takeWhile_prefix _).length_le, ?_, ?_⟩
  .intro t k f a
   have v:=List.takeWhile_prefix (l:=ks) fun k=>decide (Utf.BK k s<0)
   have:(ks.takeWhile fun k=>decide (Utf.BK k s<0))[t]? =nM k:=by
    obtain⟨r,w⟩:=v;rw[<-w,List.getElem?_append_left f]at a;exact a
   have:=mem_tw' (Qi this);simpa using this
  .intro t k f a
   have d:=List.takeWhile_append_dropWhile (p:=fun k=>decide (Utf.BK k s<0)) (l:=ks)
   generalize y:(ks.takeWhile fun k=>decide (Utf.BK k s<0))=A at d f
   cases g:(ks.dropWhile fun k=>decide (Utf.BK k s<0))with
   |nil=>
    rw[g,List.append_nil]at d;have:=(Qc.1 a).1;rw[d]at f;omega
   |cons b B=>
    rw[g]at d
    have u:¬Utf.BK b s<0:=by
     have:(ks.dropWhile fun k=>decide (Utf.BK k s<0)).head? =nM b:=by rw[g];rfl
     have:=dw_head this;simpa using this
    have n:ks[A.length]? =nM b:=by rw[<-d,List.getElem?_append_right (Q8 _),Nat.sub_self];rfl
    by_cases e:t=A.length
    .subst e;rw[n]at a;injection a with a;subst a;omega
    .have o:=h.lt n a Zj
     by_cases q:Utf.BK k s<0
     .exact absurd (Utf.Ev o q) u
     .omega
 where
  mem_tw' {p:BY->Bool} {l:List BY} {x:BY} (h:x∈l.takeWhile p):p x=true:=by
   induction l with
   |nil=>cases h
   |cons c l m=>
    rw[List.takeWhile_cons]at h;split at h
    .rename_i j
     rcases Qh.1 h with rfl|h
     .exact j
     .exact m h
    .cases h
  dw_head {p:BY->Bool} {l:List BY} {x:BY} (h:(l.dropWhile p).head? =nM x):p x=false:=by
   induction l with
   |nil=>cases h
   |cons c l m=>
    rw[List.dropWhile_cons]at h;split at h
    .exact m h
    .rename_i j;simp at h;subst h;simpa using j
theorem Pp{ks:List BY}{s:BY}{i:Nat}(b:s∉ks)(hi:i<=ks.length):A5 (ks.insertIdx i s) s=i:=by
 unfold A5;rw[AQ ks i hi,List.findIdx_append]
 have a:(ks.take i).findIdx (fun t=>decide (t=s))=i:=by
  have e:(ks.take i).length=i:=by rw[Ql];omega
  conv=>rhs;rw[<-e]
  refine List.findIdx_eq_length.2 fun x c=> ?_
  simp only[decide_eq_false_iff_not];intro e;subst e;exact b (List.mem_of_mem_take c)
 have e:(ks.take i).length=i:=by rw[Ql];omega
 rw[a,Qs Zj,List.findIdx_cons];simp[e]
theorem bE{ks:List BY}{s:BY}{i:Nat}(hi:i<=ks.length):s∈ks.insertIdx i s:=by
 rw[AQ ks i hi];simp
theorem GL{a:Type}(l:List a)(i:Nat)(h:i<=l.length)(x:a):(l.insertIdx i x).eraseIdx i=l:=by
 have e:(l.take i).length=i:=by rw[Ql];omega
 rw[C6,AQ l i h,List.take_append,List.drop_append,e];simp[Qn (Nat.le_of_eq e),List.drop_of_length_le (show(l.take i).length<=i+1 by omega)]
theorem GQ{a:Type}{l:List a}{i:Nat}{x:a}(h:l[i]? =nM x):(l.eraseIdx i).insertIdx i x=l:=by
 have hi:=(Qc.1 h).1;have e:(l.take i).length=i:=by rw[Ql];omega
 have b:i<=(l.eraseIdx i).length:=by rw[List.length_eraseIdx];split<;>omega
 rw[AQ _ i b,C6,List.take_append,List.drop_append,e];simp only[Nat.sub_self,List.take_zero,List.append_nil,List.drop_zero];rw[Qn (Nat.le_of_eq e),List.drop_of_length_le (Nat.le_of_eq e),List.nil_append];exact(CZ h x).1.symm
theorem Yl{s:BY}{x p:Tr}(h:Av p)(a:Gg s p=0)(r:∀ks l,p= .obj ks l->C4 ks s=false):
  Dy (Cj s x p) (Eo s p)=nM x/\CT (Eo s p) (Cj s x p)=p:=by
 cases p with
 |list l=>
  simp only[Cj,Eo];by_cases e:s=IN
  .rw[Qr e,Qr e]
   have b:D6 (.list (l++[x])) ⟨(Go.Lib.decDigits l.length).toArray⟩=nM l.length:=by
    simp only[D6,Qk,Qj,List.length_nil];exact SY Zj
   refine⟨?_, ?_⟩
   .unfold Dy;rw[b];simp[Ab]
   .unfold CT;rw[b]
    simp only;rw[C6];simp
  .rw[Qs e,Qs e]
   simp only[Gg,Qs e]at a
   cases hi:bL s (l.length+1)with
   |none=>
    exfalso
    unfold bL at hi
    cases d:D5 s.data.toList with
    |none=>rw[d]at a;simp at a
    |some k=>
     rw[d]at hi a;simp only at hi a;split at hi
     .cases hi
     .rename_i j;rw[Qs j]at a;cases a
   |some i=>
    have j:=Jf hi;have c:i<=l.length:=Zj
    have b:D6 (.list (l.insertIdx i x)) s=nM i:=by
     simp only[D6];rw[List.length_insertIdx,Qr c];exact hi
    simp only;refine⟨?_, ?_⟩
    .unfold Dy;rw[b]
     simp only[Option.bind_some,Ab];rw[AQ l i c,List.getElem?_append_right (by rw[Ql];omega),Ql,Nat.min_eq_left c,Nat.sub_self];rfl
    .unfold CT;rw[b]
     simp only;rw[GL l i c]
 |obj ks l=>
  have d:=r ks l rfl;simp only[Av]at h;obtain⟨f,n,_⟩:=h;have m:s∉ks:=fun g=>by rw[Cp.2 g]at d;cases d
  obtain⟨i,hi,q,o⟩:=Pb f s;simp only[Cj,Eo];rw[Qs (by rw[d];simp),If f n m hi q o]
  have b:D6 (.obj (ks.insertIdx i s) (l.insertIdx i x)) s=nM i:=by
   simp only[D6];rw[Qr (Cp.2 (bE hi)),Pp m hi]
  refine⟨?_, ?_⟩
  .unfold Dy;rw[b]
   have c:i<=l.length:=Zj
   simp only[Option.bind_some,Ab];rw[AQ l i c,List.getElem?_append_right (by rw[Ql];omega),Ql,Nat.min_eq_left c,Nat.sub_self];rfl
  .unfold CT;rw[b]
   simp only;rw[GL ks i hi,GL l i Zj]
 |_=>simp[Gg]at a
theorem Yj{s:BY}{u p:Tr}(q:Av p)(b:Dy p s=nM u):Gg s (CT s p)=0/\Cj s u (CT s p)=p/\(∀ks l,CT s p= .obj ks l->C4 ks s=false):=by
 obtain⟨i,a,f⟩:=Km b
 cases p with
 |list l=>
  simp only[Ab]at f;simp only[D6]at a;have hi:=(Qc.1 f).1;have x:(l.eraseIdx i).length+1=l.length:=by rw[List.length_eraseIdx,Qr hi];omega
  have o:s≠IN:=fun e=>by subst e;rw[WE]at a;cases a
  have h:CT s (.list l)= .list (l.eraseIdx i):=by unfold CT;simp only[D6,a]
  obtain⟨A,D⟩:=GN.1 a;rw[h];refine⟨?_, ?_,fun ks l e=>by cases e⟩
  .simp only[Gg,Qs o,Gi.2 A]
   rw[Qr Zj]
  .simp only[Cj,Qs o]
   rw[x,a];simp only;rw[GQ f]
 |obj ks l=>
  simp only[Ab]at f;simp only[Av]at q;obtain⟨g,w,_⟩:=q;simp only[D6]at a;split at a
  .rename_i r
   injection a with a
   have z:=Cp.1 r;have d:ks[i]? =nM s:=by rw[<-a];exact Gk z
   have hi:=(Qc.1 d).1;have h:CT s (.obj ks l)= .obj (ks.eraseIdx i) (l.eraseIdx i):=by unfold CT;simp only[D6,Qr r,a]
   have m:s∉ks.eraseIdx i:=by
    intro c;have j:=g.nodup;rw[(CZ d s).1,List.nodup_append]at j;rw[C6]at c
    rcases Qf.1 c with c|c
    .exact j.2.2 s c s Zh rfl
    .exact(List.nodup_cons.1 j.2.1).1 c
   have C:(ks.eraseIdx i).length+1=ks.length:=by rw[List.length_eraseIdx,Qr hi];omega
   rw[h];refine⟨rfl, ?_,fun E F e=>by injection e with v B;subst v;exact L2 m⟩;simp only[Cj];rw[Qs (by rw[L2 m];simp)];have y:(ks.eraseIdx i).length=(l.eraseIdx i).length:=by rw[List.length_eraseIdx,List.length_eraseIdx,w]
   rw[If (i:=i) (g.erase i) y m Zj ?_ ?_,GQ d,GQ f]
   .intro t k n b
    rw[List.getElem?_eraseIdx,Qr n]at b;exact g.lt b d n
   .intro t k n b
    rw[List.getElem?_eraseIdx,Qs Zj]at b;have:=g.lt d b Zj;rw[Utf.Ej s k];omega
  .cases a
 |_=>simp[D6]at a
theorem YR{ks:List BY}{l:List Tr}{s:BY}{x:Tr}(f:ks.length=l.length)(a:C4 ks s=true):
  Dy (Cj s x (.obj ks l)) s=nM x/\Bz (fun _=>l.getD (A5 ks s) .null) (Cj s x (.obj ks l)) [s]= .obj ks l:=by
 have e:=Cp.1 a;have g:=Dk e;have b:A5 ks s<l.length:=Zj
 simp only[Cj,Qr a];have c:D6 (.obj ks (l.set (A5 ks s) x)) s=nM (A5 ks s):=by simp only[D6,Qr a]
 have d:(Ab (.obj ks (l.set (A5 ks s) x)))[A5 ks s]? =nM x:=by simp only[Ab];exact List.getElem?_set_self b
 refine⟨by unfold Dy;rw[c];exact d, ?_⟩;rw[BF c d];simp only[Bz,AW,Ab,List.set_set];rw[List.getD_eq_getElem?_getD,Q9 b,Option.getD_some,List.set_getElem_self]
structure ZL(o:Bq):Prop where
 path:o.path.size<=2147483648
 frm:o.frm.size<=2147483648
 steps:∀s∈o.steps,Di s
structure Bt(t:Tr):Prop where
 good:Av t
 fits:(Ag t).within=true
theorem FD{l:List Ap}(a:∀s∈l,Di s){t:Tr}(h:AS l=nM t):Bt t:=by
 unfold AS at h;split at h
 .rename_i b
  refine⟨SW a b h, ?_⟩;unfold CA at h;split at h
  .rename_i r c
   injection h with h
   subst h;exact(Jq (row:=[]) (fun t d=>by cases d) c).1 _ Zh
  .cases h
 .cases h
theorem Bt.lead{ts:List BY}:∀{t u:Tr},Bt t->Ah t ts=nM u->Bt u:=by
 induction ts with
 |nil=>intro t u h a;simp only[Ah]at a;injection a with a;exact a▸h
 |cons s r e=>
  intro t u h a;obtain⟨i,v,f,c,d⟩:=CC a;have b:=Qi c;exact e ⟨h.good.items v b,C8 h.fits b⟩ d
theorem Bt.many{t:Tr}(h:Bt t):(Ab t).length<65536:=Q6 (Bj t) (Ar h.fits).1
structure DR(ts:List BY):Prop where
 right:∀s∈ts,Utf.Al s=true
 small:∀s∈ts,s.size<=2147483648
 many:ts.length<=65536
theorem PK{s:BY}{ts:List BY}(h:AD s=nM ts)(a:s.size<=2147483648):DR ts:=
 ⟨Pn h,fun t b=>Q7 (Lf h t b) a,NK h⟩
theorem Re{ts:List BY}(h:ts≠[]):AH ts∈ts:=by
 have a:AH ts∈ts.dropLast++[AH ts]:=Zh
 rwa[CL ts h]at a
theorem DR.last{ts:List BY}(h:DR ts)(a:ts≠[]):Utf.Al (AH ts)=true/\(AH ts).size<=2147483648:=⟨h.right _ (Re a),h.small _ (Re a)⟩
theorem Ol{t:Tr}{ts:List BY}(b:ts≠[])(h:EN t ts=0):∃p,Ah t ts.dropLast=nM p/\Gg (AH ts) p=0:=by
 unfold EN at h;rw[Qs b]at h
 cases a:Ah t ts.dropLast with
 |none=>rw[a]at h;cases h
 |some p=>rw[a]at h;exact⟨p,rfl,h⟩
theorem Bt.add{t x:Tr}{ts:List BY}(h:Bt t)(d:Bt x)(j:DR ts)(f:EN t ts=0)(e:(Ag (At t ts x)).within=true):Bt (At t ts x):=by
 refine⟨?_,e⟩;unfold At;by_cases a:ts=[]
 .rw[Qr a];exact d.good
 .rw[Qs a]
  obtain⟨p,b,k⟩:=Ol a f;have c:=h.lead b;obtain⟨g,i⟩:=j.last a;exact h.good.mod b (c.good.add d.good g i c.many)
theorem Bt.set{t x u:Tr}{ts:List BY}(h:Bt t)(c:Bt x)(b:Ah t ts=nM u)(a:(Ag (AE t ts x)).within=true):Bt (AE t ts x):=
 ⟨h.good.mod b c.good,a⟩
theorem QC{s:BY}{p u:Tr}(m:Av p)(h:Dy p s=nM u):(Ag (CT s p)).nodes+(Ag u).nodes=(Ag p).nodes/\(Ag (CT s p)).bytes<=(Ag p).bytes/\(Ag (CT s p)).depth<=(Ag p).depth/\
  (∀b,(b=match p with| .obj _ _=>s.size|_=>0)->(Ag (CT s p)).bytes+(Ag u).bytes+b=(Ag p).bytes):=by
 obtain⟨i,a,c⟩:=Km h
 cases p with
 |list l=>
  simp only[Ab]at c;have f:CT s (.list l)= .list (l.eraseIdx i):=by unfold CT;rw[a]
  rw[f];have d:=(Kc c u).1;simp only[Ag,d,Sz.add,Sz.over];refine⟨Zj,Zj,Zj,fun b e=>by subst e;omega⟩
 |obj ks l=>
  simp only[Ab]at c;have f:CT s (.obj ks l)= .obj (ks.eraseIdx i) (l.eraseIdx i):=by unfold CT;rw[a]
  rw[f];have d:=(Kc c u).1
  have k:ks[i]? =nM s:=by
   simp only[D6]at a;split at a
   .rename_i j;injection a with a;rw[<-a];exact Gk (Cp.1 j)
   .cases a
  have g:=IW k;simp only[Ag,d,g,Sz.add,Sz.over];refine⟨Zj,Zj,Zj,fun b e=>by subst e;omega⟩
 |_=>simp[D6]at a
theorem WO{f:Tr->Tr}{ts:List BY}:∀{t p:Tr},Ah t ts=nM p->(Ag (f p)).nodes<=(Ag p).nodes->(Ag (f p)).bytes<=(Ag p).bytes->(Ag (f p)).depth<=(Ag p).depth->
  (Ag (Bz f t ts)).nodes<=(Ag t).nodes/\(Ag (Bz f t ts)).bytes<=(Ag t).bytes/\(Ag (Bz f t ts)).depth<=(Ag t).depth:=by
 induction ts with
 |nil=>intro t p h a b c;simp only[Ah]at h;injection h with h;subst h;exact⟨a,b,c⟩
 |cons s r m=>
  intro t p h a b c;obtain⟨i,v,g,j,k⟩:=CC h;obtain⟨n,o,q⟩:=m k a b c;rw[BF g j];obtain⟨d,e⟩:=Kc j (Bz f v r)
  rcases IA g with⟨l,rfl⟩|⟨ks,l,rfl⟩
  .simp only[AW,Ab,Ag]at*
   rw[d,e];simp only[Sz.add,Sz.over];omega
  .simp only[AW,Ab,Ag]at*
   rw[d,e];simp only[Sz.add,Sz.over];omega
theorem Jj{t u:Tr}{ts:List BY}(b:ts≠[])(h:Ah t ts=nM u):∃p,Ah t ts.dropLast=nM p/\Dy p (AH ts)=nM u:=by
 rw[<-CL ts b,BW]at h
 cases a:Ah t ts.dropLast with
 |none=>rw[a]at h;cases h
 |some p=>rw[a]at h;exact⟨p,rfl,by simpa using h⟩
theorem Bt.cut{t u:Tr}{ts:List BY}(h:Bt t)(i:ts≠[])(g:Ah t ts=nM u):Bt (A8 t ts):=by
 obtain⟨p,a,e⟩:=Jj i g;have b:=h.lead a;obtain⟨j,c,d,_⟩:=QC b.good e;obtain⟨k,l,m⟩:=WO (f:=CT (AH ts)) a Zj c d;have:=Ar h.fits;refine⟨h.good.mod a b.good.cut, ?_⟩;unfold A8 Sz.within;simp;omega
theorem Ib{t a:Tr}{u v:List CW}(h:Kj t u= .yes a v):a=t/\v=u/\(Ag t).within=true:=by
 unfold Kj at h;split at h
 .injection h with b c;exact⟨b.symm,c.symm,by assumption⟩
 .cases h
theorem Fd{t a x:Tr}{ts:List BY}{m v:List CW}(h:Ga t ts x m= .yes a v):EN t ts=0/\a=At t ts x/\v=Dd t ts::m/\(Ag (At t ts x)).within=true:=by
 unfold Ga at h;split at h
 .cases h
 .rename_i b
  obtain⟨c,d,e⟩:=Ib h;exact⟨by simpa using b,c,d,e⟩
theorem Jb{a:BY}{ts:List BY}(h:AD a=nM ts)(b:EV a ⟨#[]⟩=false):ts=[]:=by
 cases ts with
 |nil=>rfl
 |cons t l=>
  have:=JZ h;have c:a.data.toList=47::(esc t.data.toList++Bl (l.map fun t=>t.data.toList)):=by rw[<-this];rfl
  unfold EV at b;rw[c]at b;simp at b
theorem D7{ts:List BY}{a:BY}(h:AD a=nM ts):ts=[]↔a=⟨#[]⟩:=by
 constructor
 .intro e;subst e;rw[<-JZ h];rfl
 .intro e;subst e
  have:AD ⟨#[]⟩=nM []:=by
   have:=FT (ts:=[]) (fun t b=>by cases b) Zh;exact this
  rw[this]at h;injection h with h;exact h.symm
theorem LX{t z:Tr}{o:Bq}{v:List CW}(h:Bt t)(q:ZL o)(a:Gz t o= .yes z v):Bt z:=by
 unfold Gz at a;split at a
 .cases a
 .rename_i c
  have c:Bn o=0:=by simpa using c
  unfold Bn at c;split at c
  .cases c
  .rename_i B
   split at c
   .cases c
   .rename_i j
    split at c
    .cases c
    .rename_i y
     simp only[not_or,not_and]at B j y;obtain⟨n,k⟩:=Option.ne_none_iff_exists'.1 j.1;have m:=PK k q.path;rw[k,Option.getD_some]at a
     have p:AN o.kind=true->Bt ((AS o.steps).getD .null):=by
      intro C;have:=y C
      cases r:AS o.steps with
      |none=>rw[r]at this;simp at this
      |some x=>exact FD q.steps r
     unfold Da at a;split at a
     .rename_i D
      obtain⟨g,rfl,_,d⟩:=Fd a;exact h.add (p (by rw[D];rfl)) m g d
     .split at a
      .split at a
       .cases a
       .rename_i l
        cases b:Ah t n with
        |none=>rw[b]at a;cases a
        |some u=>rw[b]at a;injection a with a _;subst a;exact h.cut l b
      .split at a
       .rename_i E
        cases b:Ah t n with
        |none=>rw[b]at a;cases a
        |some u=>
         rw[b]at a;obtain⟨rfl,_,d⟩:=Ib a;exact h.set (p (by rw[E];rfl)) b d
       .split at a
        .rename_i F
         split at a
         .cases a
         .rename_i s
          cases f:AD o.frm with
          |none=>exact absurd f (j.2 (by rw[F];rfl))
          |some i=>
           rw[f,Option.getD_some]at a
           cases b:Ah t i with
           |none=>rw[b]at a;cases a
           |some u=>
            rw[b]at a;simp only at a;split at a
            .injection a with a _;subst a;exact h
            .rename_i w
             obtain⟨g,rfl,_,d⟩:=Fd a
             have l:i≠[]:=by
              intro e;subst e;have A:=(D7 f).1 rfl;rw[A]at s w;have:=Jb k (by simpa using s);exact w ((D7 k).1 this)
             exact(h.cut l b).add (h.lead b) m g d
        .split at a
         .rename_i G
          cases f:AD o.frm with
          |none=>exact absurd f (j.2 (by rw[G];rfl))
          |some i=>
           rw[f,Option.getD_some]at a
           cases b:Ah t i with
           |none=>rw[b]at a;cases a
           |some u=>
            rw[b]at a;obtain⟨g,rfl,_,d⟩:=Fd a;exact h.add (h.lead b) m g d
         .cases b:Ah t n with
          |none=>rw[b]at a;cases a
          |some u=>
           rw[b]at a;simp only at a;split at a
           .injection a with a _;subst a;exact h
           .cases a
theorem Td{t p:Tr}{ts:List BY}(h:Ah t ts=nM p):ts.length+(Ag p).depth<=(Ag t).depth:=by
 have g:=Eg.mod (f:=fun u=>u) h (Eg.here (Ag p) (Ag p));rw[WX h rfl]at g;have:=g.low;omega
def NC(p:Tr)(s:BY):Nat:=match p with
 | .obj _ _=>s.size
 |_=>0
theorem MR{t x p:Tr}{ts:List BY}(h:Bt t)(d:ts≠[])(a:Ah t ts.dropLast=nM p)(i:Gg (AH ts) p=0)(j:∀ks l,p= .obj ks l->C4 ks (AH ts)=false):
  (Ag (At t ts x)).nodes=(Ag t).nodes+(Ag x).nodes/\(Ag (At t ts x)).bytes=(Ag t).bytes+(Ag x).bytes+NC p (AH ts)/\
  (Ag (At t ts x)).within=(decide ((Ag t).nodes+(Ag x).nodes<=65536)&&decide ((Ag t).bytes+(Ag x).bytes+NC p (AH ts)<=2097152)&&decide (ts.length+(Ag x).depth<=512)):=by
 have e:At t ts x=Bz (Cj (AH ts) x) t ts.dropLast:=by unfold At;rw[Qs d]
 have k:=h.lead a;obtain⟨m,n,o,q⟩:=VA (x:=x) k.good i j (NC p (AH ts)) (by unfold NC;cases p<;>rfl);have g:=Eg.mod (f:=Cj (AH ts) x) a (Eg.here (Ag p) (Ag (Cj (AH ts) x p)));rw[<-e]at g;have r:=Td a;have u:=Ar h.fits;have s:ts.dropLast.length+1=ts.length:=by have:=List.length_pos_iff.2 d;simp;omega
 have v:=g.nodes;have w:=g.bytes;have y:=g.up;have z:=g.low;have b:(Ag (At t ts x)).nodes=(Ag t).nodes+(Ag x).nodes:=Zj
 have c:(Ag (At t ts x)).bytes=(Ag t).bytes+(Ag x).bytes+NC p (AH ts):=Zj
 refine⟨b,c, ?_⟩;unfold Sz.within;rw[b,c]
 congr 1
 rw[decide_eq_decide];omega
theorem J4{t x u:Tr}{ts:List BY}(h:Bt t)(a:Ah t ts=nM u):
  (Ag (AE t ts x)).nodes+(Ag u).nodes=(Ag t).nodes+(Ag x).nodes/\(Ag (AE t ts x)).bytes+(Ag u).bytes=(Ag t).bytes+(Ag x).bytes/\
  (Ag (AE t ts x)).within=(decide ((Ag t).nodes+(Ag x).nodes-(Ag u).nodes<=65536)&&decide ((Ag t).bytes+(Ag x).bytes-(Ag u).bytes<=2097152)&&decide (ts.length+(Ag x).depth<=512)):=by
 have g:=XM (x:=x) a;exact⟨g.nodes,g.bytes,PM g h.fits⟩
theorem R9{t u p:Tr}{ts:List BY}(h:Bt t)(i:ts≠[])(e:Ah t ts=nM u)(b:Ah t ts.dropLast=nM p):
  (Ag (A8 t ts)).nodes+(Ag u).nodes=(Ag t).nodes/\(Ag (A8 t ts)).bytes+(Ag u).bytes+NC p (AH ts)=(Ag t).bytes:=by
 obtain⟨m,a,d⟩:=Jj i e
 rw[b]at a;injection a with a;subst a
 have j:=h.lead b;obtain⟨c1,_,_,c⟩:=QC j.good d;have c:=c (NC p (AH ts)) (by unfold NC;cases p<;>rfl);have g:=Eg.mod (f:=CT (AH ts)) b (Eg.here (Ag p) (Ag (CT (AH ts) p)));have k:=g.nodes;have l:=g.bytes;unfold A8;omega
theorem T9{t x:Tr}{ts:List BY}{ks:List BY}{l:List Tr}(h:Bt t)(b:ts≠[])(a:Ah t ts.dropLast=nM (.obj ks l))(d:C4 ks (AH ts)=true):
  At t ts x=AE t ts x/\Ah t ts=nM (l.getD (A5 ks (AH ts)) .null)/\Dd t ts=⟨3,A6 ts,Dz,Ai (l.getD (A5 ks (AH ts)) .null)⟩:=by
 have w:ks.length=l.length:=(h.lead a).good.2.1;have y:=Dk (Cp.1 d);have k:A5 ks (AH ts)<l.length:=Zj
 have m:D6 (.obj ks l) (AH ts)=nM (A5 ks (AH ts)):=by simp only[D6,Qr d]
 have hi:(Ab (.obj ks l))[A5 ks (AH ts)]? =nM (l[A5 ks (AH ts)]'k):=Q9 k;refine⟨?_, ?_, ?_⟩
 .unfold At AE
  rw[Qs b]
  have e:Bz (fun _=>x) t (ts.dropLast++[AH ts])=Bz (Cj (AH ts) x) t ts.dropLast:=by
   rw[Gh]
   have p:∀(f g:Tr->Tr) (c:List BY) (t:Tr),Ah t c=nM (.obj ks l)->f (.obj ks l)=g (.obj ks l)->Bz f t c=Bz g t c:=by
    intro f g c
    induction c with
    |nil=>intro t a j;simp only[Ah]at a;injection a with a;subst a;exact j
    |cons s r q=>
     intro t a j;obtain⟨i,v,n,o,u⟩:=CC a;rw[BF n o,BF n o,q v u j]
   refine p _ _ _ _ a ?_;rw[BF m hi];simp only[Cj,Qr d,Bz,AW,Ab]
  rw[CL ts b]at e;exact e.symm
 .have e:Ah t (ts.dropLast++[AH ts])=nM (l.getD (A5 ks (AH ts)) .null):=by
   rw[BW,a];simp only[Option.bind_some,Dy,m,hi];rw[List.getD_eq_getElem?_getD,Q9 k];rfl
  rwa[CL ts b]at e
 .unfold Dd
  rw[Qs b,a];simp only[Option.getD_some,GF];rw[Qr d,CL ts b]
end
end Go.Proofs.YtkfnkppdhcaeoaaGreatDoor

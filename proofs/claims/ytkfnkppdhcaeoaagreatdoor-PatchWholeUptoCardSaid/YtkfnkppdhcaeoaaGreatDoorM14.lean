/- Part 14 of the proof of patchJoined_card. -/
import Derived.Test.YtkfnkppdhcaeoaaGreatDoorM13
set_option maxRecDepth 100000
set_option maxHeartbeats 32000000
set_option linter.unusedSimpArgs false
set_option linter.unusedVariables false
set_option linter.unnecessarySimpa false
namespace Go.Proofs.YtkfnkppdhcaeoaaGreatDoor
open Go renaming Calls->Cl,TypeId->Ti,Value->Vl,World->Wl
section
open _root_.Go.Proofs.Tryz
open Go Go.RowKit Tree
def V6:Vl:= .agg #[.string ⟨#[]⟩,.int .i64 0,.bool false,.int .u64 0,.string ⟨#[]⟩,.slice none 0 0,.slice none 0 0]
theorem Ic:(prog.info? 255).map (fun i=>(i.zero,i.size,i.bytes))=some (some V6,7,104):=by kernel_rfl
def NP:Vl:= .agg #[.int .i64 0,.bool false,.int .u64 0,.string ⟨#[]⟩,.slice none 0 0,.slice none 0 0]
theorem Dp:(prog.info? 29).map (fun i=>(i.zero,i.size,i.bytes))=some (some NP,6,88):=by kernel_rfl
theorem It:(prog.info? 255).map (·.size)=some 7:=by kernel_rfl
abbrev SA:=BY×List Vl
def CX(p:SA):List Vl:= .string p.1::p.2
def CQ(l:List SA):List Vl:=l.flatMap CX
def Fy(p:SA):Prop:=
 JA p.1/\∃(i:Int) (b:Bool) (a:Int) (j:BY) (f:Option Addr) (h g:Nat) (c:Option Addr) (e d:Nat),p.2=vC i b a j (.slice f h g) (.slice c e d)
theorem Fy.length{p:SA}(h:Fy p):(CX p).length=7:=by
 obtain⟨_,_,_,_,_,_,_,_,_,_,_,h⟩:=h;unfold CX;rw[h];rfl
theorem Bm(p:SA)(l:List SA):CQ (p::l)=CX p++CQ l:=by simp[CQ]
theorem EM(l m:List SA):CQ (l++m)=CQ l++CQ m:=by simp[CQ]
theorem D4{l:List SA}(h:∀p∈l,Fy p):(CQ l).length=l.length*7:=by
 induction l with
 |nil=>rfl
 |cons p l b=>rw[Bm,Qk,b fun q a=>h q (by simp[a]),(h p (by simp)).length,Qj];omega
theorem Va{l:List SA}(h:∀p∈l,Fy p)(k:Nat):(CQ l).take (k*7)=CQ (l.take k):=by
 induction l generalizing k with
 |nil=>simp[CQ]
 |cons p l b=>
  cases k with
  |zero=>simp[CQ]
  |succ k=>
   rw[Bm,List.take_succ_cons,Bm,List.take_append,(h p (by simp)).length,Qn (by rw[(h p (by simp)).length];omega),show(k+1)*7-7=k*7 from by omega,
    b fun q a=>h q (by simp[a])]
theorem Ok{l:List SA}(h:∀p∈l,Fy p)(k:Nat):(CQ l).drop (k*7)=CQ (l.drop k):=by
 induction l generalizing k with
 |nil=>simp[CQ]
 |cons p l b=>
  cases k with
  |zero=>simp
  |succ k=>
   rw[Bm,List.drop_succ_cons,List.drop_append,(h p (by simp)).length,List.drop_of_length_le (by rw[(h p (by simp)).length];omega),show(k+1)*7-7=k*7 from by omega,
    b fun q a=>h q (by simp[a]),List.nil_append]
theorem Ba.capLe{w:Wl}{a:Option Addr}{n m b sz:Nat}{e:Ti}{vs:List Vl}(h:Ba w (.slice a n b) e sz m vs):n=m/\m<=b:=by
 rcases h.2 with⟨c,j⟩|⟨g,f,i,d,_,_,k,_⟩
 .injection c;omega
 .injection d;omega
theorem Ba.rowC{w:Wl}{sv:Vl}{e:Ti}{sz n:Nat}{xs:List Vl}(h:Ba w sv e sz n xs)(d:xs.length=n*sz):As w sv sz n xs:=by
 obtain⟨a,c,rfl,k⟩:=h.form;have j:=h.capLe;refine⟨a,c,rfl,j.2,d,fun i v f=> ?_⟩
 obtain⟨g,rfl⟩:=k (by
  rcases Nat.eq_zero_or_pos n with b|b
  .have:=(Qc.1 f).1
   rw[d,b]at this;omega
  .exact b)
 exact⟨g,0,rfl,by rw[Nat.zero_add];exact h.cell rfl i v f⟩
end
section
open Go Go.RowKit Tree
theorem Lk{ks:List BY}{cl:List (List Vl)}(a:ks.length=cl.length):(Hl Prod.fst (ks.zip cl)).map Prod.fst=AY ks:=by
 have c:(ks.zip cl).map Prod.fst=ks:=List.map_fst_zip (Nat.le_of_eq a)
 have b:((Hl Prod.fst (ks.zip cl)).map Prod.fst).Perm ks:=by
  have:=(Gs Prod.fst (ks.zip cl)).map Prod.fst;rwa[c]at this
 refine DU (fun s=>s) (b.trans (DG ks).symm) ?_ (Cs (fun s=>s) ks) (fun _ _ _ _ h=>h);rw[List.pairwise_map];exact Cs Prod.fst (ks.zip cl)
theorem Sj{ks:List BY}{cl:List (List Vl)}(m:ks.Nodup)(k:ks.length=cl.length){i:Nat}{s:BY}(h:(AY ks)[i]? =some s):
  ∃c,cl[A5 ks s]? =some c/\(Hl Prod.fst (ks.zip cl))[i]? =some (s,c):=by
 rw[<-Lk k,List.getElem?_map]at h;obtain⟨p,a,rfl⟩:=Option.map_eq_some_iff.1 h;have l:p∈ks.zip cl:=(Ka Prod.fst).1 (Qi a);obtain⟨j,g⟩:=List.mem_iff_getElem?.1 l;obtain⟨e,f⟩:=List.getElem?_zip_eq_some.1 g;obtain⟨b,d⟩:=Qc.1 e;have:=GU m j b;rw[d]at this;exact⟨p.2,by rw[this];exact f,a⟩
theorem Aq.chunks{w:Wl}{F:Nat->Prop}:∀{l:List Tr} {xs:List Vl},Aq w F l xs->∃cl:List (List Vl),xs=cl.flatten/\cl.length=l.length/\∀(i:Nat) (t:Tr) (c:List Vl),l[i]? =some t->cl[i]? =some c->AL w F t c
 |[],xs,h=>⟨[],by simpa[Aq]using h,rfl,fun i t c a _=>by simp at a⟩
 |t::l,xs,h=>by
  simp only[Aq]at h;obtain⟨c,r,rfl,e,f⟩:=h;obtain⟨cl,rfl,g,j⟩:=Aq.chunks f;refine⟨c::cl,rfl,by simp[g],fun i u d a b=> ?_⟩
  cases i with
  |zero=>simp at a b;subst a;subst b;exact e
  |succ i=>exact j i u d (by simpa using a) (by simpa using b)
theorem Hb{w:Wl}{F:Nat->Prop}:∀{l:List Tr} {cl:List (List Vl)},cl.length=l.length->(∀(i:Nat) (t:Tr) (c:List Vl),l[i]? =some t->cl[i]? =some c->AL w F t c)->Aq w F l cl.flatten
 |[],cl,a,_=>by
  have:cl=[]:=List.eq_nil_of_length_eq_zero a;subst this;simp[Aq]
 |t::l,[],a,_=>by simp at a
 |t::l,c::cl,a,h=>by
  simp only[Aq];exact⟨c,cl.flatten,rfl,h 0 t c rfl rfl,Hb (by simpa using a) fun i u d b e=>h (i+1) u d (by simpa using b) (by simpa using e)⟩
theorem AL.mem{w:Wl}{F:Nat->Prop}{t:Tr}{c:List Vl}(h:AL w F t c){s:BY}(a:JA s):Fy (s,c):=by
 obtain⟨e,f,b,d,xs,h,_⟩:=h.uni;exact⟨a,_,_,_,_,_,_,_,_,_,_,h⟩
theorem WW(l:List SA):(l.map Prod.snd).flatten=l.flatMap Prod.snd:=by simp[List.flatMap]
theorem Bw{P:Program}{l:Array Oper}{o:Oper}{a:Act}{K:Act->Wl->Prop}{Q:Exit->Act->Wl->Prop}{E:Prop}{w:Wl}(y:o.guard=none)(s x:Operand)(t:Ti)(F:o.op= .call {callee:= .builtin .append,args:=#[s,x],argTypes:=#[t,t]})(e:Ti)(z:Vl)(sz d:Nat)(J:0<sz)(M:P.underlying t=some (.slice e))(A:(P.info? e).map (fun i=>(i.zero,i.size,i.bytes))=some (some z,sz,d))(W:z.cells.size=sz)(sv:Vl)(n:Nat)(xs:List Vl)(I:a.eval s=sv)(G:Ba w sv e sz n xs)(B:Nat)(us:List Vl)(U:a.eval x= .slice (some ⟨B,0,none⟩) 1 1)(R:us.length=sz)(N:∀j v,us[j]? =some v->w.cell? ⟨B,j,none⟩=some v)(O:∀u∈us,u.oneCell'=true)(f:(n+1)*d<=140737488355328)(Y:n<=140737488355328)(h:∀g c w',Ba w' (.slice (some ⟨g,0,none⟩) (n+1) c) e sz (n+1) (xs++us)->Chg w w' sv.ownBlock.toList->(sv.ownBlock=some g\/g=w.heap.size)->
   K (a.put o.dst (.slice (some ⟨g,0,none⟩) (n+1) c)) w'):
  if Region.wanted o (yielded l a.tmps)=true then Oper.wp P o a w K Q else E:=by
 obtain⟨i,hi,V,L,q⟩:=info_parts A
 have D:∀j v,us[j]? =some v->w.cell? ((⟨B,0,none⟩:Addr).add j)=some v:=fun j v S=>by
  rw[show(⟨B,0,none⟩:Addr).add j=⟨B,j,none⟩from by unfold Addr.add;split<;>simp_all];exact N j v S
 obtain⟨g,c,w',H,m,b,p,X⟩:=run_append_lies (P:=P) w t o.type 0 e i z sz d M hi V L q W J sv n xs G ⟨B,0,none⟩ 1 1 us (by rw[R,Nat.one_mul]) D O (by decide) (by unfold maxLen;omega) f (Nat.zero_le _) _ rfl;have T:Region.wanted o (yielded l a.tmps)=true:=by simp[Region.wanted,y]
 rw[Qr T];unfold Oper.wp execOp;simp only[F,resolve,invoke,builtin,Sem.run_bind,Sem.run_pure,Result.andThen_ok,List.map_toArray,List.map_cons,List.map_nil,I,U,H];exact(h g c w' m ⟨b.os,b.tape,b.output,b.size,fun k C f=>b.block k C fun r=>f (by rw[<-r];simp)⟩ p)
structure Ap where
 sort:Int
 flag:Bool
 bits:Nat
 text:BY
 count:Int
 keys:List BY
def Kw(s:Ap):Bool:=
 Bs s.sort s.flag s.bits s.text s.count s.keys.length&&(!decide (s.sort=3)||Fl.Fh s.bits)&&(Utf.Al s.text&&s.keys.all Utf.Al)&&decide s.keys.Nodup
def Hn(s:Ap):Nat:=s.count.toNat+s.keys.length
def CF(s:Ap)(a:List Tr):Tr:=
 if s.sort=1 then .null else if s.sort=2 then .flag s.flag else if s.sort=3 then .num (Cg s.bits)else if s.sort=4 then .text s.text else if s.sort=5 then .list a else D1 s.keys a
def AF(s:Ap)(l:List Tr):Tr:=CF s (l.drop (l.length-Hn s))
def Ds(s:Ap)(l:List Tr):Bool:=Kw s&&decide (Hn s<=l.length)&&(Ag (AF s l)).within
def NW(l:List Tr)(s:Ap):List Tr:=l.take (l.length-Hn s)++[AF s l]
structure Di(s:Ap):Prop where
 bits:s.bits<18446744073709551616
 text:s.text.size<=2147483648
 keys:s.keys.length<=2147483648
 size:∀k∈s.keys,k.size<=2147483648
 sum:Ay s.keys<=4294967296
 count: -9223372036854775808<=s.count/\s.count<=9223372036854775807
theorem CU{s:Ap}:Kw s=true↔Bs s.sort s.flag s.bits s.text s.count s.keys.length=true/\(s.sort=3->Fl.Fh s.bits=true)/\Utf.Al s.text=true/\s.keys.all Utf.Al=true/\s.keys.Nodup:=by
 unfold Kw;simp only[Bool.and_eq_true,Bool.or_eq_true,Bool.not_eq_true',decide_eq_true_eq,decide_eq_false_iff_not]
 constructor
 .rintro⟨⟨⟨a,b⟩,c,d⟩,e⟩
  exact⟨a,fun h=>b.resolve_left (fun g=>g h),c,d,e⟩
 .rintro⟨a,b,c,d,e⟩
  refine⟨⟨⟨a, ?_⟩,c,d⟩,e⟩;by_cases h:s.sort=3
  .exact .inr (b h)
  .exact .inl h
theorem Gw{s:Ap}(h:Bs s.sort s.flag s.bits s.text s.count s.keys.length=true):
  1<=s.sort/\s.sort<=6/\0<=s.count/\(s.flag=true->s.sort=2)/\(s.bits≠0->s.sort=3)/\(s.text≠Dz->s.sort=4)/\(s.count≠0->s.sort=5)/\(s.keys≠[]->s.sort=6):=by
 unfold Bs at h;simp only[Bool.and_eq_true,Bool.or_eq_true,decide_eq_true_eq,Bool.not_eq_true']at h;obtain⟨⟨⟨⟨⟨⟨⟨a,b⟩,c⟩,d⟩,f⟩,i⟩,j⟩,k⟩:=h;refine⟨a,b,c,fun g=>d.resolve_left (by simp[g]),fun g=>f.resolve_left g,fun g=>i.resolve_left fun e=>g ?_,fun g=>j.resolve_left g,fun g=>k.resolve_left fun e=>g (List.eq_nil_of_length_eq_zero e)⟩;rw[ByteArray.toList_eq]at e;exact ByteArray.ext (Array.toList_inj.1 e)
theorem EJ.append{l m:List Tr}(h:EJ l)(k:EJ m):EJ (l++m):=fun t a=>(Qf.1 a).elim (h t) (k t)
theorem Ww{l:List Tr}{s:Ap}(b:EJ l)(h:Ds s l=true):EJ (NW l s):=by
 unfold Ds at h;simp only[Bool.and_eq_true]at h;exact EJ.append (b.take _) fun t a=>by simp at a;subst a;exact h.2
theorem LY{l:List Tr}{s:Ap}:(NW l s).length<=l.length+1:=by
 unfold NW;simp
def AI(s:Ap)(sk:Vl):List Vl:=[.int .i64 s.sort,.bool s.flag,.int .u64 s.bits,.string s.text,.int .i64 s.count,sk]
def Az(w:Wl):List Ap->List Vl->Prop
 |[],xs=>xs=[]
 |s::l,xs=>∃sk r,xs=AI s sk++r/\As w sk 1 s.keys.length (Ad s.keys)/\Az w l r
theorem Az.kept{w w':Wl}(a:Chg w w' []):∀{l:List Ap} {xs:List Vl},Az w l xs->Az w' l xs
 |[],_,h=>h
 |s::l,_,⟨sk,r,b,c,d⟩=>⟨sk,r,b,c.kept a,d.kept a⟩
theorem Az.length{w:Wl}:∀{l:List Ap} {xs:List Vl},Az w l xs->xs.length=l.length*6
 |[],_,h=>by unfold Az at h;subst h;rfl
 |s::l,_,⟨sk,r,a,_,b⟩=>by subst a;have:=b.length;simp[AI];omega
theorem Az.append{w:Wl}:∀{l m:List Ap} {xs ys:List Vl},Az w l xs->Az w m ys->Az w (l++m) (xs++ys)
 |[],_,_,_,h,k=>by unfold Az at h;subst h;exact k
 |s::l,_,_,_,⟨sk,r,a,b,c⟩,k=>⟨sk,r++_,by rw[a,List.append_assoc],b,c.append k⟩
theorem Az.get{w:Wl}:∀{l:List Ap} {xs:List Vl},Az w l xs->∀(i:Nat) (s:Ap),l[i]? =some s->∃sk,As w sk 1 s.keys.length (Ad s.keys)/\∀j v,(AI s sk)[j]? =some v->xs[i*6+j]? =some v
 |[],_,_,i,s,a=>by simp at a
 |k::l,_,⟨sk,r,c,d,e⟩,i,s,a=>by
  subst c
  cases i with
  |zero=>
   simp at a;subst a;refine⟨sk,d,fun j v b=> ?_⟩;have f:j<(AI k sk).length:=(Qc.1 b).1;rw[Nat.zero_mul,Nat.zero_add,List.getElem?_append_left f,b]
  |succ i=>
   obtain⟨m,g,h⟩:=e.get i s (by simpa using a);refine⟨m,g,fun j v b=> ?_⟩;rw[List.getElem?_append_right (by simp[AI];omega),<-h j v b]
   congr 1
   simp[AI];omega
def DS:List Tr->List Ap->Option (List Tr)
 |row,[]=>some row
 |row,s::l=>if Ds s row=true then DS (NW row s) l else none
def CA(l:List Ap):Option Tr:=match DS [] l with
 |some [t]=>some t
 |_=>none
theorem OA{row:List Tr}{l:List Ap}{k:Nat}:DS row l=(match DS row (l.take k)with|some r=>DS r (l.drop k)|none=>none):=by
 induction l generalizing row k with
 |nil=>simp[DS]
 |cons s l a=>
  cases k with
  |zero=>simp[DS]
  |succ k=>
   simp only[List.take_succ_cons,List.drop_succ_cons,DS];split
   .exact a
   .rfl
theorem KE{row r:List Tr}{l:List Ap}{k:Nat}{s:Ap}(h:DS row (l.take k)=some r)(b:l[k]? =some s):DS row (l.take (k+1))=if Ds s r=true then some (NW r s)else none:=by
 have a:=OA (row:=row) (l:=l.take (k+1)) (k:=k);rw[List.take_take,Nat.min_eq_left (Nat.le_succ k),h]at a;simp only at a;rw[a]
 have:(l.take (k+1)).drop k=[s]:=by
  rw[List.take_add_one,b,List.drop_append];have c:(l.take k).length=k:=by rw[Ql];have:=(Qc.1 b).1;omega
  rw[List.drop_of_length_le (by omega),c];simp
 rw[this];simp[DS]
theorem Oz{row r:List Tr}{l:List Ap}{k:Nat}{s:Ap}(h:DS row (l.take k)=some r)(c:l[k]? =some s)(b:Ds s r=false):DS row l=none:=by
 have a:=OA (row:=row) (l:=l) (k:=k+1);rw[KE h c,b]at a;simpa using a
theorem Jq{l:List Ap}:∀{row r:List Tr},EJ row->DS row l=some r->EJ r/\r.length<=row.length+l.length:=by
 induction l with
 |nil=>intro row r a h;simp[DS]at h;subst h;exact⟨a,by simp⟩
 |cons s l d=>
  intro row r a h;simp only[DS]at h;split at h
  .rename_i c
   obtain⟨b,e⟩:=d (Ww a c) h;have:=LY (l:=row) (s:=s);exact⟨b,by simp only[Qj];omega⟩
  .cases h
mutual
def Av:Tr->Prop
 | .num b=>Hs b
 | .text s=>Utf.Al s=true/\s.size<=2097152
 | .list l=>KO l
 | .obj ks l=>Cy ks/\ks.length=l.length/\KO l
 |_=>True
def KO:List Tr->Prop
 |[]=>True
 |t::l=>Av t/\KO l
end
theorem Cu{l:List Tr}:KO l↔∀t∈l,Av t:=by
 induction l with
 |nil=>simp[KO]
 |cons t l a=>simp only[KO,a,Qh,forall_eq_or_imp]
theorem Tk(n:Nat):Cg (Cg n)=Cg n:=by
 unfold Cg;by_cases h:Fl.A7 n=0
 .rw[Qr h];rfl
 .rw[Qs h,Qs h]
theorem Tm{n:Nat}(b:n<18446744073709551616)(a:Fl.Fh n=true):Hs (Cg n):=by
 refine⟨?_, ?_,Tk n⟩
 .unfold Cg;split<;>omega
 .unfold Cg;split
  .rfl
  .exact a
theorem Sf{ks:List BY}(h:ks.Nodup):(AY ks).Nodup:=(Lb ks).2 h
theorem KY{ks:List BY}(f:∀k∈ks,Utf.Al k=true)(c:∀k∈ks,k.size<=2147483648)(j:ks.length<=65536)(d:ks.Nodup):Cy (AY ks):=by
 refine⟨fun s c=>f s (D9.1 c),fun s h=>c s (D9.1 h), ?_,by rw[A3];omega⟩;refine((Cs (fun s=>s) ks).and (Sf d)).imp fun{a b} h=> ?_
 have g:=(DW (fun s=>s)).1 h.1;have i:Utf.BK a b≠0:=fun e=>h.2 (Utf.FJ e)
 omega
theorem UY{s:Ap}{l:List Tr}(e:Di s)(r:∀t∈l,Av t)(y:l.length<=65536)(a:Ds s l=true):Av (AF s l):=by
 unfold Ds at a;simp only[Bool.and_eq_true,decide_eq_true_eq]at a;obtain⟨⟨u,z⟩,c⟩:=a;obtain⟨w,p,v,q,h⟩:=CU.1 u;have x:=Gw w;have f:∀t∈l.drop (l.length-Hn s),Av t:=fun t b=>r t (List.mem_of_mem_drop b)
 unfold AF CF at c|-;split
 .simp[Av]
 .split
  .simp[Av]
  .split
   .simp only[Av];exact Tm e.bits (p (by assumption))
   .split
    .rename_i i j k m
     rw[Qs i,Qs j,Qs k,Qr m]at c;simp only[Av];refine⟨v, ?_⟩;have:=(Ar c).2.1;simpa[Ag]using this
    .split
     .simp only[Av];exact Cu.2 f
     .rename_i n
      have o:s.count=0:=Decidable.byContradiction fun g=>n (x.2.2.2.2.2.2.1 g)
      have d:s.keys.length=(l.drop (l.length-Hn s)).length:=by rw[Qm];unfold Hn at*;rw[o]at*;simp at*;omega
      unfold D1;simp only[Av];refine⟨KY (List.all_eq_true.1 q) e.size (by rw[d,Qm];omega) h,by rw[A3,DD],Cu.2 fun t b=>f t ((Ku h d).mem_iff.1 b)⟩
theorem WA{l:List Ap}(c:∀s∈l,Di s):∀{row r:List Tr},(∀t∈row,Av t)->row.length+l.length<=65536->DS row l=some r->∀t∈r,Av t:=by
 induction l with
 |nil=>intro row r b _ h;simp[DS]at h;subst h;exact b
 |cons s l i=>
  intro row r b d h;simp only[DS]at h;split at h
  .rename_i f
   refine i (fun x g=>c x (by simp[g])) (fun t e=> ?_) ?_ h
   .unfold NW at e
    rcases Qf.1 e with a|a
    .exact b t (List.mem_of_mem_take a)
    .simp at a;subst a;exact UY (c s (by simp)) b (by simp at d;omega) f
   .have:=LY (l:=row) (s:=s);simp at d;omega
  .cases h
theorem SW{l:List Ap}(a:∀s∈l,Di s)(b:l.length<=65536){t:Tr}(h:CA l=some t):Av t:=by
 unfold CA at h;split at h
 .rename_i r c
  injection h with h
  subst h;exact WA a (row:=[]) (fun t d=>by cases d) (by simpa using b) c _ (by simp)
 .cases h
end
section
open _root_.Go.Proofs.Tryz
open Go Go.RowKit Tree
theorem D2(w b:Wl)(a:Act)(n:Int)(B:Nat)(i:a.defers=[{target:= .fn (.func 105) #[.pointer (some ⟨B,0,none⟩)],args:=#[]}])(g:a.tmps.getD 4 undef= .pointer (some ⟨B,0,none⟩))(d:Ac b B [.nilIface] 35)(j:Chg w b [])(k:w.heap.size<=B):
  bodyPostD prog f61 (Fc w) (.panic [{v:= .iface 50 (.int .i64 n),recovered:=false}]) a b:=by
 show Leaves _ _ a.tmps _ a.defers (.panicking _) b
 rw[i];refine leaves_cons (f:=105) (args:=#[.pointer (some ⟨B,0,none⟩)]) (by simp) (by simp[go_sem]) ?_;refine(Lp ⟨B,0,none⟩ .nilIface n b (d.cell 0) (d.frozen 0)).mono ?_;rintro e l m ⟨rfl,rfl,rfl⟩;have c:=(d.set 0 (.iface 50 (.int .i64 n))).cell 0;simp only[List.set_cons_zero,Qa]at c;refine⟨.iface 50 (.int .i64 n), ?_,⟨n,rfl⟩,j.setCell _ _ (by simp only;omega)⟩;have h:a.tmps[4]?.getD undef= .pointer (some ⟨B,0,none⟩):=by simpa using g
 simp[results,results61,go_sem,h,c]
theorem Mo(b:Nat)(s:Ap)(c:Option Addr)(a d:Nat)(w:Wl)(j:Bs s.sort s.flag s.bits s.text s.count a=false):
  Cl prog 61 #[.pointer (some ⟨b,0,none⟩),DY s.sort s.flag s.bits s.text s.count (.slice c a d)] w (Fc w):=by
 have t:∀(i:Fn) (first h:Array Vl) (w:Wl),(Instr.makeFunc i first h).run prog w= .ok (.func i first h) w:=fun _ _ _ _=>rfl
 have n:=hZ j;have l:=hZ ((Ac.new w [.int .i64 s.sort,.bool s.flag,.int .u64 s.bits,.string s.text,.int .i64 s.count,.slice c a d] 72).alloc (.cells #[.nilIface] 35));have k:=hZ (CH w (.cells [.int .i64 s.sort,.bool s.flag,.int .u64 s.bits,.string s.text,.int .i64 s.count,.slice c a d].toArray 72) [.nilIface] 35);clear j;go_enter_defers func61,ntmps61
 unfold DY
 go_wp2_with(first
  |(go_at_call 107;refine(Ck s.sort s.flag s.bits s.text s.count c a d _).mono ?_;rintro e o ⟨rfl,f⟩;rw[n.o];have m:=hZ (l.o.kept f);have g:=hZ (k.o.kept f);obtain⟨B,C,u,v,x,y,z,A⟩:=Ac.cells6 m.o;obtain⟨q,r,p⟩:=Ac.cells1 g.o)
  |(go_at_call 106;refine(CD _ _).mono ?_;rintro e D ⟨rfl,rfl⟩))
 exact D2 w o _ _ (w.heap.size+1) rfl rfl g.o ((((Chg.refl w []).alloc _).alloc _).trans f) (by omega)
theorem Lu(F:Nat->Prop)(T:Ti)(b:Nat)(sv:Vl)(l:List Tr)(vs:List Vl)(t:Vl)(w:Wl)(j:C3 w F T b sv l vs)(H:∃a c,t= .slice a 0 c)(I:l.length<=2147483648):
  Cl prog 61 #[.pointer (some ⟨b,0,none⟩),DY 1 false 0 ⟨#[]⟩ 0 t] w (Cx F T b sv (l++[.null]) w):=by
 obtain⟨a,c,rfl⟩:=H;have P:∀(p:Fn) (first o:Array Vl) (w:Wl),(Instr.makeFunc p first o).run prog w= .ok (.func p first o) w:=fun _ _ _ _=>rfl
 have r:Bs 1 false 0 ⟨#[]⟩ 0 0=true:=by unfold Bs;simp
 have s:(Ag .null).within=true:=rfl;have d:=hZ j;have y:=hZ r;have z:=hZ s;have v:=hZ ((Ac.new w [.int .i64 1,.bool false,.int .u64 0,.string ⟨#[]⟩,.int .i64 0,.slice a 0 c] 72).alloc (.cells #[.nilIface] 35));have u:=hZ (CH w (.cells [.int .i64 1,.bool false,.int .u64 0,.string ⟨#[]⟩,.int .i64 0,.slice a 0 c].toArray 72) [.nilIface] 35);have D:=j.blk.lt;clear j r s;go_enter_defers func61,ntmps61
 unfold DY
 go_wp2_with(first
  |(go_at_call 107;refine(Ck 1 false 0 ⟨#[]⟩ 0 a 0 c _).mono ?_;rintro e w1 ⟨rfl,i⟩;rw[y.o];have x:=hZ (v.o.kept i);have k:=hZ (u.o.kept i);obtain⟨X,Y,Q,R,S,U,V,W⟩:=Ac.cells6 x.o;obtain⟨A,L,K⟩:=Ac.cells1 k.o)
  |(go_at_call 106;refine(Au _ _).mono ?_;rintro e w3 ⟨rfl,rfl⟩)
  |(go_at_call 108;go_loud(have C:=hZ (d.o.kept ((((Chg.refl w []).alloc _).alloc _).trans i));refine(EO F T .null _ b sv l vs _ C.o (by simp only[Af]) z.o I).mono ?_;rintro e J ⟨rfl,q⟩;have n:=hZ q;clear q;have m:=hZ (k.o.kept n.o.chg (d.o.newNotIn (w.heap.size+1) (by omega)));obtain⟨N,O,M⟩:=Ac.cells1 m.o)))
 refine leaves_cons (f:=105) (args:=#[.pointer (some ⟨w.heap.size+1,0,none⟩)]) (by simp) (by simp[go_sem]) ?_;refine(DZ ⟨w.heap.size+1,0,none⟩ _).mono ?_;rintro e Z aa ⟨rfl,rfl,rfl⟩;have B:(J.setCell ⟨w.heap.size+1,0,none⟩ .nilIface).cell? ⟨w.heap.size+1,0,none⟩=some .nilIface:=(m.o.set 0 _).cell 0;simp[Leaves,settle,results,results61,go_sem,B];exact DA ((((Chg.refl w []).alloc _).alloc _).trans i) n.o (fun _ h=>h) (fun _ h _=>h) D (fun g G=>d.o.lst.lt G) _ (by omega) A (fun E=>by have:=d.o.lt _ E;omega) _
theorem Lt(F:Nat->Prop)(T:Ti)(b:Nat)(sv:Vl)(l:List Tr)(vs:List Vl)(a:Bool)(u:Vl)(w:Wl)(k:C3 w F T b sv l vs)(I:∃c d,u= .slice c 0 d)(J:l.length<=2147483648):
  Cl prog 61 #[.pointer (some ⟨b,0,none⟩),DY 2 a 0 ⟨#[]⟩ 0 u] w (Cx F T b sv (l++[.flag a]) w):=by
 obtain⟨c,d,rfl⟩:=I;have Q:∀(q:Fn) (first p:Array Vl) (w:Wl),(Instr.makeFunc q first p).run prog w= .ok (.func q first p) w:=fun _ _ _ _=>rfl
 have s:Bs 2 a 0 ⟨#[]⟩ 0 0=true:=by unfold Bs;simp
 have t:(Ag (.flag a)).within=true:=rfl;have i:=hZ k;have z:=hZ s;have A:=hZ t;have x:=hZ ((Ac.new w [.int .i64 2,.bool a,.int .u64 0,.string ⟨#[]⟩,.int .i64 0,.slice c 0 d] 72).alloc (.cells #[.nilIface] 35));have v:=hZ (CH w (.cells [.int .i64 2,.bool a,.int .u64 0,.string ⟨#[]⟩,.int .i64 0,.slice c 0 d].toArray 72) [.nilIface] 35);have E:=k.blk.lt;clear k s t;go_enter_defers func61,ntmps61
 unfold DY
 go_wp2_with(first
  |(go_at_call 107;refine(Ck 2 a 0 ⟨#[]⟩ 0 c 0 d _).mono ?_;rintro e w1 ⟨rfl,j⟩;rw[z.o];have y:=hZ (x.o.kept j);have m:=hZ (v.o.kept j);obtain⟨Y,Z,R,S,U,V,W,X⟩:=Ac.cells6 y.o;obtain⟨B,M,L⟩:=Ac.cells1 m.o)
  |(go_at_call 106;refine(Au _ _).mono ?_;rintro e w3 ⟨rfl,rfl⟩)
  |(go_at_call 108;go_loud(have D:=hZ (i.o.kept ((((Chg.refl w []).alloc _).alloc _).trans j));refine(EO F T (.flag a) _ b sv l vs _ D.o (by simp only[Af]) A.o J).mono ?_;rintro e K ⟨rfl,r⟩;have o:=hZ r;clear r;have n:=hZ (m.o.kept o.o.chg (i.o.newNotIn (w.heap.size+1) (by omega)));obtain⟨O,P,N⟩:=Ac.cells1 n.o)))
 refine leaves_cons (f:=105) (args:=#[.pointer (some ⟨w.heap.size+1,0,none⟩)]) (by simp) (by simp[go_sem]) ?_;refine(DZ ⟨w.heap.size+1,0,none⟩ _).mono ?_;rintro e u' aa ⟨rfl,rfl,rfl⟩;have C:(K.setCell ⟨w.heap.size+1,0,none⟩ .nilIface).cell? ⟨w.heap.size+1,0,none⟩=some .nilIface:=(n.o.set 0 _).cell 0;simp[Leaves,settle,results,results61,go_sem,C];exact DA ((((Chg.refl w []).alloc _).alloc _).trans j) o.o (fun _ h=>h) (fun _ h _=>h) E (fun g H=>i.o.lst.lt H) _ (by omega) B (fun G=>by have:=i.o.lt _ G;omega) _
def DT(F:Nat->Prop)(T:Ti)(b:Nat)(sv:Vl)(l:List Tr)(n:Nat)(w:Wl)(e:Ending)(w':Wl):Prop:=
 if(Ag (.list (l.drop (l.length-n)))).within=true then Cx F T b sv (l.take (l.length-n)++[.list (l.drop (l.length-n))]) w e w' else Fc w e w'
theorem DT.yes{F:Nat->Prop}{T:Ti}{b:Nat}{sv:Vl}{l:List Tr}{n:Nat}{w:Wl}(h:(Ag (.list (l.drop (l.length-n)))).within=true):DT F T b sv l n w=Cx F T b sv (l.take (l.length-n)++[.list (l.drop (l.length-n))]) w:=by
 funext e w';unfold DT;rw[Qr h]
theorem DT.no{F:Nat->Prop}{T:Ti}{b:Nat}{sv:Vl}{l:List Tr}{n:Nat}{w:Wl}(h:¬(Ag (.list (l.drop (l.length-n)))).within=true):DT F T b sv l n w=Fc w:=by
 funext e w';unfold DT;rw[Qs h]
theorem Pi(F:Nat->Prop)(T:Ti)(b:Nat)(sv:Vl)(l:List Tr)(vs:List Vl)(n:Nat)(al:Vl)(w:Wl)(A:C3 w F T b sv l vs)(a:∃p q,al= .slice p 0 q)(hF:EJ l)(hn:n<=l.length)(hl:l.length<=65536):
  Cl prog 61 #[.pointer (some ⟨b,0,none⟩),DY 5 false 0 ⟨#[]⟩ n al] w (DT F T b sv l n w):=by
 obtain⟨p,q,rfl⟩:=a;have aM:∀(fn:Fn) (first ab:Array Vl) (w:Wl),(Instr.makeFunc fn first ab).run prog w= .ok (.func fn first ab) w:=fun _ _ _ _=>rfl
 have hu:Bs 5 false 0 ⟨#[]⟩ n 0=true:=by unfold Bs;simp
 have aj:=A.items.length;have am:Hid ((vs.drop (vs.length-n)).length=n):=by unfold Hid;rw[Qm];omega
 obtain⟨S,hS⟩:∃S,(Bk (l.drop (vs.length-n))).over 0=S:=⟨_,rfl⟩
 have aa:=hZ hS;have z:=hZ A;have HU:=hZ hu;have ao:=hZ hF;have aw:=hZ aj;have au:=hZ ((Ac.new w [.int .i64 5,.bool false,.int .u64 0,.string ⟨#[]⟩,.int .i64 n,.slice p 0 q] 72).alloc (.cells #[.nilIface] 35));have an:=hZ (CH w (.cells [.int .i64 5,.bool false,.int .u64 0,.string ⟨#[]⟩,.int .i64 n,.slice p 0 q].toArray 72) [.nilIface] 35);have hb:=A.blk.lt;obtain⟨O,P,Q⟩:=S;clear A hu hF aj hS;go_enter_defers func61,ntmps61
 unfold DY
 go_wp2_with(first
  |(go_at_call 107;refine(Ck 5 false 0 ⟨#[]⟩ n p 0 q _).mono ?_;rintro e E ⟨rfl,t⟩;rw[HU.o];have av:=hZ (au.o.kept t);have U:=hZ (an.o.kept t);obtain⟨aU,aV,aO,aP,aQ,aR,aS,aT⟩:=Ac.cells6 av.o;obtain⟨aE,aF,aD⟩:=Ac.cells1 U.o;have W:=hZ ((((Chg.refl w []).alloc (.cells [.int .i64 5,.bool false,.int .u64 0,.string ⟨#[]⟩,.int .i64 n,.slice p 0 q].toArray 72)).alloc (.cells #[.nilIface] 35)).trans t);have aN:w.heap.size+2<=E.heap.size:=(by have:=t.size;simpa using this);clear t)
  |(go_at_call 106;refine(Au _ _).mono ?_;rintro e w3 ⟨rfl,rfl⟩)
  |(go_at_call 112;go_loud(have i:=hZ (z.o.kept W.o);refine(GS F T b sv l vs _ i.o n hn (by omega)).mono ?_;rintro e w5 ⟨v5,rfl,B,N,ah⟩;obtain⟨r,c5,rfl,_⟩:=B.form;rw[am.o]at B N|-;have I:=hZ B;have ar:=hZ N;have v:=hZ ah;clear B N ah))
  |(go_at_call 114;go_loud(
    refine(Ie (fun k=>F k\/(Vl.slice r n c5).ownBlock=some k) (.slice r n c5) (l.drop (vs.length-n)) (vs.drop (vs.length-n)) 0 w5 (I.o.rowAt fun g m=> .inr m)
     ((i.o.items.kept (v.o.keepsF i.o.lt) (fun _ h=> .inl h)).drop _) (by
      rintro k (a|a)
      .exact Q6 (i.o.lt k a) v.o.size
      .exact I.o.lt a) (ao.o.drop _) (by simp;omega) (by omega)).mono ?_
    rintro e d ⟨rfl,ad⟩;rw[aa.o];unfold SC;have X:=hZ ad;clear ad)))
 obtain⟨c,C⟩:∃x,x=d.alloc (.cells #[.int .i64 O,.int .i64 P,.int .i64 Q,.slice r n c5] 227):=⟨_,rfl⟩
 rw[<-C];have j:Ac c d.heap.size [.int .i64 O,.int .i64 P,.int .i64 Q,.slice r n c5] 227:=by rw[C];exact Ac.new d _ _
 have L:Chg w5 c []:=by rw[C];exact X.o.alloc _
 have o:Chg E c []:=v.o.trans L;have ae:Chg w c []:=W.o.trans o;have aA:E.heap.size<=d.heap.size:=(v.o.trans X.o).size;have aB:d.heap.size<c.heap.size:=j.lt;obtain⟨h,s⟩:∃h:Nat->Prop,h=fun k=>F k\/(E.heap.size<=k/\k<c.heap.size):=⟨_,rfl⟩
 have J:C3 c h T b sv l vs:=by
  subst s;refine i.o.grown o (fun k a=> .inl a) (fun k a=>a.imp_right And.left) (fun k a=> ?_)
  rcases a with a|a
  .have:=i.o.lt k a;have:=o.size;omega
  .exact a.2
 have ak:l.drop (l.length-n)=l.drop (vs.length-n):=by rw[aw.o]
 have ag:Ag (.list (l.drop (vs.length-n)))=⟨O,P,Q⟩:=by
  show(Bk (l.drop (vs.length-n))).over 0=_
  exact aa.o
 have af:Af c h (.list (l.drop (l.length-n))) (.iface 136 (.pointer (some ⟨d.heap.size,0,none⟩))):=by
  rw[ak];simp only[Af];rw[ag];have ai:=I.o.kept L;refine⟨d.heap.size,.slice r n c5,vs.drop (vs.length-n),rfl,by rw[s];exact .inr ⟨aA,aB⟩,j.cell 0,j.cell 1,j.cell 2,j.cell 3,ai.rowAt fun g m=> ?_,J.items.drop _⟩;rw[s];exact .inr ⟨ar.o g m,ai.lt m⟩
 have G:=U.o.kept o;have V:=hZ G;have aq:=hZ J;have Z:=hZ af;have Y:=hZ ae;have aC:=hZ o;have H:=hZ s;obtain⟨ay,aK,aJ⟩:=Ac.cells1 G;clear C j L o ae J ak ag af G s;by_cases D:(Ag (.list (l.drop (l.length-n)))).within=true
 .refine(I0 h T _ _ b sv l vs n _ aq.o Z.o D hn (by omega)).mono ?_
  rintro e R ⟨rfl,K⟩;have HP:=hZ K
  have y:=hZ (V.o.kept K.chg (fun u=>by
   simp only[Qh,Option.mem_toList]at u
   rcases u with u|u
   .omega
   .have:=z.o.lst.lt u;omega))
  obtain⟨aH,aI,aG⟩:=Ac.cells1 y.o;clear K;go_wp2_with fail
  refine leaves_cons (f:=105) (args:=#[.pointer (some ⟨w.heap.size+1,0,none⟩)]) (by simp) (by simp[go_sem]) ?_;refine(DZ ⟨w.heap.size+1,0,none⟩ _).mono ?_;rintro e u' aW ⟨rfl,rfl,rfl⟩;have ax:(R.setCell ⟨w.heap.size+1,0,none⟩ .nilIface).cell? ⟨w.heap.size+1,0,none⟩=some .nilIface:=(y.o.set 0 _).cell 0;simp[Leaves,settle,results,results61,go_sem,ax];rw[DT.yes D];refine DA Y.o HP.o (fun k a=>by rw[H.o];exact .inl a) (fun k a aL=> ?_) hb (fun g m=>z.o.lst.lt m) _ (by omega) ay (fun hf=> ?_) _
  .rw[H.o]at a
   rcases a with a|a
   .exact a
   .omega
  .rw[H.o]at hf
   rcases hf with a|a
   .have:=z.o.lt _ a;omega
   .omega
 .rw[DT.no D]
  have az:(Ag (.list (l.drop (l.length-n)))).within=false:=by simpa using D
  refine(IZ h _ _ b n _ Z.o az).mono ?_;rintro e R ⟨rfl,M⟩;have y:=hZ (V.o.kept M);have ap:=hZ M;clear M;go_wp2_with fail
  exact D2 w R _ _ (w.heap.size+1) rfl rfl y.o (Y.o.trans ap.o) (by omega)
theorem Ml(b:Nat)(n:Nat)(v:Vl)(w:Wl)(C:∃c d,v= .slice c 0 d)(k:n<18446744073709551616)(h:Fl.Fh n=false):
  Cl prog 61 #[.pointer (some ⟨b,0,none⟩),DY 3 false n ⟨#[]⟩ 0 v] w (Fc w):=by
 obtain⟨c,d,rfl⟩:=C;have M:∀(t:Fn) (first s:Array Vl) (w:Wl),(Instr.makeFunc t first s).run prog w= .ok (.func t first s) w:=fun _ _ _ _=>rfl
 have L:=GW;have m:Bs 3 false n ⟨#[]⟩ 0 0=true:=by unfold Bs;simp
 have r:=hZ m;have y:=hZ k;have q:=hZ ((Ac.new w [.int .i64 3,.bool false,.int .u64 n,.string ⟨#[]⟩,.int .i64 0,.slice c 0 d] 72).alloc (.cells #[.nilIface] 35));have p:=hZ (CH w (.cells [.int .i64 3,.bool false,.int .u64 n,.string ⟨#[]⟩,.int .i64 0,.slice c 0 d].toArray 72) [.nilIface] 35);have u:¬Fl.A7 n<9218868437227405312:=by unfold Fl.Fh at h;simpa using h
 by_cases l:9218868437227405312<Fl.A7 n
 .have i:Hid (decide (9218868437227405312<Fl.A7 n)=true):=hZ (by simp[l])
  clear m k h u l;go_enter_defers func61,ntmps61
  unfold DY
  go_wp2_with(first
   |(go_at_call 107;refine(Ck 3 false n ⟨#[]⟩ 0 c 0 d _).mono ?_;rintro e o ⟨rfl,a⟩;rw[r.o];have j:=hZ (q.o.kept a);have g:=hZ (p.o.kept a);obtain⟨J,K,D,E,F,G,H,I⟩:=Ac.cells6 j.o;obtain⟨A,B,z⟩:=Ac.cells1 g.o)
   |(go_at_call_of 106 (Vl.bool true);refine(Au _ _).mono ?_;rintro e f ⟨rfl,rfl⟩)
   |(go_at_call 106;refine(CD _ _).mono ?_;rintro e f ⟨rfl,rfl⟩)
   |(go_at_call 110;refine(FO n _).mono ?_;rintro e f ⟨rfl,rfl⟩;rw[i.o]))
  exact D2 w o _ _ (w.heap.size+1) rfl rfl g.o ((((Chg.refl w []).alloc _).alloc _).trans a) (by omega)
 .have i:Hid (decide (9218868437227405312<Fl.A7 n)=false):=hZ (by simp;omega)
  have x:Hid (decide (Fl.A7 n=9218868437227405312)=true):=hZ (by simp;omega);clear m k h u l;go_enter_defers func61,ntmps61
  unfold DY
  go_wp2_with(first
   |(go_at_call 107;refine(Ck 3 false n ⟨#[]⟩ 0 c 0 d _).mono ?_;rintro e o ⟨rfl,a⟩;rw[r.o];have j:=hZ (q.o.kept a);have g:=hZ (p.o.kept a);obtain⟨J,K,D,E,F,G,H,I⟩:=Ac.cells6 j.o;obtain⟨A,B,z⟩:=Ac.cells1 g.o)
   |(go_at_call_of 106 (Vl.bool true);refine(Au _ _).mono ?_;rintro e f ⟨rfl,rfl⟩)
   |(go_at_call 106;refine(CD _ _).mono ?_;rintro e f ⟨rfl,rfl⟩)
   |(go_at_call 110;refine(FO n _).mono ?_;rintro e f ⟨rfl,rfl⟩;rw[i.o])
   |(go_at_call 111;refine(bJ n y.o _).mono ?_;rintro e f ⟨rfl,rfl⟩;rw[x.o]))
  exact D2 w o _ _ (w.heap.size+1) rfl rfl g.o ((((Chg.refl w []).alloc _).alloc _).trans a) (by omega)
theorem Hf(b:Nat)(s:BY)(z:Vl)(w:Wl)(J:∃d f,z= .slice d 0 f)(x:s.size<=2147483648)(m:Utf.Al s=false\/(Ag (.text s)).within=false):
  Cl prog 61 #[.pointer (some ⟨b,0,none⟩),DY 4 false 0 s 0 z] w (Fc w):=by
 obtain⟨d,f,rfl⟩:=J;have aa:∀(t:Fn) (first r:Array Vl) (w:Wl),(Instr.makeFunc t first r).run prog w= .ok (.func t first r) w:=fun _ _ _ _=>rfl
 have n:Bs 4 false 0 s 0 0=true:=by unfold Bs;simp
 have q:=hZ n;have p:=hZ ((Ac.new w [.int .i64 4,.bool false,.int .u64 0,.string s,.int .i64 0,.slice d 0 f] 72).alloc (.cells #[.nilIface] 35));have o:=hZ (CH w (.cells [.int .i64 4,.bool false,.int .u64 0,.string s,.int .i64 0,.slice d 0 f].toArray 72) [.nilIface] 35);by_cases j:Utf.Al s=true
 .have y:(Ag (.text s)).within=false:=m.resolve_left (by simp[j])
  have k:=hZ j;have C:=hZ y;clear n m j y;go_enter_defers func61,ntmps61
  unfold DY
  go_wp2_with(first
   |(go_at_call 107;refine(Ck 4 false 0 s 0 d 0 f _).mono ?_;rintro e w1 ⟨rfl,a⟩;rw[q.o];have i:=hZ (p.o.kept a);have g:=hZ (o.o.kept a);obtain⟨Q,R,K,L,M,N,O,P⟩:=Ac.cells6 i.o;obtain⟨E,F,D⟩:=Ac.cells1 g.o)
   |(go_at_call 106;refine(Au _ _).mono ?_;rintro e A ⟨rfl,rfl⟩)
   |(go_at_call 101;refine(Dq s _ x).mono ?_;rintro e w2 ⟨rfl,c⟩;rw[k.o];have l:=hZ (i.o.kept c);have h:=hZ (g.o.kept c);obtain⟨Y,Z,S,T,U,V,W,X⟩:=Ac.cells6 l.o;obtain⟨H,I,G⟩:=Ac.cells1 h.o)
   |(go_at_call 108;go_loud(refine(Rm (fun _=>False) (.text s) _ b _ (by simp only[Af]) C.o).mono ?_;rintro e w4 ⟨rfl,u⟩;have B:=hZ (h.o.kept u))))
  exact D2 w w4 _ _ (w.heap.size+1) rfl rfl B.o (((((Chg.refl w []).alloc _).alloc _).trans (a.trans c)).trans u) (by omega)
 .have v:Utf.Al s=false:=by simpa using j
  have k:=hZ v;clear n m j v;go_enter_defers func61,ntmps61
  unfold DY
  go_wp2_with(first
   |(go_at_call 107;refine(Ck 4 false 0 s 0 d 0 f _).mono ?_;rintro e w1 ⟨rfl,a⟩;rw[q.o];have i:=hZ (p.o.kept a);have g:=hZ (o.o.kept a);obtain⟨Q,R,K,L,M,N,O,P⟩:=Ac.cells6 i.o;obtain⟨E,F,D⟩:=Ac.cells1 g.o)
   |(go_at_call_of 106 (Vl.bool true);refine(Au _ _).mono ?_;rintro e A ⟨rfl,rfl⟩)
   |(go_at_call 106;refine(CD _ _).mono ?_;rintro e A ⟨rfl,rfl⟩)
   |(go_at_call 101;refine(Dq s _ x).mono ?_;rintro e w2 ⟨rfl,c⟩;rw[k.o];have l:=hZ (i.o.kept c);have h:=hZ (g.o.kept c);obtain⟨Y,Z,S,T,U,V,W,X⟩:=Ac.cells6 l.o;obtain⟨H,I,G⟩:=Ac.cells1 h.o))
  exact D2 w w2 _ _ (w.heap.size+1) rfl rfl h.o ((((Chg.refl w []).alloc _).alloc _).trans (a.trans c)) (by omega)
theorem Kq(F:Nat->Prop)(T:Ti)(b:Nat)(sv:Vl)(l:List Tr)(vs:List Vl)(n:Int)(m:Vl)(w:Wl)(i:C3 w F T b sv l vs)(v:∃a c,m= .slice a 0 c)(x:(l.length:Int)<n):
  Cl prog 61 #[.pointer (some ⟨b,0,none⟩),DY 5 false 0 ⟨#[]⟩ n m] w (Fc w):=by
 obtain⟨a,c,rfl⟩:=v;have C:∀(h:Fn) (first g:Array Vl) (w:Wl),(Instr.makeFunc h first g).run prog w= .ok (.func h first g) w:=fun _ _ _ _=>rfl
 have k:Bs 5 false 0 ⟨#[]⟩ n 0=true:=by unfold Bs;simp;omega
 have r:=hZ i;have u:=hZ k;have s:=hZ ((Ac.new w [.int .i64 5,.bool false,.int .u64 0,.string ⟨#[]⟩,.int .i64 n,.slice a 0 c] 72).alloc (.cells #[.nilIface] 35));have o:=hZ (CH w (.cells [.int .i64 5,.bool false,.int .u64 0,.string ⟨#[]⟩,.int .i64 n,.slice a 0 c].toArray 72) [.nilIface] 35);clear i k;go_enter_defers func61,ntmps61
 unfold DY
 go_wp2_with(first
  |(go_at_call 107;refine(Ck 5 false 0 ⟨#[]⟩ n a 0 c _).mono ?_;rintro e M ⟨rfl,d⟩;rw[u.o];have t:=hZ (s.o.kept d);have f:=hZ (o.o.kept d);obtain⟨K,L,D,E,G,H,I,J⟩:=Ac.cells6 t.o;obtain⟨A,B,z⟩:=Ac.cells1 f.o)
  |(go_at_call 106;refine(Au _ _).mono ?_;rintro e N ⟨rfl,rfl⟩)
  |(go_at_call 112;go_loud(have q:=hZ (r.o.kept ((((Chg.refl w []).alloc _).alloc _).trans d));refine(JS F T b sv l vs _ q.o n x).mono ?_;rintro e y ⟨rfl,j⟩;have p:=hZ (f.o.kept j))))
 exact D2 w y _ _ (w.heap.size+1) rfl rfl p.o (((((Chg.refl w []).alloc _).alloc _).trans d).trans j) (by omega)
theorem Ek(b:Nat)(c:Option Addr)(a d:Nat)(w:Wl)(k:∀g,Chg w g []->Cl prog 115 #[.pointer (some ⟨b,0,none⟩),.slice c a d] g (PT g)):
  Cl prog 61 #[.pointer (some ⟨b,0,none⟩),DY 6 false 0 ⟨#[]⟩ 0 (.slice c a d)] w (Fc w):=by
 have y:∀(j:Fn) (first i:Array Vl) (w:Wl),(Instr.makeFunc j first i).run prog w= .ok (.func j first i) w:=fun _ _ _ _=>rfl
 have m:Bs 6 false 0 ⟨#[]⟩ 0 a=true:=by unfold Bs;simp
 have s:=hZ m;have p:=hZ k;have q:=hZ ((Ac.new w [.int .i64 6,.bool false,.int .u64 0,.string ⟨#[]⟩,.int .i64 0,.slice c a d] 72).alloc (.cells #[.nilIface] 35));have n:=hZ (CH w (.cells [.int .i64 6,.bool false,.int .u64 0,.string ⟨#[]⟩,.int .i64 0,.slice c a d].toArray 72) [.nilIface] 35);clear m k;go_enter_defers func61,ntmps61
 unfold DY
 go_wp2_with(first
  |(go_at_call 107;refine(Ck 6 false 0 ⟨#[]⟩ 0 c a d _).mono ?_;rintro e I ⟨rfl,f⟩;rw[s.o];have r:=hZ (q.o.kept f);have h:=hZ (n.o.kept f);obtain⟨G,H,A,B,C,D,E,F⟩:=Ac.cells6 r.o;obtain⟨v,x,u⟩:=Ac.cells1 h.o)
  |(go_at_call 106;refine(Au _ _).mono ?_;rintro e J ⟨rfl,rfl⟩)
  |(go_at_call 115;go_loud(refine(p.o _ ((((Chg.refl w []).alloc _).alloc _).trans f)).mono ?_;rintro e t ⟨⟨z,rfl⟩,l⟩;have o:=hZ (h.o.kept l))))
 exact D2 w t _ _ (w.heap.size+1) rfl rfl o.o (((((Chg.refl w []).alloc _).alloc _).trans f).trans l) (by omega)
end
end Go.Proofs.YtkfnkppdhcaeoaaGreatDoor

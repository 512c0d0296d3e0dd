/- Part 1 of the proof of patchReads_card. -/
import Derived.Test.YtkfnkppdhcaeoaaGreatDoorM28
import Derived.Lib.BufferRead
set_option maxRecDepth 100000
set_option maxHeartbeats 32000000
set_option linter.all false
namespace Ptr
open Go renaming Calls->Cl,TypeId->Ti,Value->Vl,World->Wl
open Go.Value renaming agg->nA,iface->nF,int->nI,pointer->nP,slice->nS,string->nG,tuple->nT
open Go.IntKind renaming i64->nX
open Go.Ending renaming returned->nR
open Option renaming none->nN,some->nM
section
open Utf
def gI:List UInt8->Option (List UInt8×List UInt8)
 |[]=>some ([],[])
 |[c]=>if c=47 then some ([],[c])else if c=126 then none else some ([c],[])
 |c::d::r=>if c=47 then some ([],c::d::r)
  else if c=126 then(if d=48\/d=49 then(gI r).map fun p=>((if d=49 then 47 else 126)::p.1,p.2)else none)
  else(gI (d::r)).map fun p=>(c::p.1,p.2)
theorem gZ:∀(l:List UInt8),gI l=if A4 (l.takeWhile Bc)=true then some (Ct (l.takeWhile Bc),l.dropWhile Bc)else none
 |[]=>rfl
 |[c]=>by
  by_cases a:c=47
  .subst a;rfl
  .by_cases b:c=126
   .subst b;rfl
   .have i:Bc c=true:=by simpa[Bc]using a
    simp[gI,a,b,List.takeWhile,List.dropWhile,i,A4,Ct]
 |c::d::r=>by
  by_cases a:c=47
  .subst a;rfl
  .have i:Bc c=true:=by simpa[Bc]using a
   rw[gI,Qs a,List.takeWhile_cons,Qr i,List.dropWhile_cons,Qr i];by_cases b:c=126
   .subst b
    rw[Qr rfl];by_cases f:d=48\/d=49
    .have j:Bc d=true:=by rcases f with rfl|rfl<;>rfl
     have k:A4 (d::r.takeWhile Bc)=A4 (r.takeWhile Bc):=by
      have:d≠126:=by rcases f with rfl|rfl<;>decide
      simp[A4,this]
     have h:A4 (126::d::r.takeWhile Bc)=A4 (r.takeWhile Bc):=by
      rw[A4,k]
      rcases f with rfl|rfl<;>simp
     rw[Qr f,gZ r,List.takeWhile_cons,Qr j,List.dropWhile_cons,Qr j,h,Ct,Qr rfl];by_cases g:A4 (r.takeWhile Bc)=true
     .rw[Qr g,Qr g];rfl
     .rw[Qs g,Qs g];rfl
    .rw[Qs f]
     have h:A4 (126::(d::r).takeWhile Bc)=false:=by
      rw[List.takeWhile_cons];split
      .simp only[A4,List.head?_cons]
       simp only[not_or]at f
       have a:(some d==some (48:UInt8))=false:=by rw[Qq];intro e;injection e with e;exact f.1 e
       have b:(some d==some (49:UInt8))=false:=by rw[Qq];intro e;injection e with e;exact f.2 e
       simp[a,b]
      .rfl
     rw[h];rfl
   .rw[Qs b,gZ (d::r)]
    have h:A4 (c::(d::r).takeWhile Bc)=A4 ((d::r).takeWhile Bc):=by simp[A4,b]
    rw[h,T3 _ b];by_cases g:A4 ((d::r).takeWhile Bc)=true
    .rw[Qr g,Qr g];rfl
    .rw[Qs g,Qs g];rfl
theorem je:∀(l:List UInt8) (p:List UInt8×List UInt8),gI l=some p->p.2.length<=l.length:=by
 intro l p h;rw[gZ]at h;split at h
 .injection h with h;subst h;exact(List.dropWhile_suffix (l:=l) Bc).sublist.length_le
 .cases h
def gJ:List UInt8->Option (List (List UInt8))
  |[]=>some []
  |c::r=>if c=47 then(match h:gI r with
   |none=>none
   |some p=>(gJ p.2).map fun l=>p.1::l)else none
 termination_by l=>l.length
 decreasing_by have:=je r p h;simp;omega
theorem iY(a b:List UInt8)(i:BH b=true):A4 (a++b)=(A4 a&&A4 b):=by
 cases h:A4 (a++b)with
 |true=>obtain⟨f,g⟩:=GT a b i h;rw[f,g];rfl
 |false=>
  symm
  rw[Bool.and_eq_false_iff]
  cases e:A4 a with
  |false=>exact .inl rfl
  |true=>
   right
   cases j:A4 b with
   |false=>rfl
   |true=>
    exfalso
    have:A4 (a++b)=true:=by
     clear h
     induction a with
     |nil=>exact j
     |cons c a l=>
      simp only[Qo,A4,Bool.and_eq_true]at e|-;refine⟨?_,l e.2⟩
      cases a with
      |nil=>
       have:=e.1;simp only[List.head?_nil]at this;have k:(c !=126)=true:=by simpa using this
       rw[k];rfl
      |cons d a=>exact e.1
    rw[this]at h;cases h
theorem jl:∀(n:Nat) (l:List UInt8),l.length<=n->gJ l=if BH l=true/\A4 l=true then some (CE l)else none:=by
 intro n
 induction n with
 |zero=>intro l h;have:l=[]:=List.eq_nil_of_length_eq_zero Zj;subst this;simp[gJ,CE,BH,A4]
 |succ n m=>
  intro l h
  cases l with
  |nil=>simp[gJ,CE,BH,A4]
  |cons c r=>
   by_cases b:c=47
   .subst b
    have j:r.takeWhile Bc++r.dropWhile Bc=r:=List.takeWhile_append_dropWhile
    have f:A4 (47::r)=(A4 (r.takeWhile Bc)&&A4 (r.dropWhile Bc)):=by
     rw[<-iY _ _ (C7 r),j];simp[A4]
    have k:(r.dropWhile Bc).length<=n:=by
     have:=(List.dropWhile_suffix (l:=r) Bc).sublist.length_le;simp at h;omega
    have hi:=gZ r;rw[gJ,Qr rfl];by_cases g:A4 (r.takeWhile Bc)=true
    .rw[Qr g]at hi
     have d:(match h:gI r with|none=>none|some p=>(gJ p.2).map fun l=>p.1::l)=(gJ (r.dropWhile Bc)).map fun l=>Ct (r.takeWhile Bc)::l:=by
      split
      .rename_i e;rw[hi]at e;cases e
      .rename_i p e;rw[hi]at e;injection e with e;subst e;rfl
     rw[d,m _ k,f,g,C7];simp only[Bool.true_and,true_and,BH,beq_self_eq_true];by_cases a:A4 (r.dropWhile Bc)=true
     .rw[Qr a,Qr a,CE];rfl
     .rw[Qs a,Qs a];rfl
    .rw[Qs g]at hi
     have d:(match h:gI r with|none=>none|some p=>(gJ p.2).map fun l=>p.1::l)=none:=by
      split
      .rfl
      .rename_i p e;rw[hi]at e;cases e
     rw[d,f];have i:A4 (r.takeWhile Bc)=false:=by simpa using g
     rw[i];simp
   .rw[gJ,Qs b]
    simp[BH,b]
theorem iZ(s:BY):AD s=if Al s=true then(match gJ s.data.toList with
  |some l=>if l.length<=65536 then some (l.map fun t=>⟨t.toArray⟩)else none
  |none=>none)else none:=by
 rw[jl _ _ (Q8 _)];unfold AD;by_cases b:Al s=true
 .rw[Qr b]
  by_cases a:BH s.data.toList=true/\A4 s.data.toList=true
  .rw[Qr a]
   simp only;rw[FW _ a.1];by_cases c:s.data.toList.count 47<=65536
   .rw[Qr ⟨b,a.1,a.2,c⟩,Qr c]
   .rw[Qs (fun e=>c e.2.2.2),Qs c]
  .rw[Qs a,Qs (fun e=>a ⟨e.2.1,e.2.2.1⟩)]
 .rw[Qs b,Qs (fun e=>b e.1)]
end
end Ptr
namespace Go.Proofs.YtkfnkppdhcaeoaaGreatDoor
open Go renaming Calls->Cl,TypeId->Ti,Value->Vl,World->Wl
open Go.Value renaming agg->nA,iface->nF,int->nI,pointer->nP,slice->nS,string->nG,tuple->nT
open Go.IntKind renaming i64->nX
open Go.Ending renaming returned->nR
open Option renaming none->nN,some->nM
section
open _root_.Go.Proofs.Tryz
open Go Go.RowKit Ptr
theorem jC(s:BY)(w:Wl)(f:s.size<=2147483648):
  Cl prog 134 #[nG s] w fun e w'=>(∃y:Int,e= nR (nI nX y)/\decide (0<=y)= !Utf.Al s)/\w=w':=by
 have a:=hZ (XD s w f)
 cases b:Utf.Al s with
 |true=>
  unfold UJ at a;rw[b]at a;clear b;go_enter func134,ntmps134
  go_wp2_with(go_at_call 172;refine a.o.mono ?_;rintro e w' ⟨⟨x,y,g,c,rfl⟩,rfl⟩)
  go_ret
  exact⟨⟨-1,rfl,ZM⟩,rfl⟩
 |false=>
  unfold UJ at a;rw[b]at a;clear b;go_enter func134,ntmps134
  go_wp2_with(go_at_call 172;refine a.o.mono ?_;rintro e w' ⟨⟨x,y,g,c,rfl⟩,rfl⟩;have d:=hZ c;clear c)
  go_ret
  exact⟨⟨y,rfl,by simpa using d.o⟩,rfl⟩
theorem gP{s:BY}{i:Nat}(h:i<s.size):s.data.toList.drop i=s[i]::s.data.toList.drop (i+1):=by
 have a:i<s.data.toList.length:=by rw[Array.length_toList];exact h
 rw[List.drop_eq_getElem_cons a];rfl
theorem iB{s:BY}{i:Nat}(h:s.size<=i):s.data.toList.drop i=[]:=List.drop_eq_nil_of_le (by rw[Array.length_toList];exact h)
theorem iP(c:UInt8)(l:List UInt8)(h:c=47):gI (c::l)=nM ([],c::l):=by
 cases l<;>simp[gI,h]
theorem iO(c:UInt8)(l:List UInt8)(h:c≠47)(a:c≠126):gI (c::l)=(gI l).map fun p=>(c::p.1,p.2):=by
 cases l<;>simp[gI,h,a]
theorem gX(d:UInt8)(l:List UInt8):gI (126::d::l)=if d=48\/d=49 then(gI l).map fun p=>((if d=49 then 47 else 126)::p.1,p.2)else nN:=by
 simp[gI]
theorem ir:gI [126]=nN:=ZM
theorem iT(l:List UInt8):gJ (47::l)=(gI l).bind fun p=>(gJ p.2).map fun q=>p.1::q:=by
 rw[gJ,Qr rfl];split
 .rename_i h;rw[h];rfl
 .rename_i p h;rw[h];rfl
theorem iS(c:UInt8)(l:List UInt8)(h:c≠47):gJ (c::l)=nN:=by rw[gJ,Qs h]
def toks(l:List (List UInt8)):List BY:=l.map fun t=>⟨t.toArray⟩
def jM(l:List UInt8):List Vl:=l.map fun c=> nI .u8 (c.toNat:Int)
structure iz(w0:Wl)(l:List (List UInt8))(sv:Vl)(w:Wl):Prop where
 lst:AK w sv 9 (Ad (toks l))
 own:∀g,sv.ownBlock=nM g->w0.heap.size<=g
 chg:Chg w0 w []
structure ik(w0:Wl)(l:List (List UInt8))(b:List UInt8)(sv bv:Vl)(w:Wl):Prop where
 row:iz w0 l sv w
 lst:AK w bv 5 (jM b)
 own:∀g,bv.ownBlock=nM g->w0.heap.size<=g/\sv.ownBlock≠nM g
def gO(s:BY)(w:Wl)(e:Ending)(w':Wl):Prop:=(match AD s with
 |some ts=>∃a,e= nR (nT #[a,nI nX 0,nI nX 0])/\AK w' a 9 (Ad ts)/\∀g,a.ownBlock=nM g->w.heap.size<=g
 |none=>∃k y:Int,k≠0/\e= nR (nT #[nS nN 0 0,nI nX k,nI nX y]))/\Chg w w' []
theorem ip{c d:UInt8}{k:Int}(h:c≠d)(a:(d.toNat:Int)=k):((c.toNat:Int)==k)=false:=
 Qq.2 fun e=>h (UInt8.toNat_inj.1 Zj)
theorem gS(l:List (List UInt8)):(Ad (toks l)).length=l.length:=by simp[Ad,toks]
theorem gN(l:List UInt8):(jM l).length=l.length:=by simp[jM]
theorem iz.form{w0 w:Wl}{l:List (List UInt8)}{sv:Vl}(h:iz w0 l sv w):∃a c,sv= nS a l.length c:=by
 obtain⟨a,c,e,_⟩:=h.lst.form;rw[gS]at e;exact⟨a,c,e⟩
theorem ik.form{w0 w:Wl}{l:List (List UInt8)}{b:List UInt8}{sv d:Vl}(h:ik w0 l b sv d w):∃a c,d= nS a b.length c:=by
 obtain⟨a,c,e,_⟩:=h.lst.form;rw[gN]at e;exact⟨a,c,e⟩
theorem ik.push{w0 w f w2:Wl}{l:List (List UInt8)}{b:List UInt8}{sv d:Vl}{c:UInt8}{g i:Nat}(h:ik w0 l b sv d w)(m:Chg w f [])(r:w.heap.size<f.heap.size)(o:AK w2 (nS (nM ⟨g,0,nN⟩) (b.length+1) i) 5 (jM b++[nI .u8 (c.toNat:Int)]))(p:Chg f w2 d.ownBlock.toList)(q:d.ownBlock=nM g\/g=f.heap.size):ik w0 l (b++[c]) sv (nS (nM ⟨g,0,nN⟩) (b.length+1) i) w2:=by
 have j:Chg w w2 d.ownBlock.toList:=(m.none _).trans p;refine⟨⟨h.row.lst.kept j (fun y a n=>(h.own y (by simpa using n)).2 a),h.row.own,h.row.chg.fresh j (fun y a=>(h.own y (by simpa using a)).1)⟩,by simpa[jM]using o,fun y a=> ?_⟩;have e:g=y:=by injection a
 subst e;have s:=h.row.chg.size
 rcases q with k|k
 .exact h.own g k
 .exact⟨Zj,fun e=>by have:=h.row.lst.lt e;omega⟩
theorem iz.push{w0 w c w2:Wl}{l:List (List UInt8)}{sv:Vl}{b:List UInt8}{g d:Nat}(h:iz w0 l sv w)(f:Chg w c [])(j:AK w2 (nS (nM ⟨g,0,nN⟩) (l.length+1) d) 9 (Ad (toks l)++[nG ⟨b.toArray⟩]))(m:Chg c w2 sv.ownBlock.toList)(n:sv.ownBlock=nM g\/g=c.heap.size):iz w0 (l++[b]) (nS (nM ⟨g,0,nN⟩) (l.length+1) d) w2:=by
 have i:Chg w w2 sv.ownBlock.toList:=(f.none _).trans m;refine⟨by simpa[toks,Ad]using j,fun y a=> ?_,h.chg.fresh i (fun y a=>h.own y (by simpa using a))⟩;have e:g=y:=by injection a
 subst e;have o:=h.chg.size;have p:=f.size
 rcases n with k|k
 .exact h.own g k
 .omega
theorem jD(b:List UInt8):strOfNums (b.map fun c=>(c.toNat:Int))=⟨b.toArray⟩:=by
 unfold strOfNums;rw[List.map_map]
 congr 2
 conv=>rhs;rw[<-List.map_id b]
 exact List.map_congr_left fun c _=>Zh
theorem jH(b:List UInt8):jM b=(b.map fun c=>(c.toNat:Int)).map (Vl.int .u8):=by simp[jM]
theorem ik.text{w0 w:Wl}{l:List (List UInt8)}{b:List UInt8}{sv:Vl}{a:Option Addr}{n c:Nat}(h:ik w0 l b sv (nS a n c) w):(Go.convert 196 9 (nS a n c)).run prog w= .ok (nG ⟨b.toArray⟩) w:=by
 have e:=h.lst
 rcases h.lst.2 with⟨d,f⟩|⟨g,m,o,k,_⟩
 .have j:b=[]:=List.eq_nil_of_length_eq_zero (by rw[<-gN b];exact f)
  subst j
  injection d with d i p
  subst d;subst i;exact Lib.run_convert_nil_bytes w _ _ _ c underlying196 underlying5 underlying9
 .injection k with d _ _
  subst d;rw[jH]at e;rw[e.convert _ _ underlying196 underlying5 underlying9,jD]
theorem jm(s:BY)(w:Wl)(x:s.size<=16777216):Cl prog 79 #[nG s] w (gO s w):=by
 have L:=hZ (jC s w Zj)
 cases E:Utf.Al s with
 |false=>
  rw[E]at L;have z:=UD (AD s=nN) (by rw[iZ,Qs (by rw[E];simp)]);clear E;go_enter func79,ntmps79
  go_wp2_with(go_at_call 134;refine L.o.mono ?_;rintro e w1 ⟨⟨y,rfl,K⟩,rfl⟩;have an:decide ((0:Int)<=y)=true:=K;clear K)
  go_ret3
  unfold gO;rw[z.o];exact⟨⟨100,y,ZM,rfl⟩,Chg.refl _ _⟩
 |true=>
  rw[E]at L
  have z:=UD (AD s=match gJ s.data.toList with
   |some l=>if l.length<=65536 then nM (toks l)else nN
   |none=>nN) (by rw[iZ,Qr E];rfl)
  clear E;obtain⟨n,hn⟩:=Ue s.size
  go_enter func79,ntmps79
  go_wp2_with(go_at_call 134;refine L.o.mono ?_;rintro e w1 ⟨⟨y,rfl,K⟩,rfl⟩;have an:decide ((0:Int)<=y)=false:=K;clear K)
  clear an hn;go_loopw [7,6] (fun A v6 wr=>∃(i:Nat) (l:List (List UInt8)) (a:Option Addr) (c:Nat),i<=s.size/\A= nI nX i/\v6= nS a l.length c/\iz w l v6 wr/\l.length<=i/\gJ s.data.toList=(gJ (s.data.toList.drop i)).map (fun q=>l++q)) (fun A _ _=>s.size-(intOf A).toNat)
  case atStart=>exact⟨0,[],nN,0,Zj,rfl,rfl,⟨AK.nil _ _,(fun g Z=>by cases Z),Chg.refl _ _⟩,Zh,Zh⟩
  case round=>
   obtain⟨i,l,N,O,hi,rfl,rfl,am,ai,ak⟩:=hrel;have B:=hZ am;have U:=hZ ak;have ad:=hZ ai;clear am ak ai;by_cases aj:i<s.size
   .have aC:(i:Int)<(s.size:Int):=by omega
    by_cases D:s[i]=47
    .have P:s[i].toNat=47:=by rw[D];rfl
     have M:=UD (gJ s.data.toList=(gI (s.data.toList.drop (i+1))).bind fun p=>(gJ p.2).map fun q=>(l++[p.1])++q) (by
      rw[U.o,gP aj,D,iT]
      cases gI (s.data.toList.drop (i+1))with
      |none=>rfl
      |some p=>simp[Option.map_map,Function.comp_def])
     have ao:=UD (ik w l [] (nS N l.length O) (nS nN 0 0) wr) ⟨B.o,AK.nil _ _,fun g Z=>by cases Z⟩;clear D;go_wp2_with fail
     go_loopw [7,8] (fun A v8 wr=>∃(j:Nat) (b:List UInt8) (a:Option Addr) (c:Nat),j<=s.size/\i+1<=j/\A= nI nX j/\v8= nS a b.length c/\ik w l b (nS N l.length O) v8 wr/\b.length<=j/\gI (s.data.toList.drop (i+1))=(gI (s.data.toList.drop j)).map fun p=>(b++p.1,p.2)) (fun A _ _=>s.size-(intOf A).toNat)
     case atStart=>exact⟨i+1,[],nN,0,Zj,Zj,by go_num,rfl,ao.o,Zh,by cases gI (s.data.toList.drop (i+1))<;>simp⟩
     case round=>
      obtain⟨j,b,W,X,hj,aw,rfl,rfl,ag,af,ah⟩:=hrel
      have d:=hZ ag;have H:=hZ ah;have G:=hZ af;clear ag ah af P;by_cases aa:j<s.size
      .have az:(j:Int)<(s.size:Int):=by omega
       by_cases x:s[j]=47
       .have P:s[j].toNat=47:=by rw[x];rfl
        have T:=UD (gI (s.data.toList.drop (i+1))=nM (b,s.data.toList.drop j)) (by rw[H.o,gP aa,iP _ _ x];simp);clear x;have ar:=d.o.text;have av:=ad.o;have V:=UD (gJ s.data.toList=(gJ (s.data.toList.drop j)).map fun q=>(l++[b])++q) (by rw[M.o,T.o];rfl);go_wp2_with(at_builtin;refine AM rfl _ _ _ rfl 9 Ho 16 underlying27 Cf rfl (nS N l.length O) (Ad (toks l)) ZN (by exact d.o.row.lst.kept (bs:=[]) (by exact cg cR) Zh) wr.heap.size (nG ⟨b.toArray⟩) ZN (by exact Bx rfl _ _) rfl (by rw[gS];omega) (by rw[gS];omega) ?_;rw[gS];intro g u R f k m;have o:=hZ f;have r:=hZ k;have t:=hZ m;clear f k m)
        go_roundw
        case rel=>exact⟨j,l++[b],nM ⟨g,0,nN⟩,u,Zj,rfl,Zh,d.o.row.push ((Chg.refl _ _).alloc _) o.o r.o t.o,by simp;omega,V.o⟩
        case measure=>simp[intOf];omega
       .have P:((s[j].toNat:Int)==47)=false:=ip x rfl
        by_cases F:s[j]=126
        .have aq:s[j].toNat=126:=by rw[F];rfl
         have ab:=UD (s.data.toList.drop j=126::s.data.toList.drop (j+1)) (by rw[gP aa,F]);have ap:=G.o;clear x F;by_cases au:j+1<s.size
         .have aA:(j:Int)+1<(s.size:Int):=by omega
          have aB:(((j:Int)+1)==(s.size:Int))=false:=Qq.2 Zj;have S:=UD (gI (s.data.toList.drop (i+1))=(gI (126::s[j+1]::s.data.toList.drop (j+2))).map fun p=>(b++p.1,p.2)) (by rw[H.o,ab.o,gP au]);by_cases v:s[j+1]=49
          .have Q:s[j+1].toNat=49:=by rw[v];rfl
           have I:=UD (gI (s.data.toList.drop (i+1))=(gI (s.data.toList.drop (j+2))).map fun p=>((b++[47])++p.1,p.2)) (by
            rw[S.o,gX,Qr (.inr v),Qr v,Option.map_map];congr 1;funext p;simp)
           clear v;go_wp2_with(at_builtin;refine AM rfl _ _ _ rfl 5 (nI .u8 0) 1 underlying196 ZO rfl (nS W b.length X) (jM b) ZN (by exact d.o.lst.kept (bs:=[]) (by exact cg cR) Zh) wr.heap.size (nI .u8 47) ZN (by exact Bx rfl _ _) rfl (by rw[gN];omega) (by rw[gN];omega) ?_;rw[gN];intro g u R f k m;have o:=hZ f;have r:=hZ k;have t:=hZ m;clear f k m)
           go_roundw
           case rel=>exact⟨j+2,b++[47],nM ⟨g,0,nN⟩,u,Zj,Zj,by go_num,Zh,d.o.push ((Chg.refl _ _).alloc _) Zh o.o r.o t.o,by have:=G.o;simp;omega,I.o⟩
           case measure=>simp[intOf];omega
          .have Q:((s[j+1].toNat:Int)==49)=false:=ip v rfl
           by_cases C:s[j+1]=48
           .have Y:s[j+1].toNat=48:=by rw[C];rfl
            have I:=UD (gI (s.data.toList.drop (i+1))=(gI (s.data.toList.drop (j+2))).map fun p=>((b++[126])++p.1,p.2)) (by
             rw[S.o,gX,Qr (.inl C),Qs v,Option.map_map];congr 1;funext p;simp)
            clear C v Q;go_wp2_with(at_builtin;refine AM rfl _ _ _ rfl 5 (nI .u8 0) 1 underlying196 ZO rfl (nS W b.length X) (jM b) ZN (by exact d.o.lst.kept (bs:=[]) (by exact cg cR) Zh) wr.heap.size (nI .u8 126) ZN (by exact Bx rfl _ _) rfl (by rw[gN];omega) (by rw[gN];omega) ?_;rw[gN];intro g u R f k m;have o:=hZ f;have r:=hZ k;have t:=hZ m;clear f k m)
            go_roundw
            case rel=>exact⟨j+2,b++[126],nM ⟨g,0,nN⟩,u,Zj,Zj,by go_num,Zh,d.o.push ((Chg.refl _ _).alloc _) Zh o.o r.o t.o,by have:=G.o;simp;omega,I.o⟩
            case measure=>simp[intOf];omega
           .have Y:((s[j+1].toNat:Int)==48)=false:=ip C rfl
            have aF:((s[j+1].toNat:Int) !=48)=true:=by rw[bne,Y];rfl
            have aG:((s[j+1].toNat:Int) !=49)=true:=by rw[bne,Q];rfl
            have aH:¬(s[j+1].toNat:Int)=48:=Qq.1 Y;have aI:¬(s[j+1].toNat:Int)=49:=Qq.1 Q;have aD:¬s[j+1].toNat=48:=Zj
            have aE:¬s[j+1].toNat=49:=Zj
            have J:=UD (gJ s.data.toList=nN) (by rw[M.o,S.o,gX,Qs (fun h=>h.elim C v)];rfl);clear C v;go_wp2_with fail
            go_ret3
            unfold gO;rw[z.o,J.o];exact⟨⟨130,_,ZM,rfl⟩,d.o.row.chg⟩
         .have ax:(j:Int)+1=(s.size:Int):=by omega
          have ay:(((j:Int)+1)==(s.size:Int))=true:=by simp;omega
          have J:=UD (gJ s.data.toList=nN) (by rw[M.o,H.o,ab.o,iB Zj,ir];rfl);go_wp2_with fail
          go_ret3
          unfold gO;rw[z.o,J.o];exact⟨⟨130,_,ZM,rfl⟩,d.o.row.chg⟩
        .have aq:((s[j].toNat:Int)==126)=false:=ip F rfl
         have I:=UD (gI (s.data.toList.drop (i+1))=(gI (s.data.toList.drop (j+1))).map fun p=>((b++[s[j]])++p.1,p.2)) (by
          rw[H.o,gP aa,iO _ _ x F,Option.map_map];congr 1;funext p;simp)
         clear x F;have ap:=G.o;go_wp2_with(at_builtin;refine AM rfl _ _ _ rfl 5 (nI .u8 0) 1 underlying196 ZO rfl (nS W b.length X) (jM b) ZN (by exact d.o.lst.kept (bs:=[]) (by exact cg cR) Zh) wr.heap.size (nI .u8 (s[j].toNat:Int)) ZN (by exact Bx rfl _ _) rfl (by rw[gN];omega) (by rw[gN];omega) ?_;rw[gN];intro g u R f k m;have o:=hZ f;have r:=hZ k;have t:=hZ m;clear f k m)
         go_roundw
         case rel=>exact⟨j+1,b++[s[j]],nM ⟨g,0,nN⟩,u,Zj,Zj,by go_num,Zh,d.o.push ((Chg.refl _ _).alloc _) Zh o.o r.o t.o,by have:=G.o;simp;omega,I.o⟩
         case measure=>simp[intOf];omega
      .obtain rfl:j=s.size:=by omega
       have T:=UD (gI (s.data.toList.drop (i+1))=nM (b,s.data.toList.drop s.size)) (by rw[H.o,iB (Q8 _)];simp[gI]);have ar:=d.o.text;have av:=ad.o;have V:=UD (gJ s.data.toList=(gJ (s.data.toList.drop s.size)).map fun q=>(l++[b])++q) (by rw[M.o,T.o];rfl);go_wp2_with(at_builtin;refine AM rfl _ _ _ rfl 9 Ho 16 underlying27 Cf rfl (nS N l.length O) (Ad (toks l)) ZN (by exact d.o.row.lst.kept (bs:=[]) (by exact cg cR) Zh) wr.heap.size (nG ⟨b.toArray⟩) ZN (by exact Bx rfl _ _) rfl (by rw[gS];omega) (by rw[gS];omega) ?_;rw[gS];intro g u R f k m;have o:=hZ f;have r:=hZ k;have t:=hZ m;clear f k m)
       go_roundw
       case rel=>exact⟨s.size,l++[b],nM ⟨g,0,nN⟩,u,Zj,rfl,Zh,d.o.row.push ((Chg.refl _ _).alloc _) o.o r.o t.o,by simp;omega,V.o⟩
       case measure=>simp[intOf];omega
    .have P:((s[i].toNat:Int)==47)=false:=ip D rfl
     have J:=UD (gJ s.data.toList=nN) (by rw[U.o,gP aj,iS _ _ D];rfl);clear D;go_wp2_with fail
     go_ret3
     unfold gO;rw[z.o,J.o];exact⟨⟨130,_,ZM,rfl⟩,B.o.chg⟩
   .obtain rfl:i=s.size:=by omega
    have al:gJ s.data.toList=nM l:=by rw[U.o,iB (Q8 _)];simp[gJ]
    have ae:=hZ al;clear al;by_cases hm:(65536:Int)<(l.length:Int)
    .go_wp2_with fail
     go_ret3
     unfold gO;rw[z.o,ae.o];simp only;rw[Qs Zj];exact⟨⟨3,-1,ZM,rfl⟩,B.o.chg⟩
    .go_wp2_with fail
     go_ret3
     unfold gO;rw[z.o,ae.o];simp only;rw[Qr Zj];exact⟨⟨_,rfl,B.o.lst,B.o.own⟩,B.o.chg⟩
end
section
open Go Go.RowKit Tree Ptr
def Ob(s:BY):Nat:=if s=Ec 1 then 1 else if s=Ec 2 then 2 else if s=Ec 3 then 3 else if s=Ec 4 then 4 else if s=Ec 5 then 5 else if s=Ec 6 then 6 else 0
inductive ZU where
 |no (e:Nat) (p:BY)
 |yes (s:BY)
inductive ap where
 |no (e:Nat) (p:BY)
 |yes (o:CW)
inductive ZV where
 |no (e:Nat) (p:BY)
 |yes (l:List CW)
def Zb:BY:=⟨#[47]⟩
def X1(p a:BY):BY:=p++Zb++a
def E4(ks:List BY)(l:List Tr)(p a:BY):ZU:=
 if C4 ks a=true then(match l.getD (A5 ks a) .null with
  | .text s=> .yes s
  |_=> .no 5 (X1 p a))else .no 4 p
def RL(ks:List BY)(l:List Tr)(p a:BY):ZU:=match E4 ks l p a with
 | .no e q=> .no e q
 | .yes s=>if(AD s).isSome=true then .yes s else .no 171 (X1 p a)
def Xi(ks:List BY)(l:List Tr)(p:BY):ap:=match E4 ks l p SB with
 | .no e q=> .no e q
 | .yes s=>if Ob s=0 then .no 170 (X1 p SB)else match RL ks l p Fj with
  | .no e q=> .no e q
  | .yes b=>match(if AO (Ob s)=true then RL ks l p Oa else .yes Dz)with
   | .no e q=> .no e q
   | .yes a=>if AN (Ob s)=true then(if C4 ks SZ=true then .yes ⟨Ob s,b,a,Ai (l.getD (A5 ks SZ) .null)⟩else .no 4 p)else .yes ⟨Ob s,b,a,[]⟩
def XP(i:Nat):BY:=Zb++⟨(Go.Lib.decDigits i).toArray⟩
def RV:List CW->Nat->List Tr->ZV
 |l,_,[]=> .yes l
 |l,i,.obj ks m::r=>match Xi ks m (XP i)with
  | .no e p=> .no e p
  | .yes o=>RV (l++[o]) (i+1) r
 |_,i,_::_=> .no 5 (XP i)
def aM:Tr->ZV
 | .list l=>RV [] 0 l
 |_=> .no 5 Dz
theorem S9{k:Nat}(h:1<=k/\k<=6):Ob (Ec k)=k:=by
 have:k=1\/k=2\/k=3\/k=4\/k=5\/k=6:=Zj
 rcases this with rfl|rfl|rfl|rfl|rfl|rfl<;>decide
end
section
open _root_.Go.Proofs.Tryz
open Go Go.RowKit Tree Ptr
def eN(ks:List BY)(s:BY):Int:=if C4 ks s=true then(A5 ks s:Int)else-1
theorem eP(k s:BY)(d:Ti)(f:Vl)(X:Nat)(w:Wl)(a:Ac w X [nG s] 9):
  Cl prog 159 #[nA #[nG k,nF d f],nP (nM ⟨X,0,nN⟩)] w fun e w'=>e= nR (.bool (decide (k=s)))/\Chg w w' []:=by
 have b:=a.cell 0;have i:=a.lt;simp only[Qa]at b;by_cases h:k=s
 .subst h
  rw[decide_eq_true rfl];go_enter func159,ntmps159
  go_wp2_with fail
  go_ret
  exact⟨rfl,(Chg.refl w []).alloc _⟩
 .have c:¬k.toList=s.toList:=fun e=>h (by rw[Lib.toList_data,Lib.toList_data]at e;exact ByteArray.ext (Array.toList_inj.1 e))
  have g:(k.toList==s.toList)=false:=by simpa using c
  rw[decide_eq_false h];go_enter func159,ntmps159
  go_wp2_with fail
  go_ret
  exact⟨rfl,(Chg.refl w []).alloc _⟩
theorem eQ(k:BY)(b:Ti)(c:Vl)(w:Wl):
  Cl prog 122 #[nA #[nG k,nF b c]] w fun e w'=>e= nR (.bool (decide (k=SZ)))/\Chg w w' []:=by
 by_cases h:k=SZ
 .subst h
  have f:(SZ.toList==[118,97,108,117,101])=true:=by rw[beq_iff_eq,Lib.toList_data];rfl
  rw[decide_eq_true rfl];go_enter func122,ntmps122
  go_wp2_with fail
  go_ret
  exact⟨rfl,(Chg.refl w []).alloc _⟩
 .have a:¬k.toList=[118,97,108,117,101]:=fun e=>h (by rw[Lib.toList_data]at e;exact ByteArray.ext (Array.toList_inj.1 e))
  have d:(k.toList==[118,97,108,117,101])=false:=by simpa using a
  rw[decide_eq_false h];go_enter func122,ntmps122
  go_wp2_with fail
  go_ret
  exact⟨rfl,(Chg.refl w []).alloc _⟩
theorem eM{ks:List BY}{vs:List Vl}{i:Nat}{k:BY}{v:Vl}(a:ks[i]? =nM k)(b:vs[i]? =nM v):(Kp ks vs)[i*2]? =nM (nG k)/\(Kp ks vs)[i*2+1]? =nM v:=by
 have h:=Mi a b;rw[Nat.mul_comm 2 i]at h;exact h
theorem eO{ks:List BY}{s:BY}{i:Nat}(h:ks[i]? =nM s)(e:∀j k,j<i->ks[j]? =nM k->k≠s):eN ks s=i:=by
 have d:s∈ks:=Qi h
 have f:A5 ks s=i:=by
  have c:i<ks.length:=(Qc.1 h).1;refine(List.findIdx_eq c).2 ⟨?_,fun j a=> ?_⟩
  .have:=(Qc.1 h).2;simpa using this
  .have b:j<ks.length:=by omega
   have:=e j ks[j] a (Q9 b);simpa using this
 unfold eN;rw[Qr (Cp.2 d),f]
theorem eL{ks:List BY}{s:BY}(b:∀j k,j<ks.length->ks[j]? =nM k->k≠s):eN ks s= -1:=by
 unfold eN;rw[Qs];intro h;obtain⟨j,a⟩:=List.mem_iff_getElem?.1 (Cp.1 h);exact b j s (Qc.1 a).1 a rfl
theorem eV(p:Nat)(n:Array Vl)(s:BY)(ks:List BY)(vs:List Vl)(F:Nat->Prop)(O:Option Addr)(c:Nat)(w:Wl)(M:ks.length=vs.length)(aa:ks.length<=4294967296)(K:LP w F O (Kp ks vs))(hi:∀v∈vs,∃a d,v= nF a d)(Y:∀x w,(callFunc p (#[x]++n)).run prog w= .ok (.enter p (#[x]++n)) w)(L:∀G k a d,Chg w G []->Cl prog p (#[nA #[nG k,nF a d]]++n) G fun e w'=>e= nR (.bool (decide (k=s)))/\Chg G w' []):
  Cl prog 121 #[nS O ks.length c,.func (.func p) #[] n] w fun e w'=>e= nR (nI nX (eN ks s))/\Chg w w' []:=by
 have R:=hZ K;have H:=hZ L;have P:=hZ hi;have Q:=hZ M;clear K L hi M;go_enter func121,ntmps121
 go_wp2_with fail
 go_loopw [8] (fun E wr=>∃i:Nat,i<=ks.length/\E= nI nX i/\Chg w wr []/\∀j k,j<i->ks[j]? =nM k->k≠s) (fun E _=>ks.length-(intOf E).toNat)
 case atStart=>exact⟨0,Zj,rfl,Chg.refl w [],fun j k h=>absurd h (Nat.not_lt_zero j)⟩
 case round=>
  obtain⟨i,Z,rfl,t,N⟩:=hrel;have g:=hZ t;have z:=hZ N;clear N;by_cases V:i<ks.length
  .obtain⟨k,C⟩:∃k,ks[i]? =nM k:=⟨_,Q9 V⟩
   obtain⟨v,D⟩:∃v,vs[i]? =nM v:=⟨_,Q9 (by have:=Q.o;omega)⟩
   obtain⟨a,d,rfl⟩:=P.o v (Qi D);obtain⟨r,J⟩:=eM C D
   rcases R.o with T|⟨b,o,rfl,_,A⟩
   .rw[T]at r;simp at r
   have X:wr.cell? ⟨b,o+i*2,nN⟩=nM (nG k):=t.keeps (A _ _ r);have c1:wr.cell? ⟨b,o+i*2+1,nN⟩=nM (nF a d):=t.keeps (A _ _ J);have I:=hZ C;clear A r J D t C;by_cases f:k=s
   .have y:=hZ f
    have B:decide (k=s)=true:=decide_eq_true f;clear f;go_wp2_with((refine(H.o wr k a d g.o).mono ?_;rw[B];rintro e W ⟨rfl,l⟩;have u:=hZ l;clear l))
    go_ret
    exact⟨by rw[eO (y.o▸I.o) z.o];rfl,g.o.trans u.o⟩
   .have y:=hZ f
    have B:decide (k=s)=false:=decide_eq_false f;clear f;go_wp2_with((refine(H.o wr k a d g.o).mono ?_;rw[B];rintro e W ⟨rfl,l⟩;have u:=hZ l;clear l))
    go_roundw
    case rel=>
     refine⟨i+1,Zj,by go_num,g.o.trans u.o,fun j q hj m=> ?_⟩;by_cases U:j=i
     .subst U
      have S:=I.o;rw[S]at m
      injection m with m
      rw[<-m];exact y.o
     .exact z.o j q Zj m
    case measure=>simp[intOf];omega
  .obtain rfl:i=ks.length:=by omega
   go_wp2_with fail
   go_ret
   exact⟨by rw[eL z.o];rfl,g.o⟩
end
end Go.Proofs.YtkfnkppdhcaeoaaGreatDoor

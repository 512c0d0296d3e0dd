/- PROVED HERE: for every list of steps and every list of operations that are together of bulk at most 1048576, affidavitlaw17.PatchInverts returns true: the row and its tied card, Rows.PatchInvertsUptoCardSaid. CONDITIONS: the package variables that the row lists hold at the call what it lists (tied by the card to the text of the program); no other. -/
import Derived.Test.YtpdnhfkacgdocaaGreatDoorM26
set_option maxRecDepth 100000
set_option maxHeartbeats 32000000
set_option linter.all false
namespace Go.Proofs.YtpdnhfkacgdocaaGreatDoor
open Go renaming Calls->Cl,TypeId->Ti,Value->Vl,World->Wl
open Go.Value renaming agg->nA,iface->nF,int->nI,pointer->nP,slice->nS,tuple->nT
open Go.IntKind renaming i64->nX
open Go.Ending renaming returned->nR
open Option renaming none->nN,some->nM
section
open _root_.Go.Proofs.Tryz
open Go Go.Shelf Go.RowKit Go.Lib Tree Ptr
theorem qJ(w:Wl):iI w (nS nN 0 0) []:=⟨nN,0,rfl,fun i p a=>by simp at a⟩
theorem qR:∀{l:List Bq} {t:Tr} {u:List CW} {i k j:Nat},BR t u i l= .no k j->k≠0
 |[],t,u,i,k,j,h=>by simp only[BR]at h;cases h
 |o::l,t,u,i,k,j,h=>by
  simp only[BR]at h;cases a:Gz t o with
  |no e=>rw[a]at h;injection h with b _;subst b;exact Zq a
  |yes s v=>rw[a]at h;exact qR h
theorem za{p:Prop}(h:p:=by go_ret;exact⟨rfl,q.o.trans HZ.o⟩):p:=h
theorem rQ(l:List Ap)(g:List Bq)(sl so:Vl)(xs ys:List Vl)(w:Wl)(hL:Br w)(aK:10<=w.heap.size)(hS:aq w sl l xs)(hA:UG w so g ys)(aP:∀o∈g,o.path.size<=1048576/\o.frm.size<=1048576):
  Cl prog 4 #[sl,so] w (BU true w):=by
 have HM:=hZ (WL l sl xs w hS.row hS.at_ hS.small hS.many);have HL:=hZ hL;have az:=hZ aK;have B:=hZ hA;obtain⟨a7,a8,rfl,_⟩:=hS.row.form;obtain⟨ad,ae,rfl,_⟩:=hA.row.form;obtain⟨ln,aO⟩:=Ue l.length;obtain⟨no,ay⟩:=Ue g.length;have P:=hZ ay;rw[<-aO]at HM|-;rw[<-ay];have hl:=hA.many;rw[<-ay]at hl;have aU:=hZ aP;clear aP;have aR:=UD (∀p∈g,p.steps.length<=4294967296/\∀s∈p.steps,s.keys.length<=4294967296) fun p hp=>⟨(hA.small p hp).len,fun s hs=>by have:=((hA.small p hp).steps s hs).keys;omega⟩;have a0:=hS.small;clear hL aK hS hA aO ay;cases ax:AS l with
 |none=>
  rw[ax]at HM;clear ax hl B P aR;go_enter func4,ntmps4;go_wp2_with fail;refine HM.o.mono ?_;rintro e w1 ⟨rfl,v⟩;have H1:=hZ v;clear v
  go_wp2_with(first
   |(refine kM w1 Ya ?_;intro w2 _ hN;have q:=hZ (H1.o.trans hN.o);clear hN)
   |(go_at_call 6;refine(Ko w2 (HL.o.kept q.o) (Q7 az.o q.o.size)).mono ?_;rintro e w3 ⟨rfl,j⟩;have J:=hZ (q.o.trans j);clear j))
  go_ret;exact⟨rfl,J.o⟩
 |some t=>
  rw[ax]at HM;clear ax a0;go_enter func4,ntmps4;go_wp2_with fail;refine HM.o.mono ?_;rintro e w1 ⟨⟨F,Fn,cs,M,A,hv,aM,hT,aL,aN⟩,v⟩;obtain⟨X,Y,Z,v3,v4,v5,rfl⟩:=kt (E7 hv).2;have A:e= nR (nT #[nP (nM ⟨M,0,nN⟩),nA #[X,Y,Z,v3,v4,v5],.bool true]):=A;subst A;have H1:=hZ v;have HT:=hZ hT;have HV:=hZ hv;have av:=UD (∀b,F b->b<w1.heap.size) (fun b z=>(aM b z).2);have au:=UD (∀b,Fn b->b<w1.heap.size) (fun b z=>(aL b z).2);have ar:=hZ aN;have aI:=hZ (E7 hv).1;clear v hv aM hT aL aN;go_wp2_with(refine kM w1 aI.o ?_;intro w2 aA L);have q:=UD (Chg w w2 []) (H1.o.trans L.o);have aC:=UD (∀d,Chg w2 d []->Cl prog 6 #[] d (BU true d)) fun d f=>Ko d (HL.o.kept (q.o.trans f)) (Q7 az.o (q.o.trans f).size)
  have a2:=UD (∀d,Chg w2 d []->Cl prog 12 #[nP (nM ⟨M,0,nN⟩),nA #[X,Y,Z,v3,v4,v5]] d (BU true d)) fun d f=>
   dt t F Fn M [X,Y,Z,v3,v4,v5] d ar.o (HT.o.kept (L.o.trans f) au.o) (fun b z=>Q6 (au.o b z) (L.o.trans f).size) (AL.kept ((L.o.trans f).keepsF av.o) (fun _ h=>h) _ _ HV.o) (fun b z=>Q6 (av.o b z) (L.o.trans f).size)
  have aB:=UD (∀d,Chg w2 d []->Cl prog 7 #[nS ad no ae] d (jb g d)) fun d f=>by
   have:=iD g _ ys d (B.o.row.kept (q.o.trans f)) (Cc.kept (q.o.trans f) B.o.at_) B.o.small B.o.many;rwa[<-P.o]at this
  have a6:=UD (iI w2 (nS ad no ae) g) (by have:=(iI.ofR B.o.row B.o.at_).kept q.o;rwa[<-P.o]at this)
  have ag:∀d n y G,g.length<=65536->Chg w2 d []->EW w2 d g n y G->Cl prog 14 #[nP (nM ⟨M,0,nN⟩),n] d (Jz (BR t [] 0 g) d):=fun d n y G D f K=>
   Xn Fn M t g n y d ⟨HL.o.kept (q.o.trans f),Q7 az.o (q.o.trans f).size,HT.o.kept (L.o.trans f) au.o,fun b z=>Q6 (au.o b z) (L.o.trans f).size,ar.o,K.row,K.ops.toIn,B.o.small,D⟩
  have an:∀d,g.length<=65536->Chg w2 d []->Cl prog 9 #[nA #[X,Y,Z,v3,v4,v5],nS ad no ae] d (pQ (BR t [] 0 g) d):=fun d D f=>by
   have:=rB t F [X,Y,Z,v3,v4,v5] g (nS ad g.length ae) ys d (AL.kept ((L.o.trans f).keepsF av.o) (fun _ h=>h) _ _ HV.o) (fun b z=>Q6 (av.o b z) (L.o.trans f).size) ar.o (B.o.row.kept (q.o.trans f)) (Cc.kept (q.o.trans f) B.o.at_) B.o.small D;rwa[<-P.o]at this
  have aX:(∃(ti:Ti) (x:Vl) (k i:Int),(∀d n y G,Chg w2 d []->EW w2 d g n y G->Cl prog 14 #[nP (nM ⟨M,0,nN⟩),n] d fun e w'=>e= nR (nT #[nS nN 0 0,nF ti x])/\Chg d w' [])/\
    (∀d,Chg w2 d []->Cl prog 9 #[nA #[X,Y,Z,v3,v4,v5],nS ad no ae] d fun e w'=>(∃cs:List Vl,(∀u∈cs,u.oneCell'=true)/\cs.length=6/\e= nR (nT #[nA cs.toArray,nS nN 0 0,nI nX k,nI nX i]))/\Chg d w' [])/\
    k≠0/\∀d,Cl prog 13 #[nF ti x,nI nX k,nI nX i] d (BU true d))\/
   (∃(u:Tr) (C:List CW),(∀d,Chg w2 d []->Cl prog 9 #[nA #[X,Y,Z,v3,v4,v5],nS ad no ae] d (pQ (.yes u C) d))/\
    ((65536<C.length/\∃(ti:Ti) (x:Vl),(∀d n y G,Chg w2 d []->EW w2 d g n y G->Cl prog 14 #[nP (nM ⟨M,0,nN⟩),n] d fun e w'=>e= nR (nT #[nS nN 0 0,nF ti x])/\Chg d w' [])/\∀d,Cl prog 13 #[nF ti x,nI nX 3,nI nX (-1)] d (BU true d))\/
     (C.length<=65536/\(∀d n y G,Chg w2 d []->EW w2 d g n y G->Cl prog 14 #[nP (nM ⟨M,0,nN⟩),n] d fun e w'=>∃s4 x4 G4,e= nR (nT #[s4,.nilIface])/\EW d w' (C.map CW.toI) s4 x4 G4/\Chg d w' [])/\∀p∈C.map CW.toI,p.steps.length<=4294967296/\∀s∈p.steps,s.keys.length<=4294967296))):=by
   by_cases D:65536<g.length
   .refine .inl ⟨_,_,3,-1,fun d n y G f K=> ?_,fun d f=> ?_,ZM,fun d=>iR 3 (-1) ZM ZM d⟩
    .obtain⟨a,c,rfl,_⟩:=K.row.form;exact fZ M a _ c d D B.o.many
    .exact qt [X,Y,Z,v3,v4,v5] ⟨aI.o,rfl⟩ ad no ae d (by rw[P.o];exact D) hl
   have D:g.length<=65536:=Zj;cases hr:BR t [] 0 g with
   |no k i=>
    have hk:(k:Int)≠0:=by have:=qR hr;omega
    rw[hr]at ag an;exact .inl ⟨_,_,k,i,fun d n y G f K=>ag d n y G D f K,fun d f=>an d D f,hk,fun d=>iE k i hk Zj d⟩
   |yes u C=>
    have a1:=fK ar.o (fun o ho=>⟨(B.o.small o ho).toB,aU.o o ho⟩) (fun r hr=>(by cases hr)) hr;rw[hr]at ag an;refine .inr ⟨u,C,fun d f=>an d D f, ?_⟩;by_cases z:65536<C.length
    .refine .inl ⟨z,_,_,fun d n y G f K=>(ag d n y G D f K).mono fun e w' h=> ?_,fun d=>iR 3 (-1) ZM ZM d⟩;simp only[Jz,Qr z]at h;exact h
    .refine .inr ⟨Zj,fun d n y G f K=>(ag d n y G D f K).mono fun e w' h=> ?_,fun p hp=> ?_⟩
     .simp only[Jz,Qs z]at h;exact h
     .obtain⟨r,aZ,rfl⟩:=List.mem_map.1 hp;have v:=(a1 r aZ).ops;exact⟨v.len,fun s hs=>by have:=(v.steps s hs).keys;omega⟩
  clear ag an;rcases aX with⟨ti,x,k,i,v,R,j,m⟩|⟨u,C,v,⟨ao,ti,x,R,m⟩|⟨ao,R,m⟩⟩
  .have ah:=hZ v;have am:=hZ R;have aj:=hZ m;have hk:(k==0)=false:=Qq.2 j;clear v R j m
   go_wp2_with(first
     |(go_at_call 7;refine(aB.o _ (by exact cg cR)).mono ?_;rintro e w3 ⟨s3,x3,G3,rfl,j,S⟩;have O:=hZ j;have ai:=hZ (iI.ofAt j);obtain⟨a3,c3,rfl,_⟩:=j.row.form;rw[<-P.o]at O ai|-;have J:=hZ S;clear j S)
     |(go_at_call 14;refine(ah.o w3 _ x3 G3 J.o O.o).mono ?_;rintro e w4 ⟨rfl,m⟩;have aF:=hZ m;have H:=hZ (J.o.trans m);clear m)
     |(refine uN (aA.o.kept H.o) ?_)
     |(go_at_call 9;refine(am.o w4 H.o).mono ?_;rintro e w5 ⟨⟨aJ,E,W,A⟩,T⟩;obtain⟨d0,d1,d2,d3,d4,d5,rfl⟩:=kt W;have A:e= nR (nT #[nA #[d0,d1,d2,d3,d4,d5],nS nN 0 0,nI nX k,nI nX i]):=A;subst A;have al:=hZ E;have af:=hZ T;clear E W T)
     |(refine kM w5 al.o ?_;intro w6 aG aa;have H6:=UD (Chg w2 w6 []) (H.o.trans (af.o.trans aa.o)))
     |(go_at_call 13;refine(aj.o w6).mono ?_;rintro e N ⟨rfl,I⟩;have ap:=hZ I;have H9:=hZ (H6.o.trans I);clear I)
     |(go_at_call 10;refine(lj [] (nS nN 0 0) (nS nN 0 0) N (qJ N) (qJ N) (Nat.zero_le _) (fun _ h=>by cases h)).mono ?_;rintro e wq ⟨rfl,U⟩;have Q:=hZ (H9.o.trans U);clear U)
     |(go_at_call 6;refine(aC.o _ Q.o).mono ?_;rintro e wz ⟨rfl,V⟩;have HZ:=hZ (Q.o.trans V);clear V))
   exact za
  .have ah:=hZ R;have am:=hZ v;have aj:=hZ m;clear v R m;obtain⟨nu,ab⟩:=Ue C.length;have ak:=hZ ab;rw[<-ab]at ao;clear ab;have aE:(65536:Int)<(nu:Int):=Zj;have aY:decide ((65536:Int)<(nu:Int))=true:=decide_eq_true aE;clear ao
   go_wp2_with(first
     |(go_at_call 7;refine(aB.o _ (by exact cg cR)).mono ?_;rintro e w3 ⟨s3,x3,G3,rfl,j,S⟩;have O:=hZ j;have ai:=hZ (iI.ofAt j);obtain⟨a3,c3,rfl,_⟩:=j.row.form;rw[<-P.o]at O ai|-;have J:=hZ S;clear j S)
     |(go_at_call 14;refine(ah.o w3 _ x3 G3 J.o O.o).mono ?_;rintro e w4 ⟨rfl,m⟩;have aF:=hZ m;have H:=hZ (J.o.trans m);clear m)
     |(refine uN (aA.o.kept H.o) ?_)
     |(go_at_call 9;refine(am.o w4 H.o).mono ?_;rintro e w5 ⟨⟨F5,aJ,s5,x5,G5,A,E,W,q3⟩,T⟩;obtain⟨d0,d1,d2,d3,d4,d5,rfl⟩:=kt (E7 E).2;obtain⟨a5,c5,rfl,_⟩:=q3.row.form;have A:e= nR (nT #[nA #[d0,d1,d2,d3,d4,d5],nS a5 _ c5,nI nX 0,nI nX 0]):=A;subst A;have al:=hZ (E7 E).1;have aT:=hZ E;have aS:=hZ W;have aw:=hZ (iI.ofAt q3);rw[List.length_map,<-ak.o]at aw|-;have af:=hZ T;clear E W q3 T)
     |(refine kM w5 al.o ?_;intro w6 aG aa;have H6:=UD (Chg w2 w6 []) (H.o.trans (af.o.trans aa.o)))
     |(go_at_call 13;refine(aj.o w6).mono ?_;rintro e N ⟨rfl,I⟩;have ap:=hZ I;have H9:=hZ (H6.o.trans I);clear I)
     |(go_at_call 10;refine(lj [] (nS nN 0 0) (nS nN 0 0) N (qJ N) (qJ N) (Nat.zero_le _) (fun _ h=>by cases h)).mono ?_;rintro e wq ⟨rfl,U⟩;have Q:=hZ (H9.o.trans U);clear U)
     |(go_at_call 6;refine(aC.o _ Q.o).mono ?_;rintro e wz ⟨rfl,V⟩;have HZ:=hZ (Q.o.trans V);clear V))
   exact za
  .have aj:=UD (∀d,Cl prog 13 #[.nilIface,nI nX 0,nI nX 0] d (BU true d)) fun d=>jK 0 d;have ah:=hZ R;have am:=hZ v;have aV:=hZ m;clear v R m;obtain⟨nu,ab⟩:=Ue C.length;have ak:=hZ ab;rw[<-ab]at ao;clear ab;have aE:¬(65536:Int)<(nu:Int):=Zj;have aY:decide ((65536:Int)<(nu:Int))=false:=decide_eq_false aE;have aQ:(C.map CW.toI).length<=4294967296:=by rw[List.length_map,<-ak.o];omega
   have aW:=hZ aQ;clear ao aQ
   go_wp2_with(first
     |(go_at_call 7;refine(aB.o _ (by exact cg cR)).mono ?_;rintro e w3 ⟨s3,x3,G3,rfl,j,S⟩;have O:=hZ j;have ai:=hZ (iI.ofAt j);obtain⟨a3,c3,rfl,_⟩:=j.row.form;rw[<-P.o]at O ai|-;have J:=hZ S;clear j S)
     |(go_at_call 14;refine(ah.o w3 _ x3 G3 J.o O.o).mono ?_;rintro e w4 ⟨s4,x4,G4,rfl,m,aD⟩;have aH:=hZ (iI.ofAt m);obtain⟨a4,c4,rfl,_⟩:=m.row.form;rw[List.length_map,<-ak.o]at aH|-;have aF:=hZ aD;have H:=hZ (J.o.trans aD);clear m aD)
     |(refine uN (aA.o.kept H.o) ?_)
     |(go_at_call 9;refine(am.o w4 H.o).mono ?_;rintro e w5 ⟨⟨F5,aJ,s5,x5,G5,A,E,W,q3⟩,T⟩;obtain⟨d0,d1,d2,d3,d4,d5,rfl⟩:=kt (E7 E).2;obtain⟨a5,c5,rfl,_⟩:=q3.row.form;have A:e= nR (nT #[nA #[d0,d1,d2,d3,d4,d5],nS a5 _ c5,nI nX 0,nI nX 0]):=A;subst A;have al:=hZ (E7 E).1;have aT:=hZ E;have aS:=hZ W;have aw:=hZ (iI.ofAt q3);rw[List.length_map,<-ak.o]at aw|-;have af:=hZ T;clear E W q3 T)
     |(refine kM w5 al.o ?_;intro w6 aG aa;have H6:=UD (Chg w2 w6 []) (H.o.trans (af.o.trans aa.o)))
     |(go_at_call 13;refine(aj.o w6).mono ?_;rintro e N ⟨rfl,I⟩;have ap:=hZ I;have H9:=hZ (H6.o.trans I);clear I)
     |(go_at_call 10;refine(lj (C.map CW.toI) (nS a4 nu c4) (nS a5 nu c5) N (aH.o.kept (af.o.trans (aa.o.trans ap.o))) (aw.o.kept (aa.o.trans ap.o)) aW.o aV.o).mono ?_;rintro e wq ⟨rfl,U⟩;have Q:=hZ (H9.o.trans U);clear U)
     |(go_at_call 6;refine(aC.o _ Q.o).mono ?_;rintro e wz ⟨rfl,V⟩;have HZ:=hZ (Q.o.trans V);clear V))
   exact za
end
section
open _root_.Go.Proofs.Tryz
open Go Go.RowKit Go.ChangeShapes Go.WideShapes Go.ChangeAt
theorem qM(H:Type)(enc:Ti×Vl->H)(W:Wl)(base:Nat)(args:Array Vl)(ds B:List (DataW H))(P:List MemPlace)(m:∀(j:Nat) t v,f4.params[j]? =nM t->args[j]? =nM v->Vl.okWide prog W .any base t v)(E:DataW.Whole enc prog f4.params.toList Rows.patchInvertsSpec.vars false W args.toList ds B P)(af:Rows.uptoSmall H (ds++B)=true)(S:laidMetH prog Ul W)(Z:W.ShapedOpen prog):
  Cl prog 4 args W fun e r=>∃v,e= nR v/\Rows.patchInvertsSpec.post enc prog f4 false true false false W args v r:=by
 have F:=E;obtain⟨p,q,C,D,rfl,al,an⟩:=E;have k:DataW.TrodAll enc prog W 0 (fun _=>true) true f4.params.toList args.toList ds p:=C;rw[params4]at k m;obtain⟨L,ap,w,ah,n,q0,aj,rfl,rfl,c,J⟩:=trodAll_cons k;obtain⟨M,aq,y,ai,o,q1,rfl,rfl,rfl,d,K⟩:=trodAll_cons J;obtain⟨rfl,rfl,rfl⟩:=trodAll_nil K;obtain rfl:args=#[L,M]:=by cases args;simp_all
 obtain⟨rfl,rfl⟩:=trodVars_none D;clear C k D J K;obtain⟨N,n0,Q,rfl⟩:=okWide_slice underlying22 (m 0 22 L rfl rfl);obtain⟨O,n1,c1,rfl⟩:=okWide_slice underlying23 (m 1 23 M rfl rfl);have aa:=c;have ab:=d;obtain⟨u0,c⟩:=c;obtain⟨u1,d⟩:=d
 have ak:Rows.uptoBulk w+(Rows.uptoBulk y+0)<=1048576:=by
  have:=of_decide_eq_true af;simpa only[Qo,List.nil_append,Rows.uptoBulkAll]using this
 obtain⟨s,z,l,xs,ad,X,Y,hw,am⟩:=MA c (show Rows.uptoBulk w<=1048576 by omega);obtain⟨u,A,pa,ys,ae,U,V⟩:=Rt d (show Rows.uptoBulk y<=1048576 by omega);have g:[Vl.slice N n0 Q]=[Vl.slice s l.length z]:=ad;have i:[Vl.slice O n1 c1]=[Vl.slice u pa.length A]:=ae;rw[List.cons.injEq]at g i;rw[g.1,i.1];obtain⟨T,R⟩:=Yv S Z;refine(rQ l pa (nS s l.length z) (nS u pa.length A) xs ys W T R ⟨X,Y,hw,Zj⟩ U V).mono fun e r ⟨he,f⟩=> ?_;subst he;rw[<-g.1,<-i.1]
 refine⟨_,rfl,Pq (pa:=n++(o++[])) (pv:=[]) F (fun _ _ _=>trodAll_cons_mk (shut_bool underlying4 _) trodAll_mk0) (fun sp ag=> ?_) (fun _ _=>rfl) rfl
  (f.keptBut _) (fun b ao hb=>f.frozen hb Zh) (ok_one Yb rfl (okWide_bool_mk underlying4 _))⟩
 have G:∀x,x∈n\/x∈o->x.block<W.heap.size:=fun x a=>F.lt x (by rcases a with h|h<;>simp[h]);have I:∀x,x∈n\/x∈o->sp x.block=true:=fun x a=>ag x (by rcases a with h|h<;>simp[h])
 exact trodAll_cons_mk (WideElems.Trod_stays Me Yb (of_decide_eq_true Yb) aa (fun x a=>f.sameAt (G x (.inl a))) (fun x a=>I x (.inl a)))
  (trodAll_cons_mk (WideElems.Trod_stays Me Yb (of_decide_eq_true Yb) ab (fun x a=>f.sameAt (G x (.inr a))) (fun x a=>I x (.inr a))) trodAll_mk0)
def tX:Array Vl:=#[nS nN 0 0,nS nN 0 0]
theorem rs(os:Os){H:Type}(enc:Ti×Vl->H):∃a,DataW.whole enc prog ((Kn os).forCall (fun _ _=>0) ⟨#[],tX,[]⟩).memory f4.params.toList Rows.patchInvertsSpec.vars false tX.toList 8=nM ([.nil,.nil],[],a):=
 ⟨[],Yb⟩
theorem rd(os:Os)(j:os.Started)(H:Type)(enc:Ti×Vl->H)(F:Stop.Interp):
  ReturnsInHanded {} checked os 4 .any ((Rows.OpenSpec.upto Rows.patchInvertsSpec).preRow enc prog f4 Rows.patchInvertsUptoRow.domain false Rows.patchInvertsUptoRow.laid) (((Rows.OpenSpec.upto Rows.patchInvertsSpec).at F).post enc prog f4 false true false false):=by
 obtain⟨l,i⟩:=rs os enc
 refine returnsInHanded_of_row (C:=checked) (s:=Rows.OpenSpec.upto Rows.patchInvertsSpec) Xm j Yb func4
  (witness_row_atRef (enc:=enc) (C:=checked) false (Kn os) tX rfl Yb Yb Yb
   (OpenSpec.preRow_of_cond 8 i Yb (fun k g=>by cases g;kernel_rfl) Yb (WK os _))) ?_
 intro W base args ds b a h e _ f _ c d _;exact qM H enc W base args ds b a h e (f _ rfl) c d
theorem tK{a b:Bool}(h:a=true)(k:b=true):(a&&b)=true:=by rw[h,k];rfl
theorem qA:prog.funcNamed Rows.patchInvertsUptoRow.func=nM 4:=Yb
theorem rp:joinedFacts prog 4 f4 (Rows.OpenSpec.upto Rows.patchInvertsSpec).bare Rows.patchInvertsUptoRow=true:=by
 unfold joinedFacts;iterate 31 refine tK ?_ ?_
 all_goals as_aux_lemma=>kernel_rfl
theorem rH:f4.isInstance prog Rows.patchInvertsUptoRow.origin Rows.patchInvertsUptoRow.targs:=of_decide_eq_true Yb
theorem rJ:f4.isWrapper prog Rows.patchInvertsUptoRow.wrapper Rows.patchInvertsUptoRow.mainSum:=by
 unfold Func.isWrapper;first|(rw[Qr (by decide+kernel)];kernel_rfl)|(rw[Qs (by decide+kernel)];exact⟨rfl,rfl⟩)
theorem rI:Rows.PatchInvertsUptoSaid:=
 OpenClaim.holds_of_cond 4 f4 rfl rfl rfl rfl rfl rfl rfl ⟨rfl,rfl,rfl,rfl,rfl⟩ rfl rfl rfl rfl rfl qA func4 rp rH rJ
  (fun os a H enc _ F=>by rw[OpenClaim.pre_eq_preRow];exact rd os a H enc F)
theorem rq(f:FuncId)(a:Func)(c:Tryz.pinned.checked.prog.funcNamed Rows.patchInvertsUptoRow.func=nM f)(d:Tryz.pinned.checked.prog.funcs[f]? =nM a):
  true=Tryz.pinned.checked.prog.looks []/\∀(j:Nat) t,a.params[j]? =nM t->Tryz.pinned.checked.prog.wantsStandIn t=false:=by
 obtain rfl:f=4:=Q5 (qA.symm.trans c)|>.symm
 obtain rfl:a=f4:=(Q5 (func4.symm.trans d)).symm;refine⟨Yb,fun j t b=> ?_⟩;rw[params4]at b
 have e:t=22\/t=23:=by
  have:=Array.mem_of_getElem? b;simp at this;rcases this with h|h<;>simp[h]
 rcases e with rfl|rfl
 .exact(show prog.wantsStandIn 22=false by kernel_rfl)
 .exact(show prog.wantsStandIn 23=false by kernel_rfl)
theorem patchInverts_card:Rows.PatchInvertsUptoCardSaid:=
 Claim7.holds_tied_plain_at .later [] _ _ _ _ rI (fun _ h=>by cases h) Yb (fun _ h=>by cases h) patchInvertsUpto_row_tie rfl ⟨rfl,rfl⟩ Yb rfl rq Yb
end
#print axioms patchInverts_card
end Go.Proofs.YtpdnhfkacgdocaaGreatDoor

/- Part 5 of the proof of patchFresh_card. -/
import Derived.BigQuiet
import Derived.Deep.Light
import Derived.Deep.QuietTactic
import Derived.Deep.RegionHeld3
import Derived.Ground.Names2Prog
import Derived.Ground.NamesProg
import Derived.Ground.SlgnProg
import Derived.Ground.SlsfProg
import Derived.Shelf.Bits.Mul64
import Derived.Shelf.SlGeneric
import Derived.Shelf.SlSortCmp.NoneTotal
import Derived.Shelf.SlicesQ.Reverse
import Derived.StillTailTactics
import Derived.Test.YtamgbmcchhmojaaGreatDoorRows
import Derived.WalkLawsBesides
import Derived.WalkSpells
import Derived.Test.YtamgbmcchhmojaaGreatDoorM02
set_option maxRecDepth 100000
set_option maxHeartbeats 32000000
set_option linter.all false
namespace Go.Proofs
open Go renaming Calls->Cl,TypeId->Ti,Value->Vl,World->Wl
open Go.Value renaming agg->nA,iface->nF,int->nI,pointer->nP,slice->nS,string->nG
open Go.IntKind renaming i64->nX
open Go.Ending renaming returned->nR
open Go.Obj renaming cells->nC
open Option renaming none->nN,some->nM
section
open Go.Shelf
variable{p:Prop}
def bz:Go.Shelf.Ren:=⟨fun|6=>99|15=>124|14=>123|28=>163|29=>149|20=>155|21=>156|22=>157|23=>158|24=>159|25=>160|26=>161|27=>162|46=>190|47=>191|48=>192|49=>193|50=>194|57=>212|n=>n,fun|22=>27|24=>9|25=>181|3=>3|39=>223|0=>0|53=>266|55=>25|4=>4|46=>273|45=>272|50=>203|5=>5|9=>9|66=>295|70=>299|76=>325|77=>326|n=>n,fun|n=>n⟩
theorem _root_.zE(h:p:=by kernel_rfl):p:=h
theorem _root_.zy(h:p:=by
 constructor
 case f6=>exact⟨Tryz.f99.name,by decide,Tryz.func99.trans (congrArg some zE)⟩
 case f14=>exact⟨Tryz.f123.name,by decide,Tryz.func123.trans (congrArg some zE)⟩
 case f15=>exact Tryz.func124.trans (congrArg some zE)
 case f20=>exact⟨Tryz.f155.name,by decide,Tryz.func155.trans (congrArg some zE)⟩
 case f21=>exact⟨Tryz.f156.name,by decide,Tryz.func156.trans (congrArg some zE)⟩
 case f22=>exact⟨Tryz.f157.name,by decide,Tryz.func157.trans (congrArg some zE)⟩
 case f23=>exact⟨Tryz.f158.name,by decide,Tryz.func158.trans (congrArg some zE)⟩
 case f24=>exact⟨Tryz.f159.name,by decide,Tryz.func159.trans (congrArg some zE)⟩
 case f25=>exact⟨Tryz.f160.name,by decide,Tryz.func160.trans (congrArg some zE)⟩
 case f26=>exact⟨Tryz.f161.name,by decide,Tryz.func161.trans (congrArg some zE)⟩
 case f27=>exact⟨Tryz.f162.name,by decide,Tryz.func162.trans (congrArg some zE)⟩
 case f28=>exact Tryz.func163.trans (congrArg some zE)
 case f29=>exact Tryz.func149.trans (congrArg some zE)
 case f46=>exact⟨Tryz.f190.name,by decide,Tryz.func190.trans (congrArg some zE)⟩
 case f47=>exact Tryz.func191.trans (congrArg some zE)
 case f48=>exact Tryz.func192.trans (congrArg some zE)
 case f49=>exact⟨Tryz.f193.name,by decide,Tryz.func193.trans (congrArg some zE)⟩
 case f50=>exact⟨Tryz.f194.name,by decide,Tryz.func194.trans (congrArg some zE)⟩
 case f57=>exact⟨Tryz.f212.name,by decide,Tryz.func212.trans (congrArg some zE)⟩
 all_goals first|kernel_rfl|(intro w;kernel_rfl)|(intro x w;kernel_rfl)):p:=h
theorem bB:Go.Proofs.SlLaysF.n6 Tryz.prog bz:=by
 exact zy
def bw:Go.Shelf.Ren:=⟨fun|6=>99|15=>124|14=>123|28=>163|29=>149|20=>155|21=>156|22=>157|23=>158|24=>159|25=>160|26=>161|27=>162|46=>190|47=>191|48=>192|49=>193|50=>194|57=>212|n=>n,fun|22=>27|24=>9|25=>181|3=>3|39=>223|0=>0|53=>266|55=>25|4=>4|46=>273|45=>272|50=>203|5=>5|9=>9|66=>295|70=>299|76=>325|77=>326|n=>n,fun|n=>n⟩
theorem bA:Go.Proofs.SlLaysF0.n6 Tryz.prog bw:=by
 exact zy
def bZ:Go.Shelf.Ren:=⟨fun|35=>25|n=>n,fun|22=>23|23=>44|3=>3|4=>4|0=>0|n=>n,fun|n=>n⟩
theorem bV:Go.Proofs.SlLaysE0.n35 Tryz.prog bZ:=by
 constructor
 case f35=>exact⟨Tryz.f25.name,by decide,Tryz.func25.trans (congrArg some zE)⟩
 all_goals first|kernel_rfl|(intro w;kernel_rfl)|(intro x w;kernel_rfl)
end
end Go.Proofs
namespace Go.Proofs.YtamgbmcchhmojaaGreatDoor
open Go renaming Calls->Cl,TypeId->Ti,Value->Vl,World->Wl
open Go.Value renaming agg->nA,iface->nF,int->nI,pointer->nP,slice->nS,string->nG
open Go.IntKind renaming i64->nX
open Go.Ending renaming returned->nR
open Go.Obj renaming cells->nC
open Option renaming none->nN,some->nM
section
open _root_.Go.Proofs.Tryz
open Go.RowKit
namespace PUtf
open Utf (IP EY)
def EX(c:Nat):Vl:= nA #[nI nX (Utf.AV c),nI .u8 (IP c),nI .u8 (EY c)]
theorem UX{c:Nat}{a l h:Int}(b:a=Utf.AV c)(e:l=IP c)(d:h=EY c):
  Ending.returned (nA #[nI nX a,nI .u8 l,nI .u8 h])= nR (EX c):=by
 subst b;subst e;subst d;rfl
end PUtf
variable{p:Prop}
theorem Cn(c:Nat)(a:c<256)(w:Wl):
  Cl prog 175 #[nI .u8 c] w fun e w'=>e= nR (PUtf.EX c)/\AB w w' []:=by
 go_enter func175,ntmps175;go_wp2;all_goals refine bodyPost_ret (v:= nA #[nI nX _,nI .u8 _,nI .u8 _]) (by simp[results,results175,go_sem];exact⟨rfl,rfl,rfl⟩) rfl ⟨PUtf.UX ?_ ?_ ?_,(AB.refl _ _).alloc _⟩
 all_goals go_light
 all_goals(try simp only[beq_iff_eq,Qq,ne_eq]at*)
 all_goals(first|unfold Utf.AV|unfold Utf.IP|unfold Utf.EY)
 all_goals repeat' split
 all_goals omega
theorem Y0(c i d:Nat)(f:2<=Utf.AV c)(w:Wl):
  Cl prog 176 #[PUtf.EX c,nI nX i,nI .u8 d] w fun e w'=>e= nR (.bool (Utf.EL c i d))/\AB w w' []:=by
 unfold PUtf.EX;go_enter func176,ntmps176;by_cases a:i=1
 .have g:((i:Int)==1)=true:=by simp[a]
  have b:=hZ a;clear a;go_wp2;all_goals go_ret
  all_goals refine⟨Bo ?_,(AB.refl _ _).alloc _⟩
  all_goals rw[b.o,Utf.Gf,Utf.TN d f,Bool.eq_iff_iff]
  all_goals simp
  all_goals omega
 .have g:((i:Int)==1)=false:=Qq.2 Zj;have b:=hZ a;clear a;go_wp2;all_goals go_ret
  all_goals refine⟨Bo ?_,(AB.refl _ _).alloc _⟩
  all_goals rw[Utf.EF b.o,Utf.He,Bool.eq_iff_iff]
  all_goals simp
  all_goals omega
theorem Ep(c i d n:Nat)(a:n=Utf.AV c)(b:2<=Utf.AV c)(w:Wl):
  Cl prog 176 #[nA #[nI nX n,nI .u8 (Utf.IP c),nI .u8 (Utf.EY c)],nI nX i,nI .u8 d] w fun e w'=>
   e= nR (.bool (Utf.EL c i d))/\AB w w' []:=by
 subst a;exact Y0 c i d b w
def FC(e a b c d m:Nat)(wr:Bool):List Vl:=
 [nI nX e,nI .u8 a,nI .u8 b,nI .u8 c,nI .u8 d,nI nX m,.bool wr]
theorem Bb{f a c d e m:Nat}{wr:Bool}{b:Nat}{w:Wl}{T:Ti}(h:Ac w b (FC f a c d e m wr) T):
  b<w.heap.size/\(∀j,w.frozen? ⟨b,j,nN⟩=false)/\w.cell? ⟨b,0,nN⟩=nM (nI nX f)/\w.cell? ⟨b,1,nN⟩=nM (nI .u8 a)/\w.cell? ⟨b,2,nN⟩=nM (nI .u8 c)/\
  w.cell? ⟨b,3,nN⟩=nM (nI .u8 d)/\w.cell? ⟨b,4,nN⟩=nM (nI .u8 e)/\w.cell? ⟨b,5,nN⟩=nM (nI nX m)/\w.cell? ⟨b,6,nN⟩=nM (.bool wr):=by
 refine⟨h.lt,fun j=>h.frozen j, ?_, ?_, ?_, ?_, ?_, ?_, ?_⟩;all_goals(rw[h.cell];rfl)
theorem _root_.zD(h:p:=by
 have c5:w.cell? ⟨b,5,nN⟩=nM (nI nX 0):=by rw[a.cell];rfl
 have f:=hZ d;have o:=a.lt;have n:=hZ a;clear d a;go_enter func141,ntmps141;go_wp2_with(first|(go_at_call 175;refine(Cn c k _).mono ?_;rintro e p ⟨rfl,l⟩;unfold PUtf.EX;rw[f.o]));go_ret;exact⟨rfl,l.alloc _⟩):p:=h
theorem YV(c m g h i j:Nat)(wr:Bool)(b:Nat)(w:Wl)(a:Ac w b (FC m g h i j 0 wr) 253)(k:c<256)(d:Utf.AV c=0):
  Cl prog 141 #[nP (nM ⟨b,0,nN⟩),nI .u8 c] w fun e w'=>e= nR (.bool false)/\AB w w' []:=by
 exact zD
theorem XW(c m g h i j:Nat)(wr:Bool)(b:Nat)(w:Wl)(a:Ac w b (FC m g h i j 0 wr) 253)(k:c<256)(d:Utf.AV c=1):
  Cl prog 141 #[nP (nM ⟨b,0,nN⟩),nI .u8 c] w fun e w'=>e= nR (.bool true)/\AB w w' []:=by
 exact zD
theorem VS(c l p g h i:Nat)(wr:Bool)(b:Nat)(w:Wl)(a:Ac w b (FC l p g h i 0 wr) 253)(q:c<256)(k:2<=Utf.AV c):
  Cl prog 141 #[nP (nM ⟨b,0,nN⟩),nI .u8 c] w fun e w'=>e= nR (.bool true)/\AB w w' [b]/\
   Ac w' b (FC l c g h i 1 wr) 253:=by
 have c5:w.cell? ⟨b,5,nN⟩=nM (nI nX 0):=by rw[a.cell];rfl
 have r:((Utf.AV c:Int)==0)=false:=Qq.2 Zj;have s:1<(Utf.AV c:Int):=Zj;have t:=hZ k;have E:=a.lt;have m:=hZ a;clear k a;obtain⟨n,d⟩:=Ue (Utf.AV c);have o:=hZ d;rw[<-d]at r s;clear d;go_enter func141,ntmps141;go_wp2_with(first|(go_at_call 175;refine(Cn c q _).mono ?_;rintro e F ⟨rfl,j⟩;unfold PUtf.EX;rw[<-o.o];have f:=hZ (m.o.kept j.toChg);obtain⟨u,v,x,y,z,A,B,C,D⟩:=Bb f.o));go_ret;exact⟨rfl,(((j.none [b]).setCell _ _ Zh).setCell _ _ Zh).alloc _,((f.o.set 1 _).set 5 _).alloc _⟩
def EI(f a b d e m n c:Nat)(wr:Bool):List Vl:=
 FC f a (if m=1 then c else b) (if m=2 then c else d) (if m=3 then c else e) (if m+1=n then 0 else m+1) wr
theorem _root_.zz(h:p:=by
 rw[u.o];have l:=hZ ((k.o.alloc _).drew.kept d.toChg);obtain⟨K,L,M,N,O,P,Q,R,S⟩:=Bb l.o;go_wp2;go_region
 go_wp2;go_quiet(fail);go_wp2;go_ret;have G2:=((m.alloc _).drew.trans d).none [b];refine⟨rfl,by(have:=G2;exact rT), ?_⟩;rw[q.o]
 (have:=l.o;exact rU)):p:=h
theorem _root_.zA(h:p:=by
 clear p;go_enter func141,ntmps141;go_wp2_with(first|(go_at_call 175;refine(Cn a x _).mono ?_;rintro e f ⟨rfl,m⟩;unfold PUtf.EX;rw[<-o.o];have k:=hZ (t.o.kept m.toChg);obtain⟨B,C,D,E,F,G,H,I,J⟩:=Bb k.o))
 go_region_held3(fun w'=>w'.cell? ⟨b,5,nN⟩=nM (nI nX 1)/\w'.cell? ⟨f.heap.size,0,nN⟩=nM (nI nX n)/\w'.cell? ⟨f.heap.size,1,nN⟩=nM (nI .u8 (Utf.IP a))/\w'.cell? ⟨f.heap.size,2,nN⟩=nM (nI .u8 (Utf.EY a)))
  (first|go_keep|(refine⟨d.keeps ?_,d.keeps ?_,d.keeps ?_,d.keeps ?_⟩<;>go_keep))
  (first|(go_at_call 176;refine(Ep a 1 _ _ o.o v.o _).mono ?_;rintro e w2 ⟨rfl,d⟩))
 exact zz):p:=h
theorem XT(c j a g h i:Nat)(wr:Bool)(b:Nat)(w:Wl)(r:Ac w b (FC j a g h i 1 wr) 253)(x:a<256)(n:Nat)(z:n=Utf.AV a)(hw:1<n)(y:Utf.EL a 1 c=true):
  Cl prog 141 #[nP (nM ⟨b,0,nN⟩),nI .u8 c] w fun e w'=>e= nR (.bool true)/\AB w w' [b]/\
   Ac w' b (EI j a g h i 1 n c wr) 253:=by
 obtain⟨T,U,V,W,X,Y,Z,f7,f8⟩:=Bb r;have A:2<=Utf.AV a:=Zj;have o:=hZ z;have u:=hZ y;have t:=hZ r;have t0:((n:Int)==0)=false:=Qq.2 Zj;have v:=hZ A;clear z y r A;by_cases p:1+1=n
 .have s:((1+1:Int)==(n:Int))=true:=beq_iff_eq.2 Zj;simp at s
  have q:Hid (EI j a g h i 1 n c wr=FC j a (if 1=1 then c else g) (if 1=2 then c else h) (if 1=3 then c else i) 0 wr):=by
   unfold Hid EI;rw[Qr p]
  exact zA
 .have s:((1+1:Int)==(n:Int))=false:=Qq.2 Zj;simp at s
  have q:Hid (EI j a g h i 1 n c wr=FC j a (if 1=1 then c else g) (if 1=2 then c else h) (if 1=3 then c else i) (1+1) wr):=by
   unfold Hid EI;rw[Qs p]
  exact zA
theorem _root_.zB(h:p:=by
 clear p;go_enter func141,ntmps141;go_wp2_with(first|(go_at_call 175;refine(Cn a x _).mono ?_;rintro e f ⟨rfl,m⟩;unfold PUtf.EX;rw[<-o.o];have k:=hZ (t.o.kept m.toChg);obtain⟨B,C,D,E,F,G,H,I,J⟩:=Bb k.o))
 go_region_held3(fun w'=>w'.cell? ⟨b,5,nN⟩=nM (nI nX 2)/\w'.cell? ⟨f.heap.size,0,nN⟩=nM (nI nX n)/\w'.cell? ⟨f.heap.size,1,nN⟩=nM (nI .u8 (Utf.IP a))/\w'.cell? ⟨f.heap.size,2,nN⟩=nM (nI .u8 (Utf.EY a)))
  (first|go_keep|(refine⟨d.keeps ?_,d.keeps ?_,d.keeps ?_,d.keeps ?_⟩<;>go_keep))
  (first|(go_at_call 176;refine(Ep a 2 _ _ o.o v.o _).mono ?_;rintro e w2 ⟨rfl,d⟩))
 exact zz):p:=h
theorem XU(c j a g h i:Nat)(wr:Bool)(b:Nat)(w:Wl)(r:Ac w b (FC j a g h i 2 wr) 253)(x:a<256)(n:Nat)(z:n=Utf.AV a)(hw:2<n)(y:Utf.EL a 2 c=true):
  Cl prog 141 #[nP (nM ⟨b,0,nN⟩),nI .u8 c] w fun e w'=>e= nR (.bool true)/\AB w w' [b]/\
   Ac w' b (EI j a g h i 2 n c wr) 253:=by
 obtain⟨T,U,V,W,X,Y,Z,f7,f8⟩:=Bb r;have A:2<=Utf.AV a:=Zj;have o:=hZ z;have u:=hZ y;have t:=hZ r;have t0:((n:Int)==0)=false:=Qq.2 Zj;have v:=hZ A;clear z y r A;by_cases p:2+1=n
 .have s:((2+1:Int)==(n:Int))=true:=beq_iff_eq.2 Zj;simp at s
  have q:Hid (EI j a g h i 2 n c wr=FC j a (if 2=1 then c else g) (if 2=2 then c else h) (if 2=3 then c else i) 0 wr):=by
   unfold Hid EI;rw[Qr p]
  exact zB
 .have s:((2+1:Int)==(n:Int))=false:=Qq.2 Zj;simp at s
  have q:Hid (EI j a g h i 2 n c wr=FC j a (if 2=1 then c else g) (if 2=2 then c else h) (if 2=3 then c else i) (2+1) wr):=by
   unfold Hid EI;rw[Qs p]
  exact zB
theorem _root_.zC(h:p:=by
 clear p;go_enter func141,ntmps141;go_wp2_with(first|(go_at_call 175;refine(Cn a x _).mono ?_;rintro e f ⟨rfl,m⟩;unfold PUtf.EX;rw[<-o.o];have k:=hZ (t.o.kept m.toChg);obtain⟨B,C,D,E,F,G,H,I,J⟩:=Bb k.o))
 go_region_held3(fun w'=>w'.cell? ⟨b,5,nN⟩=nM (nI nX 3)/\w'.cell? ⟨f.heap.size,0,nN⟩=nM (nI nX n)/\w'.cell? ⟨f.heap.size,1,nN⟩=nM (nI .u8 (Utf.IP a))/\w'.cell? ⟨f.heap.size,2,nN⟩=nM (nI .u8 (Utf.EY a)))
  (first|go_keep|(refine⟨d.keeps ?_,d.keeps ?_,d.keeps ?_,d.keeps ?_⟩<;>go_keep))
  (first|(go_at_call 176;refine(Ep a 3 _ _ o.o v.o _).mono ?_;rintro e w2 ⟨rfl,d⟩))
 exact zz):p:=h
theorem XV(c j a g h i:Nat)(wr:Bool)(b:Nat)(w:Wl)(r:Ac w b (FC j a g h i 3 wr) 253)(x:a<256)(n:Nat)(z:n=Utf.AV a)(hw:3<n)(y:Utf.EL a 3 c=true):
  Cl prog 141 #[nP (nM ⟨b,0,nN⟩),nI .u8 c] w fun e w'=>e= nR (.bool true)/\AB w w' [b]/\
   Ac w' b (EI j a g h i 3 n c wr) 253:=by
 obtain⟨T,U,V,W,X,Y,Z,f7,f8⟩:=Bb r;have A:2<=Utf.AV a:=Zj;have o:=hZ z;have u:=hZ y;have t:=hZ r;have t0:((n:Int)==0)=false:=Qq.2 Zj;have v:=hZ A;clear z y r A;by_cases p:3+1=n
 .have s:((3+1:Int)==(n:Int))=true:=beq_iff_eq.2 Zj;simp at s
  have q:Hid (EI j a g h i 3 n c wr=FC j a (if 3=1 then c else g) (if 3=2 then c else h) (if 3=3 then c else i) 0 wr):=by
   unfold Hid EI;rw[Qr p]
  exact zC
 .have s:((3+1:Int)==(n:Int))=false:=Qq.2 Zj;simp at s
  have q:Hid (EI j a g h i 3 n c wr=FC j a (if 3=1 then c else g) (if 3=2 then c else h) (if 3=3 then c else i) (3+1) wr):=by
   unfold Hid EI;rw[Qs p]
  exact zC
theorem _root_.zI(h:p:=by rw[p.o];go_wp2;go_ret;have G2:=(i.alloc _).drew.trans d;refine⟨rfl,by(have:=G2;exact rT)⟩):p:=h
theorem VP(c v a r s t:Nat)(wr:Bool)(b:Nat)(w:Wl)(f:Ac w b (FC v a r s t 1 wr) 253)(u:a<256)(n:Nat)(k:n=Utf.AV a)(P:1<n)(j:Utf.EL a 1 c=false):
  Cl prog 141 #[nP (nM ⟨b,0,nN⟩),nI .u8 c] w fun e w'=>e= nR (.bool false)/\AB w w' []:=by
 obtain⟨x,y,z,A,B,C,D,E,F⟩:=Bb f;have l:2<=Utf.AV a:=Zj;have h:=hZ k;have p:=hZ j;have m:=hZ f;have q:=hZ l;clear k j f l;go_enter func141,ntmps141;go_wp2_with(first|(go_at_call 175;refine(Cn a u _).mono ?_;rintro e g ⟨rfl,i⟩;unfold PUtf.EX;rw[<-h.o];have o:=hZ (m.o.kept i.toChg);obtain⟨G,H,I,J,K,L,M,N,O⟩:=Bb o.o))
 go_region_held3(fun w'=>w'.cell? ⟨b,5,nN⟩=nM (nI nX 1)/\w'.cell? ⟨g.heap.size,0,nN⟩=nM (nI nX n)/\w'.cell? ⟨g.heap.size,1,nN⟩=nM (nI .u8 (Utf.IP a))/\w'.cell? ⟨g.heap.size,2,nN⟩=nM (nI .u8 (Utf.EY a)))
  (first|go_keep|(refine⟨d.keeps ?_,d.keeps ?_,d.keeps ?_,d.keeps ?_⟩<;>go_keep))
  (first|(go_at_call 176;refine(Ep a 1 _ _ h.o q.o _).mono ?_;rintro e w2 ⟨rfl,d⟩))
 exact zI
theorem VQ(c v a r s t:Nat)(wr:Bool)(b:Nat)(w:Wl)(f:Ac w b (FC v a r s t 2 wr) 253)(u:a<256)(n:Nat)(k:n=Utf.AV a)(P:2<n)(j:Utf.EL a 2 c=false):
  Cl prog 141 #[nP (nM ⟨b,0,nN⟩),nI .u8 c] w fun e w'=>e= nR (.bool false)/\AB w w' []:=by
 obtain⟨x,y,z,A,B,C,D,E,F⟩:=Bb f;have l:2<=Utf.AV a:=Zj;have h:=hZ k;have p:=hZ j;have m:=hZ f;have q:=hZ l;clear k j f l;go_enter func141,ntmps141;go_wp2_with(first|(go_at_call 175;refine(Cn a u _).mono ?_;rintro e g ⟨rfl,i⟩;unfold PUtf.EX;rw[<-h.o];have o:=hZ (m.o.kept i.toChg);obtain⟨G,H,I,J,K,L,M,N,O⟩:=Bb o.o))
 go_region_held3(fun w'=>w'.cell? ⟨b,5,nN⟩=nM (nI nX 2)/\w'.cell? ⟨g.heap.size,0,nN⟩=nM (nI nX n)/\w'.cell? ⟨g.heap.size,1,nN⟩=nM (nI .u8 (Utf.IP a))/\w'.cell? ⟨g.heap.size,2,nN⟩=nM (nI .u8 (Utf.EY a)))
  (first|go_keep|(refine⟨d.keeps ?_,d.keeps ?_,d.keeps ?_,d.keeps ?_⟩<;>go_keep))
  (first|(go_at_call 176;refine(Ep a 2 _ _ h.o q.o _).mono ?_;rintro e w2 ⟨rfl,d⟩))
 exact zI
theorem VR(c v a r s t:Nat)(wr:Bool)(b:Nat)(w:Wl)(f:Ac w b (FC v a r s t 3 wr) 253)(u:a<256)(n:Nat)(k:n=Utf.AV a)(P:3<n)(j:Utf.EL a 3 c=false):
  Cl prog 141 #[nP (nM ⟨b,0,nN⟩),nI .u8 c] w fun e w'=>e= nR (.bool false)/\AB w w' []:=by
 obtain⟨x,y,z,A,B,C,D,E,F⟩:=Bb f;have l:2<=Utf.AV a:=Zj;have h:=hZ k;have p:=hZ j;have m:=hZ f;have q:=hZ l;clear k j f l;go_enter func141,ntmps141;go_wp2_with(first|(go_at_call 175;refine(Cn a u _).mono ?_;rintro e g ⟨rfl,i⟩;unfold PUtf.EX;rw[<-h.o];have o:=hZ (m.o.kept i.toChg);obtain⟨G,H,I,J,K,L,M,N,O⟩:=Bb o.o))
 go_region_held3(fun w'=>w'.cell? ⟨b,5,nN⟩=nM (nI nX 3)/\w'.cell? ⟨g.heap.size,0,nN⟩=nM (nI nX n)/\w'.cell? ⟨g.heap.size,1,nN⟩=nM (nI .u8 (Utf.IP a))/\w'.cell? ⟨g.heap.size,2,nN⟩=nM (nI .u8 (Utf.EY a)))
  (first|go_keep|(refine⟨d.keeps ?_,d.keeps ?_,d.keeps ?_,d.keeps ?_⟩<;>go_keep))
  (first|(go_at_call 176;refine(Ep a 3 _ _ h.o q.o _).mono ?_;rintro e w2 ⟨rfl,d⟩))
 exact zI
def LR(s:BY)(k h i m:Nat)(wr:Bool)(b:Nat)(w:Wl)(e:Ending)(w':Wl):Prop:=
 (e= nR (.bool true)/\∃a d f g c:Nat,AB w w' [b]/\Ac w' b (FC h a d f g c wr) 253/\Utf.Inv s (k+1) c a)\/
 (e= nR (.bool false)/\∃a d f g c:Nat,AB w w' [b]/\Ac w' b (FC h a d f g c wr) 253/\Utf.Al s=false)
theorem VT(s:BY)(k g a c d f m:Nat)(wr:Bool)(b:Nat)(w:Wl)(j:Ac w b (FC g a c d f m wr) 253)(i:Utf.Inv s k m a)(r:k<s.size):
  Cl prog 141 #[nP (nM ⟨b,0,nN⟩),nI .u8 (Utf.Aj s k)] w (LR s k g a m wr b w):=by
 have u:=Utf.Gb s k;by_cases z:m=0
 .subst z;by_cases w0:Utf.AV (Utf.Aj s k)=0
  .exact(YV _ g a c d f wr b w j u w0).mono fun e w' ⟨n,h⟩=> .inr ⟨n,a,c,d,f,0,h.none _,j.kept h.toChg,Utf.WI i r w0⟩
  .by_cases y:Utf.AV (Utf.Aj s k)=1
   .exact(XW _ g a c d f wr b w j u y).mono fun e w' ⟨n,h⟩=> .inl ⟨n,a,c,d,f,0,h.none _,j.kept h.toChg,Utf.Uj i r y _⟩
   .exact(VS _ g a c d f wr b w j u Zj).mono fun e w' ⟨n,h,l⟩=> .inl ⟨n,_,c,d,f,1,h,l,Utf.QV i r Zj⟩
 .obtain⟨p,B,q⟩:=Utf.QW i Zj;have x:m=1\/m=2\/m=3:=Zj;cases l:Utf.EL a m (Utf.Aj s k)with
  |true=>
   have o:∀e w',(e= nR (.bool true)/\AB w w' [b]/\Ac w' b (EI g a c d f m (Utf.AV a) (Utf.Aj s k) wr) 253)->LR s k g a m wr b w e w':=by
    rintro e w' ⟨n,h,t⟩;unfold EI at t;by_cases v:m+1=Utf.AV a
    .rw[Qr v]at t;exact .inl ⟨n,a,_,_,_,0,h,t,Utf.QU i Zj r v l _⟩
    .rw[Qs v]at t;exact .inl ⟨n,a,_,_,_,m+1,h,t,Utf.WH i Zj r Zj l⟩
   rcases x with rfl|rfl|rfl
   .exact(XT _ g a c d f wr b w j q _ rfl p l).mono o
   .exact(XU _ g a c d f wr b w j q _ rfl p l).mono o
   .exact(XV _ g a c d f wr b w j q _ rfl p l).mono o
  |false=>
   have A:=Utf.Ug i Zj r l
   have o:∀e w',(e= nR (.bool false)/\AB w w' [])->LR s k g a m wr b w e w':=
    fun e w' ⟨n,h⟩=> .inr ⟨n,a,c,d,f,m,h.none _,j.kept h.toChg,A⟩
   rcases x with rfl|rfl|rfl
   .exact(VP _ g a c d f wr b w j q _ rfl p l).mono o
   .exact(VQ _ g a c d f wr b w j q _ rfl p l).mono o
   .exact(VR _ g a c d f wr b w j q _ rfl p l).mono o
theorem _root_.zF(h:p:=by go_wp2;go_ret;exact⟨rfl,rfl⟩):p:=h
theorem YZ(w:Wl):
  Cl prog 107 #[] w fun e w'=>e= nR (nP (nM ⟨w.heap.size,0,nN⟩))/\w.alloc (nC (FC 0 0 0 0 0 0 false).toArray 253)=w':=by
 go_enter func107,ntmps107;exact zF
theorem Ke(b:Nat)(w:Wl)(h:w.cell? ⟨b,6,nN⟩=nM (.bool false)):
  Cl prog 142 #[nP (nM ⟨b,0,nN⟩)] w fun e w'=>e= nR .nilIface/\w=w':=by
 go_enter func142,ntmps142;exact zF
theorem F7(b:Nat)(n:Int)(w:Wl)(h:w.cell? ⟨b,6,nN⟩=nM (.bool true))(a:w.cell? ⟨b,0,nN⟩=nM (nI nX n)):
  Cl prog 142 #[nP (nM ⟨b,0,nN⟩)] w fun e w'=>e= nR (nF 84 (nA #[nI nX 30,nI nX n]))/\w=w':=by
 go_enter func142,ntmps142;exact zF
def Wa(s:BY)(b:Nat)(w:Wl)(e:Ending)(w':Wl):Prop:=
 ∃(v:Vl) (g a c d f m:Nat) (wr:Bool),e= nR v/\AB w w' [b]/\Ac w' b (FC g a c d f m wr) 253/\(Utf.Al s=true->wr=false/\m=0)/\(Utf.Al s=false->wr=true\/0<m)
theorem _root_.zG(h:p:=by go_wp2_with(first|(go_at_call 142;refine(F7 b _ _ o E).mono ?_;rintro e w' ⟨rfl,rfl⟩));go_ret;exact⟨_,_,_,_,_,_,_,_,rfl,a.o,g.o,fun h=>(by rw[D.o]at h;cases h),fun _=> .inl rfl⟩):p:=h
theorem X4(s:BY)(hs:s.size<=2147483648)(b c cap:Nat)(w:Wl)(u:Ac w b (FC 0 0 0 0 0 0 false) 253)(P:c≠b)(Q:c<w.heap.size)(F:∀i,i<s.size->w.cell? ⟨c,i,nN⟩=nM (nI .u8 (Utf.Aj s i))):
  Cl prog 108 #[nP (nM ⟨b,0,nN⟩),nS (nM ⟨c,0,nN⟩) s.size cap] w (Wa s b w):=by
 have I:=hZ u;have hb:=u.lt;have J:=hZ F;clear u F;go_enter func108,ntmps108;go_wp2_with fail
 go_loopw [5] (fun i wr=>∃k j q r t m d:Nat,∃f:Bool,k<=s.size/\d<=k/\i= nI nX k/\AB w wr [b]/\Ac wr b (FC d j q r t m f) 253/\
   (f=false->Utf.Inv s k m j)/\(f=true->Utf.Al s=false)) (fun i _=>s.size-(intOf i).toNat)
 case atStart=>exact⟨0,0,0,0,0,0,0,false,Zj,Zj,rfl,AB.refl _ _,I.o,fun _=>Utf.N6 s 0,fun h=>by cases h⟩
 case round=>
  obtain⟨k,j,q,r,t,m,d,f,hk,aa,rfl,G,v,hi,A⟩:=hrel;obtain⟨g0,g1,E,c1,T,c3,c4,c5,o⟩:=Bb v;have g:=hZ v;have a:=hZ G;clear v G;cases f with
  |true=>
   have D:=hZ (A rfl);clear A hi;by_cases y:k<s.size
   .exact zG
   .exact zG
  |false=>
   have n:=hZ (hi rfl);clear A hi;by_cases y:k<s.size
   .have U:wr.cell? ⟨c,k,nN⟩=nM (nI .u8 (Utf.Aj s k)):=(a.o.cell (p:=⟨c,k,nN⟩) Q (by simpa using P)).trans (J.o k y);go_wp2_with(first|(go_at_call 141;refine(VT s k d j q r t m false b wr g.o n.o y).mono ?_;rintro e w2 (⟨rfl,K,L,M,N,O,x,l,R⟩|⟨rfl,K,L,M,N,O,x,l,S⟩)<;>(have B:=hZ l;have C:=hZ x;obtain⟨V,W,X,Y,Z,d5,d6,d7,d8⟩:=Bb l;clear l x)))
    .go_roundw
     case rel=>
      have G2:=a.o.trans C.o;exact⟨k+1,_,_,_,_,_,d+1,false,Zj,Zj,by go_num,by(have:=G2;exact rT),by(have:=B.o;exact rU),fun _=>R,fun h=>(by cases h)⟩
     case measure=>simp[intOf];omega
    .go_roundw
     case rel=>
      have G2:=a.o.trans C.o;exact⟨k+1,_,_,_,_,_,d,true,Zj,Zj,by go_num,by(have:=G2;exact rT),by(have:=B.o;exact rU),fun h=>(by cases h),fun _=>S⟩
     case measure=>simp[intOf];omega
   .go_wp2_with(first|(go_at_call 142;refine(Ke b _ o).mono ?_;rintro e w' ⟨rfl,rfl⟩));go_ret;have H:k=s.size:=Zj;refine⟨_,_,_,_,_,_,_,_,rfl,a.o,g.o,fun h=>⟨rfl, ?_⟩,fun h=> .inr ?_⟩
    .have hi:=n.o;rw[H]at hi;by_cases z:m=0
     .exact z
     .rw[Utf.Uh hi Zj]at h;cases h
    .have hi:=n.o;rw[H]at hi;by_cases z:m=0
     .rw[z]at hi;rw[Utf.Ui hi]at h;cases h
     .omega
def Yf(ok:Bool)(v:Vl):Prop:=(ok=true/\v= .nilIface)\/(ok=false/\∃(n m:Int),v= nF 84 (nA #[nI nX n,nI nX m]))
theorem YY(o i j a k m:Nat)(wr ok:Bool)(b:Nat)(w:Wl)(g:Ac w b (FC o i j a k m wr) 253)(c:ok=true->wr=false/\m=0)(d:ok=false->wr=true\/0<m):
  Cl prog 109 #[nP (nM ⟨b,0,nN⟩)] w fun e w'=>∃v,e= nR v/\Yf ok v/\w=w':=by
 obtain⟨q,r,h,c1,p,c3,c4,c5,f⟩:=Bb g;clear g;cases ok with
 |true=>
  obtain⟨rfl,rfl⟩:=c rfl;clear c d;go_enter func109,ntmps109;go_wp2_with(first|(go_at_call 142;refine(Ke b _ f).mono ?_;rintro e w' ⟨rfl,rfl⟩));go_ret;exact⟨_,rfl,.inl ⟨rfl,rfl⟩,rfl⟩
 |false=>
  have a:=d rfl;clear c d;by_cases l:0<m
  .have n:0<(m:Int):=by omega
   clear a;go_enter func109,ntmps109;go_wp2;go_ret;exact⟨_,rfl,.inr ⟨rfl,_,_,rfl⟩,rfl⟩
  .have n:¬0<(m:Int):=by omega
   obtain rfl:wr=true:=a.resolve_right l;clear a;go_enter func109,ntmps109;go_wp2_with(first|(go_at_call 142;refine(F7 b _ _ f h).mono ?_;rintro e w' ⟨rfl,rfl⟩));go_ret;exact⟨_,rfl,.inr ⟨rfl,_,_,rfl⟩,rfl⟩
theorem II(s:BY)(q:s.size<=2147483648)(a cap:Nat)(w:Wl)(y:a<w.heap.size)(c:∀i,i<s.size->w.cell? ⟨a,i,nN⟩=nM (nI .u8 (Utf.Aj s i))):
  Cl prog 82 #[nS (nM ⟨a,0,nN⟩) s.size cap] w fun e w'=>∃v,e= nR v/\Yf (Utf.Al s) v/\AB w w' []:=by
 have k:=hZ c;clear c;go_enter func82,ntmps82
 go_wp2_with(first
  |(go_at_call 107;refine(YZ _).mono ?_;rintro e w' ⟨rfl,rfl⟩)
  |(go_at_call 108;refine(X4 s q w.heap.size a cap _ (Ac.new w _ _) Zj (by simp;omega) (fun i hi=>((AB.refl w []).alloc _).keeps (k.o i hi))).mono ?_;rintro e B ⟨v,z,r,t,u,x,m,wr,rfl,f,b,g,h⟩;have j:=hZ b;have n:=hZ f;have o:=hZ g;have p:=hZ h;clear b f g h)
  |(go_at_call 109;refine(YY _ _ _ _ _ _ _ _ _ _ j.o o.o p.o).mono ?_;rintro e w2 ⟨A,rfl,d,rfl⟩;have l:=hZ d;clear d))
 go_ret;exact⟨_,rfl,l.o,((AB.refl w []).alloc _).fresh n.o Zh⟩
theorem In(s:BY)(w:Wl)(k:s.size<=2147483648):
  Cl prog 69 #[nG s] w fun e w'=>e= nR (.bool (Utf.Al s))/\AB w w' []:=by
 obtain⟨cap,q,o,l,i,c,b⟩:=GJ (P:=prog) w 9 180 5 s underlying9 underlying180 underlying5;have d:=hZ b;have g:=hZ c;clear b c;go_enter func69,ntmps69;go_wp2_with(first|(go_at_call 82;refine(II s k w.heap.size cap _ (by rw[g.o];omega) d.o).mono ?_;rintro e w2 ⟨p,rfl,h,j⟩;rcases h with⟨a,rfl⟩|⟨a,n,m,rfl⟩<;>(have f:=hZ a;clear a)));all_goals go_ret
 all_goals exact⟨Bo f.o.symm,i.trans j⟩
theorem Dq(s:BY)(w:Wl)(a:s.size<=2147483648):Cl prog 69 #[nG s] w fun e w'=>e= nR (.bool (Utf.Al s))/\Chg w w' []:=
 (In s w a).mono fun e w' h=>⟨h.1,h.2.toChg⟩
end
section
open _root_.Go.Proofs.Tryz
open Go Go.RowKit
variable{p:Prop}
def Nn(x y:Int):Int:=if x<y then-1 else if y<x then 1 else 0
theorem _root_.zJ(h:p:=by go_enter func126,ntmps126;exact zF):p:=h
theorem Ua(x y:Int)(w:Wl):Cl prog 126 #[nI nX x,nI nX y] w fun e w'=>e= nR (nI nX (Nn x y))/\w=w':=by
 unfold Nn;by_cases a:x<y
 .rw[Qr a];exact zJ
 .rw[Qs a];by_cases b:y<x
  .rw[Qr b];exact zJ
  .rw[Qs b];exact zJ
theorem _root_.zK(h:p:=by go_enter func128,ntmps128;exact zF):p:=h
theorem Zo(x y:Int)(w:Wl):Cl prog 128 #[nI .u8 x,nI .u8 y] w fun e w'=>e= nR (nI nX (Nn x y))/\w=w':=by
 unfold Nn;by_cases a:x<y
 .rw[Qr a];exact zK
 .rw[Qs a];by_cases b:y<x
  .rw[Qr b];exact zK
  .rw[Qs b];exact zK
theorem X5(c:Nat)(w:Wl):Cl prog 127 #[nI .u8 c] w fun e w'=>e= nR (.bool (decide (240<=(c:Int))))/\w=w':=by
 go_enter func127,ntmps127;exact zF
theorem _root_.zH(h:p:=by have d:=hZ c;clear c;go_wp2;go_quiet(fail);go_wp2_with(first|(go_at_call 126;refine(Ua _ _ _).mono ?_;rintro e w' ⟨rfl,rfl⟩));go_ret;exact⟨E5 d.o.symm,by(have:=j.o;exact rT)⟩):p:=h
theorem _root_.zL(h:p:=by rw[Qq];omega):p:=h
theorem I6(a b:BY)(w:Wl)(y:a.size<=2147483648)(z:b.size<=2147483648)(p:Utf.Al a=true)(q:Utf.Al b=true):
  Cl prog 100 #[nG a,nG b] w fun e w'=>e= nR (nI nX (Utf.BK a b))/\AB w w' []:=by
 have u:=hZ p;have x:=hZ q;clear p q;go_enter func100,ntmps100
 go_wp2_with(first
  |(go_at_call_of 69 (Vl.string a);refine(In a _ y).mono ?_;rintro e H ⟨rfl,A⟩;rw[u.o])
  |(go_at_call 69;refine(In b _ z).mono ?_;rintro e w2 ⟨rfl,B⟩;rw[x.o]))
 go_loopw [7] (fun v wr=>∃i:Nat,v= nI nX i/\i<=a.size/\i<=b.size/\AB w wr []/\Utf.F5 ((Utf.CB a).drop i) ((Utf.CB b).drop i)=Utf.BK a b) (fun v _=>a.size-(intOf v).toNat)
 case atStart=>exact⟨0,rfl,Zj,Zj,A.trans B,rfl⟩
 case round=>
  obtain⟨i,rfl,E,F,o,n⟩:=hrel;have j:=hZ o;have h:=hZ n;clear o n;by_cases k:i<a.size
  .by_cases g:i<b.size
   .have l:=hZ (Utf.BV k);have m:=hZ (Utf.BV g);by_cases f:a[i].toNat=b[i].toNat
    .have C:((a[i].toNat:Int)==(b[i].toNat:Int))=true:=by simp[f]
     have c:Utf.F5 ((Utf.CB a).drop (i+1)) ((Utf.CB b).drop (i+1))=Utf.BK a b:=by
      rw[<-h.o,Utf.Bh k,Utf.Bh g];simp only[Utf.F5];rw[Qr (by rw[l.o,m.o];exact f)]
     have d:=hZ c;clear c f;go_wp2;go_quiet(fail);go_wp2;go_roundw
     case rel=>exact⟨i+1,by go_num,Zj,Zj,by(have:=j.o;exact rT),d.o⟩
     case measure=>simp[intOf];omega
    .have C:((a[i].toNat:Int)==(b[i].toNat:Int))=false:=zL
     have r:((i:Int)==(a.size:Int))=false:=zL
     have D:((i:Int)==(b.size:Int))=false:=zL
     have c:Utf.BK a b=Utf.BT a[i].toNat b[i].toNat:=by
      rw[<-h.o,Utf.Bh k,Utf.Bh g];simp only[Utf.F5];rw[Qs (by rw[l.o,m.o];exact f),l.o,m.o]
     have d:=hZ c;have t:=hZ f;clear c f;go_wp2;go_quiet(fail);go_wp2;go_quiet(fail)
     go_wp2_with(first
      |(go_at_call 127;refine(X5 _ _).mono ?_;rintro e w' ⟨rfl,rfl⟩)
      |(go_at_call 128;refine(Zo _ _ _).mono ?_;rintro e w' ⟨rfl,rfl⟩))
     all_goals go_ret
     all_goals refine⟨E5 ?_,by(have:=j.o;exact rT)⟩
     all_goals go_light
     all_goals rw[d.o]
     all_goals have G:=t.o
     all_goals unfold Utf.BT
     all_goals(try unfold Nn)
     all_goals repeat' split
     all_goals first|rfl|omega|(simp at*;omega)
   .have r:((i:Int)==(a.size:Int))=false:=zL
    have D:((i:Int)==(b.size:Int))=true:=by rw[beq_iff_eq];omega
    have c:Utf.BK a b=Nn a.size b.size:=by
     rw[<-h.o,Utf.Bh k,Utf.Fe (s:=b) Zj];simp only[Utf.F5,Nn];rw[Qs Zj,Qr Zj]
    exact zH
  .have r:((i:Int)==(a.size:Int))=true:=by rw[beq_iff_eq];omega
   have c:Utf.BK a b=Nn a.size b.size:=by
    rw[<-h.o,Utf.Fe (s:=a) Zj];by_cases g:i<b.size
    .rw[Utf.Bh g];simp only[Utf.F5,Nn];rw[Qr Zj]
    .rw[Utf.Fe (s:=b) Zj];simp only[Utf.F5,Nn];rw[Qs Zj,Qs Zj]
   exact zH
theorem FX(a b:BY)(w:Wl)(c:a.size<=2147483648)(d:b.size<=2147483648)(f:Utf.Al a=true)(g:Utf.Al b=true):
  Cl prog 100 #[nG a,nG b] w fun e w'=>e= nR (nI nX (Utf.BK a b))/\Chg w w' []:=
 (I6 a b w c d f g).mono fun e w' h=>⟨h.1,h.2.toChg⟩
end
end Go.Proofs.YtamgbmcchhmojaaGreatDoor

/- Part 7 of the proof of coreBase. -/
import Derived.Ground.Names2Prog
import Derived.Ground.NamesProg
import Derived.Ground.SlgnProg
import Derived.Lib.LaidTab
import Derived.Lib.SmallJoins
import Derived.Shelf.LaysC
import Derived.Shelf.LaysM
import Derived.Shelf.SlGeneric
import Derived.Shelf.Slices.Delete
import Derived.Shelf.Slices.Empties
import Derived.Shelf.Slices.Equal
import Derived.Shelf.SlicesE.Delete
import Derived.Shelf.Strconv.AtoiAll
import Derived.Shelf.Strconv.ErrVarAll
import Derived.Shelf.Strconv.Itoa3
import Derived.Shelf.Strings.Builder2
import Derived.Shelf.Strings.Count
import Derived.Shelf.Strings.Cut
import Derived.Shelf.Strings.Prefix
import Derived.Shelf.Strings.Replace
import Derived.Shelf.Strings.SlTrimAscii
import Derived.Test.YtkfnkppdhcaeoaaGreatDoorRows
import Derived.Test.YtkfnkppdhcaeoaaGreatDoorM02
set_option maxRecDepth 100000
set_option maxHeartbeats 32000000
set_option linter.all false
namespace Go.Proofs
open Go renaming Calls->Cl,TypeId->Ti,Value->Vl,World->Wl
open Go.Value renaming iface->nF,int->nI,string->nG,tuple->nT
open Go.IntKind renaming i64->nX
open Go.Ending renaming returned->nR
open Option renaming none->nN,some->nM
section
open Go.Shelf
def bN:Go.Shelf.Ren:=⟨fun|138=>97|195=>144|218=>145|143=>146|219=>178|217=>211|225=>212|224=>213|267=>214|266=>244|314=>245|n=>n,fun|9=>9|3=>3|4=>4|5=>5|0=>0|46=>300|146=>355|51=>340|n=>n,fun|1=>2|n=>n⟩
theorem ci:Go.Proofs.Lays.n138 Tryz.prog bN:=by
 constructor
 case f138=>exact Tryz.func97.trans (congrArg some (by kernel_rfl))
 case f143=>exact Tryz.func146.trans (congrArg some (by kernel_rfl))
 case f195=>exact Tryz.func144.trans (congrArg some (by kernel_rfl))
 case f217=>exact Tryz.func211.trans (congrArg some (by kernel_rfl))
 case f218=>exact Tryz.func145.trans (congrArg some (by kernel_rfl))
 case f219=>exact Tryz.func178.trans (congrArg some (by kernel_rfl))
 case f224=>exact Tryz.func213.trans (congrArg some (by kernel_rfl))
 case f225=>exact Tryz.func212.trans (congrArg some (by kernel_rfl))
 case f266=>exact Tryz.func244.trans (congrArg some (by kernel_rfl))
 case f267=>exact Tryz.func214.trans (congrArg some (by kernel_rfl))
 case f314=>exact Tryz.func245.trans (congrArg some (by kernel_rfl))
 all_goals first|kernel_rfl|(intro w;kernel_rfl)|(intro x w;kernel_rfl)
def bX:Go.Shelf.Ren:=⟨fun|145=>98|220=>147|219=>178|217=>211|225=>212|224=>213|267=>214|266=>244|314=>245|n=>n,fun|9=>9|4=>4|59=>198|3=>3|5=>5|46=>300|146=>355|51=>340|n=>n,fun|1=>2|n=>n⟩
theorem cu:Go.Proofs.Lays.n145 Tryz.prog bX:=by
 constructor
 case f145=>exact Tryz.func98.trans (congrArg some (by kernel_rfl))
 case f217=>exact Tryz.func211.trans (congrArg some (by kernel_rfl))
 case f219=>exact Tryz.func178.trans (congrArg some (by kernel_rfl))
 case f220=>exact Tryz.func147.trans (congrArg some (by kernel_rfl))
 case f224=>exact Tryz.func213.trans (congrArg some (by kernel_rfl))
 case f225=>exact Tryz.func212.trans (congrArg some (by kernel_rfl))
 case f266=>exact Tryz.func244.trans (congrArg some (by kernel_rfl))
 case f267=>exact Tryz.func214.trans (congrArg some (by kernel_rfl))
 case f314=>exact Tryz.func245.trans (congrArg some (by kernel_rfl))
 all_goals first|kernel_rfl|(intro w;kernel_rfl)|(intro x w;kernel_rfl)
def fx:Go.Shelf.Ren:=⟨fun|155=>99|154=>148|138=>97|165=>179|143=>146|166=>102|197=>180|169=>104|195=>144|218=>145|240=>152|241=>215|219=>178|260=>216|276=>183|277=>246|217=>211|225=>212|224=>213|267=>214|266=>244|314=>245|n=>n,fun|9=>9|3=>3|4=>4|72=>205|0=>0|76=>206|105=>293|21=>21|5=>5|70=>203|20=>20|37=>196|75=>35|127=>265|164=>296|46=>300|119=>358|139=>361|138=>360|146=>355|51=>340|80=>209|n=>n,fun|1=>2|3=>4|4=>5|n=>n⟩
theorem bM:Go.Proofs.Lays.n155 Tryz.prog fx:=by
 constructor
 case f138=>exact Tryz.func97.trans (congrArg some (by kernel_rfl))
 case f143=>exact Tryz.func146.trans (congrArg some (by kernel_rfl))
 case f154=>exact Tryz.func148.trans (congrArg some (by kernel_rfl))
 case f155=>exact Tryz.func99.trans (congrArg some (by kernel_rfl))
 case f165=>exact Tryz.func179.trans (congrArg some (by kernel_rfl))
 case f166=>exact Tryz.func102.trans (congrArg some (by kernel_rfl))
 case f169=>exact Tryz.func104.trans (congrArg some (by kernel_rfl))
 case f195=>exact Tryz.func144.trans (congrArg some (by kernel_rfl))
 case f197=>exact Tryz.func180.trans (congrArg some (by kernel_rfl))
 case f217=>exact Tryz.func211.trans (congrArg some (by kernel_rfl))
 case f218=>exact Tryz.func145.trans (congrArg some (by kernel_rfl))
 case f219=>exact Tryz.func178.trans (congrArg some (by kernel_rfl))
 case f224=>exact Tryz.func213.trans (congrArg some (by kernel_rfl))
 case f225=>exact Tryz.func212.trans (congrArg some (by kernel_rfl))
 case f240=>exact Tryz.func152.trans (congrArg some (by kernel_rfl))
 case f241=>exact Tryz.func215.trans (congrArg some (by kernel_rfl))
 case f260=>exact Tryz.func216.trans (congrArg some (by kernel_rfl))
 case f266=>exact Tryz.func244.trans (congrArg some (by kernel_rfl))
 case f267=>exact Tryz.func214.trans (congrArg some (by kernel_rfl))
 case f276=>exact Tryz.func183.trans (congrArg some (by kernel_rfl))
 case f277=>exact Tryz.func246.trans (congrArg some (by kernel_rfl))
 case f314=>exact Tryz.func245.trans (congrArg some (by kernel_rfl))
 all_goals first|kernel_rfl|(intro w;kernel_rfl)|(intro x w;kernel_rfl)
def bP:Go.Shelf.Ren:=⟨fun|172=>181|244=>217|245=>218|247=>247|279=>248|280=>249|281=>250|282=>251|287=>268|316=>269|171=>70|205=>270|321=>277|322=>278|243=>117|246=>158|283=>190|284=>191|285=>192|286=>193|129=>228|317=>232|318=>233|319=>234|320=>235|337=>257|338=>258|n=>n,fun|9=>9|3=>3|75=>35|76=>206|4=>4|5=>5|167=>362|37=>196|0=>0|85=>363|2=>2|168=>365|53=>25|175=>381|46=>300|210=>384|127=>265|145=>396|143=>394|21=>21|171=>303|173=>306|212=>343|51=>340|20=>20|213=>344|232=>389|233=>390|80=>209|n=>n,fun|15=>6|16=>7|17=>3|18=>8|19=>9|n=>n⟩
theorem UV:Go.Proofs.LaysC.n172 Tryz.prog bP:=by
 constructor
 try case' toM=>constructor
 try case' ton172=>constructor
 case f129=>exact Tryz.func228.trans (congrArg some (by kernel_rfl))
 case f171=>exact Tryz.func70.trans (congrArg some (by kernel_rfl))
 case f172=>exact Tryz.func181.trans (congrArg some (by kernel_rfl))
 case f205=>exact Tryz.func270.trans (congrArg some (by kernel_rfl))
 case f243=>exact Tryz.func117.trans (congrArg some (by kernel_rfl))
 case f244=>exact Tryz.func217.trans (congrArg some (by kernel_rfl))
 case f245=>exact Tryz.func218.trans (congrArg some (by kernel_rfl))
 case f246=>exact Tryz.func158.trans (congrArg some (by kernel_rfl))
 case f247=>exact Tryz.func247.trans (congrArg some (by kernel_rfl))
 case f279=>exact Tryz.func248.trans (congrArg some (by kernel_rfl))
 case f280=>exact Tryz.func249.trans (congrArg some (by kernel_rfl))
 case f281=>exact Tryz.func250.trans (congrArg some (by kernel_rfl))
 case f282=>exact Tryz.func251.trans (congrArg some (by kernel_rfl))
 case f283=>exact Tryz.func190.trans (congrArg some (by kernel_rfl))
 case f284=>exact Tryz.func191.trans (congrArg some (by kernel_rfl))
 case f285=>exact Tryz.func192.trans (congrArg some (by kernel_rfl))
 case f286=>exact Tryz.func193.trans (congrArg some (by kernel_rfl))
 case f287=>exact Tryz.func268.trans (congrArg some (by kernel_rfl))
 case f316=>exact Tryz.func269.trans (congrArg some (by kernel_rfl))
 case f317=>exact Tryz.func232.trans (congrArg some (by kernel_rfl))
 case f318=>exact Tryz.func233.trans (congrArg some (by kernel_rfl))
 case f319=>exact Tryz.func234.trans (congrArg some (by kernel_rfl))
 case f320=>exact Tryz.func235.trans (congrArg some (by kernel_rfl))
 case f321=>exact Tryz.func277.trans (congrArg some (by kernel_rfl))
 case f322=>exact Tryz.func278.trans (congrArg some (by kernel_rfl))
 case f337=>exact Tryz.func257.trans (congrArg some (by kernel_rfl))
 case f338=>exact Tryz.func258.trans (congrArg some (by kernel_rfl))
 all_goals first|kernel_rfl|(intro w;kernel_rfl)|(intro x w;kernel_rfl)
def bS:Go.Shelf.Ren:=⟨fun|171=>70|243=>117|246=>158|283=>190|284=>191|285=>192|286=>193|129=>228|317=>232|318=>233|319=>234|320=>235|337=>257|338=>258|n=>n,fun|3=>3|9=>9|2=>2|4=>4|171=>303|0=>0|53=>25|37=>196|5=>5|173=>306|212=>343|51=>340|20=>20|213=>344|46=>300|232=>389|233=>390|n=>n,fun|17=>3|18=>8|19=>9|n=>n⟩
theorem cq:Go.Proofs.LaysM.n171 Tryz.prog bS:=by
 constructor
 try case' toM=>constructor
 try case' ton171=>constructor
 case f129=>exact Tryz.func228.trans (congrArg some (by kernel_rfl))
 case f171=>exact Tryz.func70.trans (congrArg some (by kernel_rfl))
 case f243=>exact Tryz.func117.trans (congrArg some (by kernel_rfl))
 case f246=>exact Tryz.func158.trans (congrArg some (by kernel_rfl))
 case f283=>exact Tryz.func190.trans (congrArg some (by kernel_rfl))
 case f284=>exact Tryz.func191.trans (congrArg some (by kernel_rfl))
 case f285=>exact Tryz.func192.trans (congrArg some (by kernel_rfl))
 case f286=>exact Tryz.func193.trans (congrArg some (by kernel_rfl))
 case f317=>exact Tryz.func232.trans (congrArg some (by kernel_rfl))
 case f318=>exact Tryz.func233.trans (congrArg some (by kernel_rfl))
 case f319=>exact Tryz.func234.trans (congrArg some (by kernel_rfl))
 case f320=>exact Tryz.func235.trans (congrArg some (by kernel_rfl))
 case f337=>exact Tryz.func257.trans (congrArg some (by kernel_rfl))
 case f338=>exact Tryz.func258.trans (congrArg some (by kernel_rfl))
 all_goals first|kernel_rfl|(intro w;kernel_rfl)|(intro x w;kernel_rfl)
def bW:Go.Shelf.Ren:=⟨fun|160=>240|232=>262|231=>261|227=>263|234=>265|233=>264|236=>267|235=>266|228=>274|271=>276|151=>275|197=>180|120=>280|152=>279|260=>216|137=>281|119=>282|224=>213|225=>212|217=>211|266=>244|n=>n,fun|9=>9|4=>4|3=>3|5=>5|117=>377|116=>376|0=>0|124=>380|21=>21|105=>293|46=>300|119=>358|139=>361|138=>360|n=>n,fun|3=>4|4=>5|n=>n⟩
theorem cr:Go.Proofs.Lays.n160 Tryz.prog bW:=by
 constructor
 case f119=>exact Tryz.func282.trans (congrArg some (by kernel_rfl))
 case f120=>exact Tryz.func280.trans (congrArg some (by kernel_rfl))
 case f137=>exact Tryz.func281.trans (congrArg some (by kernel_rfl))
 case f151=>exact Tryz.func275.trans (congrArg some (by kernel_rfl))
 case f152=>exact Tryz.func279.trans (congrArg some (by kernel_rfl))
 case f160=>exact Tryz.func240.trans (congrArg some (by kernel_rfl))
 case f197=>exact Tryz.func180.trans (congrArg some (by kernel_rfl))
 case f217=>exact Tryz.func211.trans (congrArg some (by kernel_rfl))
 case f224=>exact Tryz.func213.trans (congrArg some (by kernel_rfl))
 case f225=>exact Tryz.func212.trans (congrArg some (by kernel_rfl))
 case f227=>exact Tryz.func263.trans (congrArg some (by kernel_rfl))
 case f228=>exact Tryz.func274.trans (congrArg some (by kernel_rfl))
 case f231=>exact Tryz.func261.trans (congrArg some (by kernel_rfl))
 case f232=>exact Tryz.func262.trans (congrArg some (by kernel_rfl))
 case f233=>exact Tryz.func264.trans (congrArg some (by kernel_rfl))
 case f234=>exact Tryz.func265.trans (congrArg some (by kernel_rfl))
 case f235=>exact Tryz.func266.trans (congrArg some (by kernel_rfl))
 case f236=>exact Tryz.func267.trans (congrArg some (by kernel_rfl))
 case f260=>exact Tryz.func216.trans (congrArg some (by kernel_rfl))
 case f266=>exact Tryz.func244.trans (congrArg some (by kernel_rfl))
 case f271=>exact Tryz.func276.trans (congrArg some (by kernel_rfl))
 all_goals first|kernel_rfl|(intro w;kernel_rfl)|(intro x w;kernel_rfl)
def bI:Go.Shelf.Ren:=⟨fun|169=>104|n=>n,fun|70=>203|9=>9|0=>0|72=>205|37=>196|127=>265|3=>3|5=>5|n=>n,fun|n=>n⟩
theorem cw:Go.Proofs.Lays.n169 Tryz.prog bI:=by
 constructor
 case f169=>exact Tryz.func104.trans (congrArg some (by kernel_rfl))
 all_goals first|kernel_rfl|(intro w;kernel_rfl)|(intro x w;kernel_rfl)
def ce:Go.Shelf.Ren:=⟨fun|193=>64|n=>n,fun|31=>27|9=>9|4=>4|3=>3|0=>0|n=>n,fun|n=>n⟩
theorem b9:Go.Proofs.Lays.n193 Tryz.prog ce:=by
 constructor
 case f193=>exact Tryz.func64.trans (congrArg some (by kernel_rfl))
 all_goals first|kernel_rfl|(intro w;kernel_rfl)|(intro x w;kernel_rfl)
def bR:Go.Shelf.Ren:=⟨fun|24=>202|n=>n,fun|24=>27|9=>9|3=>3|4=>4|0=>0|n=>n,fun|n=>n⟩
theorem cm:Go.Proofs.Lays2.n24 Tryz.prog bR:=by
 constructor
 case f24=>exact Tryz.func202.trans (congrArg some (by kernel_rfl))
 all_goals first|kernel_rfl|(intro w;kernel_rfl)|(intro x w;kernel_rfl)
def bQ:Go.Shelf.Ren:=⟨fun|45=>203|n=>n,fun|22=>105|23=>95|3=>3|4=>4|0=>0|n=>n,fun|n=>n⟩
theorem cj:Go.Proofs.SlLaysE.n45 Tryz.prog bQ:=by
 constructor
 case f45=>exact⟨Tryz.f203.name,by decide,Tryz.func203.trans (congrArg some (by kernel_rfl))⟩
 all_goals first|kernel_rfl|(intro w;kernel_rfl)|(intro x w;kernel_rfl)
end
end Go.Proofs
namespace Go.Proofs.YtkfnkppdhcaeoaaGreatDoor
open Go renaming Calls->Cl,TypeId->Ti,Value->Vl,World->Wl
open Go.Value renaming iface->nF,int->nI,string->nG,tuple->nT
open Go.IntKind renaming i64->nX
open Go.Ending renaming returned->nR
open Option renaming none->nN,some->nM
section
open _root_.Go.Proofs.Tryz
open Go Go.Shelf Go.RowKit Go.Lib
theorem Of:Builder.Extra prog fx where
 sizeBuilder:=Yb
 liesBuilder:=Yb
 t5:=underlying5
 a5:=isAgg5
 z5:=sizeOf5
 v5:=zeroValue5
 infoByte:=Yb
 cellsByte:=Yb
 sizeByte:=Yb
 neB5:=ZM
theorem U6(s:BY)(c:UInt8)(w:Wl):Cl prog 97 #[nG s,nG ⟨#[c]⟩] w fun e w'=>e= nR (nI nX (Lib.countByte s.data.toList c))/\w'=w:=Any.strings_Count_one ci s c w
theorem Yw(s a:BY)(m:Int)(w:Wl)(c:s.size<4294967281)(b:w.cell? ⟨2,0,nN⟩=nM (nI nX m)):
 Cl prog 98 #[nG s,nG a] w fun e w'=>e= nR (nT #[nG ⟨(Lib.cut s.data.toList a.data.toList).1.toArray⟩,nG ⟨(Lib.cut s.data.toList a.data.toList).2.1.toArray⟩,.bool (Lib.cut s.data.toList a.data.toList).2.2])/\∃n,w'=w.drewN n:=Any.strings_Cut cu s a m w c b
structure Br(w:Wl):Prop where
 max:∃m,w.cell? ⟨2,0,nN⟩=nM (nI nX m)
 pow:Lib.TabIs prog w "internal/strconv.uint64pow10" .u64 Lib.pow10Tab
 syn:∃t p,w.var? prog "strconv.ErrSyntax" =nM #[nF t p]
 ran:∃t p,w.var? prog "strconv.ErrRange" =nM #[nF t p]
theorem X9{w w':Wl}{a:String}{g:Nat}(b:prog.globalNamed a=nM g)(h:w'.heap[g]? =w.heap[g]?):w'.var? prog a=w.var? prog a:=by
 unfold World.var?;rw[b];simp only[Option.bind_some];rw[h]
theorem ZH{w:Wl}{a:String}{g:Nat}{cs:Array Vl}(b:prog.globalNamed a=nM g)(h:w.var? prog a=nM cs):g<w.heap.size:=by
 unfold World.var? at h;rw[b]at h;simp only[Option.bind_some]at h;by_cases c:g<w.heap.size
 .exact c
 .rw[Array.getElem?_eq_none Zj]at h;cases h
theorem Nf{w w':Wl}{bs:List Nat}{a:String}{g:Nat}{cs:Array Vl}(b:prog.globalNamed a=nM g)(d:Chg w w' bs)(c:g∉bs)(h:w.var? prog a=nM cs):w'.var? prog a=nM cs:=by
 rw[X9 b (d.block g (ZH b h) c)];exact h
theorem Br.kept{w w':Wl}{bs:List Nat}(h:Br w)(a:Chg w w' bs)(i:∀b,b∈bs->10<=b:=by simp):Br w':=by
 have d:∀g,g<10->g∉bs:=fun g o c=>by have:=i g c;omega
 obtain⟨m,c⟩:=h.max;obtain⟨l,j,e⟩:=h.syn;obtain⟨n,k,f⟩:=h.ran;refine⟨⟨m,(a.cell (World.block_lt_of_cell? w _ c) (d _ ZM)).trans c⟩, ?_,⟨l,j, ?_⟩,⟨n,k, ?_⟩⟩
 .exact Nf (g:=3) Yb a (d _ ZM) h.pow
 .exact Nf (g:=6) Yb a (d _ ZM) e
 .exact Nf (g:=7) Yb a (d _ ZM) f
end
section
open _root_.Go.Proofs.Tryz
open Go Go.Shelf Go.RowKit Go.Lib Go.Sort
theorem Wn(w:Wl)(k:Nat)(os:Array Obj):Chg w (grow (w.drewN k) os) []:=
 ⟨rfl,rfl,rfl,by simp[grow],fun i hi _=>by simp only[grow];rw[Array.getElem?_append_left (by simpa using hi)];rfl⟩
theorem Rj(s a new:BY)(w:Wl)(c:Br w)(g:s.size<4294967281)(b:1<=a.size)(d:s.size+Lib.countB s a*new.size<=140737488355328):
  Cl prog 99 #[nG s,nG a,nG new] w fun e w'=>e= nR (nG ⟨(Lib.replaceAll s.data.toList a.data.toList new.data.toList).toArray⟩)/\Chg w w' []:=by
 obtain⟨m,f⟩:=c.max;exact(Any.strings_ReplaceAll bM Of s a new m w g f b d).mono fun _ _ h=>⟨h.1,DI h.2⟩
theorem Ri(n:Int)(a: -9223372036854775808<=n)(b:n<=9223372036854775807)(w:Wl)(c:Br w):
  Cl prog 70 #[nI nX n] w fun e w'=>e= nR (nG ⟨(Lib.itoa n).toArray⟩)/\Chg w w' []:=
 (Any.strconv_Itoa cq n a b w c.pow).mono fun _ _ ⟨h,k,os,d⟩=>⟨h,d▸Wn w k os⟩
theorem UO(w:Wl)(e:Ti)(t:BY):Chg w (Lib.bytesWorld w e t) []:=
 DI (Go.Joins.below_bytesWorld w.heap.size w e t (Q8 _))
theorem Rh(s:BY)(f:s.size<=281474976710656)(w:Wl)(d:Br w):
  Cl prog 181 #[nG s] w fun e w'=>(∃(i:Int) (v:Vl),e= nR (nT #[nI nX i,v])/\((v= .nilIface/\Lib.atoiAll s.data.toList= .ok i)\/((∃t x,v= nF t x)/\∀g,Lib.atoiAll s.data.toList≠ .ok g)))/\Chg w w' []:=by
 rcases h:Lib.atoiAll s.data.toList with i|_|_
 .exact(Any.strconv_Atoi_ok UV s Zj i h w).mono fun _ _ ⟨a,b⟩=>⟨⟨i,_,a,.inl ⟨rfl,rfl⟩⟩,by rcases b with rfl|⟨t,rfl⟩;exact Chg.refl _ _;exact UO _ _ _⟩
 .obtain⟨t,p,c⟩:=d.syn
  exact(Any.strconv_Atoi_syntax_var UV s f h t p w c).mono fun _ _ ⟨N,a,_,_,b⟩=>⟨⟨0,_,a,.inr ⟨⟨_,_,rfl⟩,fun _=>Zh⟩⟩,DI b⟩
 .obtain⟨t,p,c⟩:=d.ran
  exact(Any.strconv_Atoi_range_var UV s f h t p w c).mono fun _ _ ⟨N,a,_,_,b⟩=>⟨⟨_,_,a,.inr ⟨⟨_,_,rfl⟩,fun _=>Zh⟩⟩,DI b⟩
end
end Go.Proofs.YtkfnkppdhcaeoaaGreatDoor

/- Part 8 of the proof of patchFresh_card. -/
import Derived.Ground.Names2Prog
import Derived.Ground.NamesProg
import Derived.Ground.SlgnProg
import Derived.Lib.LaidTab
import Derived.Lib.SmallJoins
import Derived.Shelf.LaysC
import Derived.Shelf.LaysM
import Derived.Shelf.SlGeneric
import Derived.Shelf.Slices.Delete
import Derived.Shelf.Slices.Empties
import Derived.Shelf.Slices.Equal
import Derived.Shelf.SlicesE.Delete
import Derived.Shelf.Strconv.AtoiAll
import Derived.Shelf.Strconv.ErrVarAll
import Derived.Shelf.Strconv.Itoa3
import Derived.Shelf.Strings.Builder2
import Derived.Shelf.Strings.Count
import Derived.Shelf.Strings.Cut
import Derived.Shelf.Strings.Prefix
import Derived.Shelf.Strings.Replace
import Derived.Shelf.Strings.SlTrimAscii
import Derived.Test.YtamgbmcchhmojaaGreatDoorRows
import Derived.Test.YtamgbmcchhmojaaGreatDoorM02
set_option maxRecDepth 100000
set_option maxHeartbeats 32000000
set_option linter.all false
namespace Go.Proofs
open Go renaming Calls->Cl,TypeId->Ti,Value->Vl,World->Wl
open Go.Value renaming iface->nF,int->nI,string->nG,tuple->nT
open Go.IntKind renaming i64->nX
open Go.Ending renaming returned->nR
open Option renaming none->nN,some->nM
section
open Go.Shelf
def bN:Go.Shelf.Ren:=⟨fun|138=>83|195=>110|218=>111|143=>112|219=>143|217=>177|225=>178|224=>179|267=>180|266=>207|314=>208|n=>n,fun|9=>9|3=>3|4=>4|5=>5|0=>0|46=>223|146=>310|51=>266|n=>n,fun|1=>2|n=>n⟩
theorem _root_.zY{p:Prop}(h:p:=by kernel_rfl):p:=h
theorem ci:Go.Proofs.Lays.n138 Tryz.prog bN:=by
 constructor
 case f138=>exact Tryz.func83.trans (congrArg some zY)
 case f143=>exact Tryz.func112.trans (congrArg some zY)
 case f195=>exact Tryz.func110.trans (congrArg some zY)
 case f217=>exact Tryz.func177.trans (congrArg some zY)
 case f218=>exact Tryz.func111.trans (congrArg some zY)
 case f219=>exact Tryz.func143.trans (congrArg some zY)
 case f224=>exact Tryz.func179.trans (congrArg some zY)
 case f225=>exact Tryz.func178.trans (congrArg some zY)
 case f266=>exact Tryz.func207.trans (congrArg some zY)
 case f267=>exact Tryz.func180.trans (congrArg some zY)
 case f314=>exact Tryz.func208.trans (congrArg some zY)
 all_goals first|kernel_rfl|(intro w;kernel_rfl)|(intro x w;kernel_rfl)
def bX:Go.Shelf.Ren:=⟨fun|145=>84|220=>113|219=>143|217=>177|225=>178|224=>179|267=>180|266=>207|314=>208|n=>n,fun|9=>9|4=>4|59=>182|3=>3|5=>5|46=>223|146=>310|51=>266|n=>n,fun|1=>2|n=>n⟩
theorem cu:Go.Proofs.Lays.n145 Tryz.prog bX:=by
 constructor
 case f145=>exact Tryz.func84.trans (congrArg some zY)
 case f217=>exact Tryz.func177.trans (congrArg some zY)
 case f219=>exact Tryz.func143.trans (congrArg some zY)
 case f220=>exact Tryz.func113.trans (congrArg some zY)
 case f224=>exact Tryz.func179.trans (congrArg some zY)
 case f225=>exact Tryz.func178.trans (congrArg some zY)
 case f266=>exact Tryz.func207.trans (congrArg some zY)
 case f267=>exact Tryz.func180.trans (congrArg some zY)
 case f314=>exact Tryz.func208.trans (congrArg some zY)
 all_goals first|kernel_rfl|(intro w;kernel_rfl)|(intro x w;kernel_rfl)
def fx:Go.Shelf.Ren:=⟨fun|155=>85|154=>114|138=>83|165=>144|143=>112|166=>145|197=>146|169=>147|195=>110|218=>111|240=>181|241=>182|219=>143|260=>183|276=>209|277=>210|217=>177|225=>178|224=>179|267=>180|266=>207|314=>208|n=>n,fun|9=>9|3=>3|4=>4|72=>256|0=>0|76=>258|105=>260|21=>21|5=>5|70=>254|20=>20|37=>180|75=>35|127=>289|164=>312|46=>223|119=>315|139=>318|138=>317|146=>310|51=>266|80=>262|n=>n,fun|1=>2|3=>4|4=>5|n=>n⟩
theorem bM:Go.Proofs.Lays.n155 Tryz.prog fx:=by
 constructor
 case f138=>exact Tryz.func83.trans (congrArg some zY)
 case f143=>exact Tryz.func112.trans (congrArg some zY)
 case f154=>exact Tryz.func114.trans (congrArg some zY)
 case f155=>exact Tryz.func85.trans (congrArg some zY)
 case f165=>exact Tryz.func144.trans (congrArg some zY)
 case f166=>exact Tryz.func145.trans (congrArg some zY)
 case f169=>exact Tryz.func147.trans (congrArg some zY)
 case f195=>exact Tryz.func110.trans (congrArg some zY)
 case f197=>exact Tryz.func146.trans (congrArg some zY)
 case f217=>exact Tryz.func177.trans (congrArg some zY)
 case f218=>exact Tryz.func111.trans (congrArg some zY)
 case f219=>exact Tryz.func143.trans (congrArg some zY)
 case f224=>exact Tryz.func179.trans (congrArg some zY)
 case f225=>exact Tryz.func178.trans (congrArg some zY)
 case f240=>exact Tryz.func181.trans (congrArg some zY)
 case f241=>exact Tryz.func182.trans (congrArg some zY)
 case f260=>exact Tryz.func183.trans (congrArg some zY)
 case f266=>exact Tryz.func207.trans (congrArg some zY)
 case f267=>exact Tryz.func180.trans (congrArg some zY)
 case f276=>exact Tryz.func209.trans (congrArg some zY)
 case f277=>exact Tryz.func210.trans (congrArg some zY)
 case f314=>exact Tryz.func208.trans (congrArg some zY)
 all_goals first|kernel_rfl|(intro w;kernel_rfl)|(intro x w;kernel_rfl)
def bP:Go.Shelf.Ren:=⟨fun|172=>174|244=>205|245=>206|247=>218|279=>219|280=>220|281=>221|282=>222|287=>225|316=>226|171=>35|205=>227|321=>230|322=>231|243=>55|246=>86|283=>115|284=>116|285=>117|286=>118|129=>149|317=>148|318=>150|319=>151|320=>152|337=>184|338=>185|n=>n,fun|9=>9|3=>3|75=>35|76=>258|4=>4|5=>5|167=>330|37=>180|0=>0|85=>331|2=>2|168=>333|53=>25|175=>337|46=>223|210=>340|127=>289|145=>346|143=>344|21=>21|171=>218|173=>221|212=>265|51=>266|20=>20|213=>267|232=>319|233=>320|80=>262|n=>n,fun|15=>8|16=>9|17=>3|18=>6|19=>7|n=>n⟩
theorem UV:Go.Proofs.LaysC.n172 Tryz.prog bP:=by
 constructor
 try case' toM=>constructor
 try case' ton172=>constructor
 case f129=>exact Tryz.func149.trans (congrArg some zY)
 case f171=>exact Tryz.func35.trans (congrArg some zY)
 case f172=>exact Tryz.func174.trans (congrArg some zY)
 case f205=>exact Tryz.func227.trans (congrArg some zY)
 case f243=>exact Tryz.func55.trans (congrArg some zY)
 case f244=>exact Tryz.func205.trans (congrArg some zY)
 case f245=>exact Tryz.func206.trans (congrArg some zY)
 case f246=>exact Tryz.func86.trans (congrArg some zY)
 case f247=>exact Tryz.func218.trans (congrArg some zY)
 case f279=>exact Tryz.func219.trans (congrArg some zY)
 case f280=>exact Tryz.func220.trans (congrArg some zY)
 case f281=>exact Tryz.func221.trans (congrArg some zY)
 case f282=>exact Tryz.func222.trans (congrArg some zY)
 case f283=>exact Tryz.func115.trans (congrArg some zY)
 case f284=>exact Tryz.func116.trans (congrArg some zY)
 case f285=>exact Tryz.func117.trans (congrArg some zY)
 case f286=>exact Tryz.func118.trans (congrArg some zY)
 case f287=>exact Tryz.func225.trans (congrArg some zY)
 case f316=>exact Tryz.func226.trans (congrArg some zY)
 case f317=>exact Tryz.func148.trans (congrArg some zY)
 case f318=>exact Tryz.func150.trans (congrArg some zY)
 case f319=>exact Tryz.func151.trans (congrArg some zY)
 case f320=>exact Tryz.func152.trans (congrArg some zY)
 case f321=>exact Tryz.func230.trans (congrArg some zY)
 case f322=>exact Tryz.func231.trans (congrArg some zY)
 case f337=>exact Tryz.func184.trans (congrArg some zY)
 case f338=>exact Tryz.func185.trans (congrArg some zY)
 all_goals first|kernel_rfl|(intro w;kernel_rfl)|(intro x w;kernel_rfl)
def bS:Go.Shelf.Ren:=⟨fun|171=>35|243=>55|246=>86|283=>115|284=>116|285=>117|286=>118|129=>149|317=>148|318=>150|319=>151|320=>152|337=>184|338=>185|n=>n,fun|3=>3|9=>9|2=>2|4=>4|171=>218|0=>0|53=>25|37=>180|5=>5|173=>221|212=>265|51=>266|20=>20|213=>267|46=>223|232=>319|233=>320|n=>n,fun|17=>3|18=>6|19=>7|n=>n⟩
theorem cq:Go.Proofs.LaysM.n171 Tryz.prog bS:=by
 constructor
 try case' toM=>constructor
 try case' ton171=>constructor
 case f129=>exact Tryz.func149.trans (congrArg some zY)
 case f171=>exact Tryz.func35.trans (congrArg some zY)
 case f243=>exact Tryz.func55.trans (congrArg some zY)
 case f246=>exact Tryz.func86.trans (congrArg some zY)
 case f283=>exact Tryz.func115.trans (congrArg some zY)
 case f284=>exact Tryz.func116.trans (congrArg some zY)
 case f285=>exact Tryz.func117.trans (congrArg some zY)
 case f286=>exact Tryz.func118.trans (congrArg some zY)
 case f317=>exact Tryz.func148.trans (congrArg some zY)
 case f318=>exact Tryz.func150.trans (congrArg some zY)
 case f319=>exact Tryz.func151.trans (congrArg some zY)
 case f320=>exact Tryz.func152.trans (congrArg some zY)
 case f337=>exact Tryz.func184.trans (congrArg some zY)
 case f338=>exact Tryz.func185.trans (congrArg some zY)
 all_goals first|kernel_rfl|(intro w;kernel_rfl)|(intro x w;kernel_rfl)
def bW:Go.Shelf.Ren:=⟨fun|160=>173|232=>199|231=>198|227=>200|234=>202|233=>201|236=>204|235=>203|228=>215|271=>217|151=>216|197=>146|120=>224|152=>223|260=>183|137=>228|119=>229|224=>179|225=>178|217=>177|266=>207|n=>n,fun|9=>9|4=>4|3=>3|5=>5|117=>305|116=>304|0=>0|124=>308|21=>21|105=>260|46=>223|119=>315|139=>318|138=>317|n=>n,fun|3=>4|4=>5|n=>n⟩
theorem cr:Go.Proofs.Lays.n160 Tryz.prog bW:=by
 constructor
 case f119=>exact Tryz.func229.trans (congrArg some zY)
 case f120=>exact Tryz.func224.trans (congrArg some zY)
 case f137=>exact Tryz.func228.trans (congrArg some zY)
 case f151=>exact Tryz.func216.trans (congrArg some zY)
 case f152=>exact Tryz.func223.trans (congrArg some zY)
 case f160=>exact Tryz.func173.trans (congrArg some zY)
 case f197=>exact Tryz.func146.trans (congrArg some zY)
 case f217=>exact Tryz.func177.trans (congrArg some zY)
 case f224=>exact Tryz.func179.trans (congrArg some zY)
 case f225=>exact Tryz.func178.trans (congrArg some zY)
 case f227=>exact Tryz.func200.trans (congrArg some zY)
 case f228=>exact Tryz.func215.trans (congrArg some zY)
 case f231=>exact Tryz.func198.trans (congrArg some zY)
 case f232=>exact Tryz.func199.trans (congrArg some zY)
 case f233=>exact Tryz.func201.trans (congrArg some zY)
 case f234=>exact Tryz.func202.trans (congrArg some zY)
 case f235=>exact Tryz.func203.trans (congrArg some zY)
 case f236=>exact Tryz.func204.trans (congrArg some zY)
 case f260=>exact Tryz.func183.trans (congrArg some zY)
 case f266=>exact Tryz.func207.trans (congrArg some zY)
 case f271=>exact Tryz.func217.trans (congrArg some zY)
 all_goals first|kernel_rfl|(intro w;kernel_rfl)|(intro x w;kernel_rfl)
def bI:Go.Shelf.Ren:=⟨fun|169=>147|n=>n,fun|70=>254|9=>9|0=>0|72=>256|37=>180|127=>289|3=>3|5=>5|n=>n,fun|n=>n⟩
theorem cw:Go.Proofs.Lays.n169 Tryz.prog bI:=by
 constructor
 case f169=>exact Tryz.func147.trans (congrArg some zY)
 all_goals first|kernel_rfl|(intro w;kernel_rfl)|(intro x w;kernel_rfl)
def ce:Go.Shelf.Ren:=⟨fun|193=>41|n=>n,fun|31=>27|9=>9|4=>4|3=>3|0=>0|n=>n,fun|n=>n⟩
theorem b9:Go.Proofs.Lays.n193 Tryz.prog ce:=by
 constructor
 case f193=>exact Tryz.func41.trans (congrArg some zY)
 all_goals first|kernel_rfl|(intro w;kernel_rfl)|(intro x w;kernel_rfl)
def bR:Go.Shelf.Ren:=⟨fun|24=>136|n=>n,fun|24=>27|9=>9|3=>3|4=>4|0=>0|n=>n,fun|n=>n⟩
theorem cm:Go.Proofs.Lays2.n24 Tryz.prog bR:=by
 constructor
 case f24=>exact Tryz.func136.trans (congrArg some zY)
 all_goals first|kernel_rfl|(intro w;kernel_rfl)|(intro x w;kernel_rfl)
def bQ:Go.Shelf.Ren:=⟨fun|45=>137|n=>n,fun|22=>72|23=>66|3=>3|4=>4|0=>0|n=>n,fun|n=>n⟩
theorem cj:Go.Proofs.SlLaysE.n45 Tryz.prog bQ:=by
 constructor
 case f45=>exact⟨Tryz.f137.name,by decide,Tryz.func137.trans (congrArg some zY)⟩
 all_goals first|kernel_rfl|(intro w;kernel_rfl)|(intro x w;kernel_rfl)
end
end Go.Proofs
namespace Go.Proofs.YtamgbmcchhmojaaGreatDoor
open Go renaming Calls->Cl,TypeId->Ti,Value->Vl,World->Wl
open Go.Value renaming iface->nF,int->nI,string->nG,tuple->nT
open Go.IntKind renaming i64->nX
open Go.Ending renaming returned->nR
open Option renaming none->nN,some->nM
section
open _root_.Go.Proofs.Tryz
open Go Go.Shelf Go.RowKit Go.Lib
variable{cs:Array Vl}{bs:List Nat}{g:Nat}{a:String}{w w':Wl}
theorem Of:Builder.Extra prog fx where
 sizeBuilder:=Yb
 liesBuilder:=Yb
 t5:=underlying5
 a5:=isAgg5
 z5:=sizeOf5
 v5:=zeroValue5
 infoByte:=Yb
 cellsByte:=Yb
 sizeByte:=Yb
 neB5:=ZM
theorem U6(s:BY)(c:UInt8)(w:Wl):Cl prog 83 #[nG s,nG ⟨#[c]⟩] w fun e w'=>e= nR (nI nX (Lib.countByte s.data.toList c))/\w'=w:=Any.strings_Count_one ci s c w
theorem Yw(s a:BY)(m:Int)(w:Wl)(c:s.size<4294967281)(b:w.cell? ⟨2,0,nN⟩=nM (nI nX m)):
 Cl prog 84 #[nG s,nG a] w fun e w'=>e= nR (nT #[nG ⟨(Lib.cut s.data.toList a.data.toList).1.toArray⟩,nG ⟨(Lib.cut s.data.toList a.data.toList).2.1.toArray⟩,.bool (Lib.cut s.data.toList a.data.toList).2.2])/\∃n,w'=w.drewN n:=Any.strings_Cut cu s a m w c b
structure Br(w:Wl):Prop where
 max:∃m,w.cell? ⟨2,0,nN⟩=nM (nI nX m)
 pow:Lib.TabIs prog w "internal/strconv.uint64pow10" .u64 Lib.pow10Tab
 syn:∃t p,w.var? prog "strconv.ErrSyntax" =nM #[nF t p]
 ran:∃t p,w.var? prog "strconv.ErrRange" =nM #[nF t p]
theorem X9(b:prog.globalNamed a=nM g)(h:w'.heap[g]? =w.heap[g]?):w'.var? prog a=w.var? prog a:=by
 unfold World.var?;rw[b];simp only[Option.bind_some];rw[h]
theorem ZH(b:prog.globalNamed a=nM g)(h:w.var? prog a=nM cs):g<w.heap.size:=by
 unfold World.var? at h;rw[b]at h;simp only[Option.bind_some]at h;by_cases c:g<w.heap.size
 .exact c
 .rw[Array.getElem?_eq_none Zj]at h;cases h
theorem Nf(b:prog.globalNamed a=nM g)(d:Chg w w' bs)(c:g∉bs)(h:w.var? prog a=nM cs):w'.var? prog a=nM cs:=by
 rw[X9 b (d.block g (ZH b h) c)];exact h
theorem Br.kept(h:Br w)(a:Chg w w' bs)(i:∀b,b∈bs->10<=b:=by simp):Br w':=by
 have d:∀g,g<10->g∉bs:=fun g o c=>by have:=i g c;omega
 obtain⟨m,c⟩:=h.max;obtain⟨l,j,e⟩:=h.syn;obtain⟨n,k,f⟩:=h.ran;refine⟨⟨m,(a.cell (World.block_lt_of_cell? w _ c) (d _ ZM)).trans c⟩, ?_,⟨l,j, ?_⟩,⟨n,k, ?_⟩⟩
 .exact Nf (g:=3) Yb a (d _ ZM) h.pow
 .exact Nf (g:=8) Yb a (d _ ZM) e
 .exact Nf (g:=9) Yb a (d _ ZM) f
end
section
open _root_.Go.Proofs.Tryz
open Go Go.Shelf Go.RowKit Go.Lib Go.Sort
theorem Wn(w:Wl)(k:Nat)(os:Array Obj):Chg w (grow (w.drewN k) os) []:=
 ⟨rfl,rfl,rfl,by simp[grow],fun i hi _=>by simp only[grow];rw[Array.getElem?_append_left (by simpa using hi)];rfl⟩
theorem Rj(s a new:BY)(w:Wl)(c:Br w)(g:s.size<4294967281)(b:1<=a.size)(d:s.size+Lib.countB s a*new.size<=140737488355328):
  Cl prog 85 #[nG s,nG a,nG new] w fun e w'=>e= nR (nG ⟨(Lib.replaceAll s.data.toList a.data.toList new.data.toList).toArray⟩)/\Chg w w' []:=by
 obtain⟨m,f⟩:=c.max;exact(Any.strings_ReplaceAll bM Of s a new m w g f b d).mono fun _ _ h=>⟨h.1,DI h.2⟩
theorem Ri(n:Int)(a: -9223372036854775808<=n)(b:n<=9223372036854775807)(w:Wl)(c:Br w):
  Cl prog 35 #[nI nX n] w fun e w'=>e= nR (nG ⟨(Lib.itoa n).toArray⟩)/\Chg w w' []:=
 (Any.strconv_Itoa cq n a b w c.pow).mono fun _ _ ⟨h,k,os,d⟩=>⟨h,d▸Wn w k os⟩
theorem UO(w:Wl)(e:Ti)(t:BY):Chg w (Lib.bytesWorld w e t) []:=
 DI (Go.Joins.below_bytesWorld w.heap.size w e t (Q8 _))
theorem Rh(s:BY)(f:s.size<=281474976710656)(w:Wl)(d:Br w):
  Cl prog 174 #[nG s] w fun e w'=>(∃(i:Int) (v:Vl),e= nR (nT #[nI nX i,v])/\((v= .nilIface/\Lib.atoiAll s.data.toList= .ok i)\/((∃t x,v= nF t x)/\∀g,Lib.atoiAll s.data.toList≠ .ok g)))/\Chg w w' []:=by
 rcases h:Lib.atoiAll s.data.toList with i|_|_
 .exact(Any.strconv_Atoi_ok UV s Zj i h w).mono fun _ _ ⟨a,b⟩=>⟨⟨i,_,a,.inl ⟨rfl,rfl⟩⟩,by rcases b with rfl|⟨t,rfl⟩;exact Chg.refl _ _;exact UO _ _ _⟩
 .obtain⟨t,p,c⟩:=d.syn;exact(Any.strconv_Atoi_syntax_var UV s f h t p w c).mono fun _ _ ⟨N,a,_,_,b⟩=>⟨⟨0,_,a,.inr ⟨⟨_,_,rfl⟩,fun _=>Zh⟩⟩,DI b⟩
 .obtain⟨t,p,c⟩:=d.ran;exact(Any.strconv_Atoi_range_var UV s f h t p w c).mono fun _ _ ⟨N,a,_,_,b⟩=>⟨⟨_,_,a,.inr ⟨⟨_,_,rfl⟩,fun _=>Zh⟩⟩,DI b⟩
end
end Go.Proofs.YtamgbmcchhmojaaGreatDoor

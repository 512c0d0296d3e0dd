/- Part 8 of the proof of both cards. -/
import Derived.Ground.Names2Prog
import Derived.Ground.NamesProg
import Derived.Ground.SlgnProg
import Derived.Lib.LaidTab
import Derived.Lib.SmallJoins
import Derived.Shelf.LaysC
import Derived.Shelf.LaysM
import Derived.Shelf.SlGeneric
import Derived.Shelf.Slices.Delete
import Derived.Shelf.Slices.Empties
import Derived.Shelf.Slices.Equal
import Derived.Shelf.SlicesE.Delete
import Derived.Shelf.Strconv.AtoiAll
import Derived.Shelf.Strconv.ErrVarAll
import Derived.Shelf.Strconv.Itoa3
import Derived.Shelf.Strings.Builder2
import Derived.Shelf.Strings.Count
import Derived.Shelf.Strings.Cut
import Derived.Shelf.Strings.Prefix
import Derived.Shelf.Strings.Replace
import Derived.Shelf.Strings.SlTrimAscii
import Derived.Test.YtpdnhfkacgdocaaGreatDoorRows
import Derived.Test.YtpdnhfkacgdocaaGreatDoorM02
set_option maxRecDepth 100000
set_option maxHeartbeats 32000000
set_option linter.all false
namespace Go.Proofs
open Go renaming Calls->Cl,TypeId->Ti,Value->Vl,World->Wl
open Go.Value renaming iface->nF,int->nI,string->nG,tuple->nT
open Go.IntKind renaming i64->nX
open Go.Ending renaming returned->nR
open Option renaming none->nN,some->nM
section
open Go.Shelf
def bN:Go.Shelf.Ren:=⟨fun|138=>110|195=>140|218=>141|143=>142|219=>172|217=>201|225=>202|224=>203|267=>204|266=>224|314=>225|n=>n,fun|9=>9|3=>3|4=>4|5=>5|0=>0|46=>225|146=>327|51=>263|n=>n,fun|1=>1|n=>n⟩
theorem _root_.yr{p:Prop}(h:p:=by kernel_rfl):p:=h
theorem ci:Go.Proofs.Lays.n138 Tryz.prog bN:=by
 constructor
 case f138=>exact Tryz.func110.trans (congrArg some yr)
 case f143=>exact Tryz.func142.trans (congrArg some yr)
 case f195=>exact Tryz.func140.trans (congrArg some yr)
 case f217=>exact Tryz.func201.trans (congrArg some yr)
 case f218=>exact Tryz.func141.trans (congrArg some yr)
 case f219=>exact Tryz.func172.trans (congrArg some yr)
 case f224=>exact Tryz.func203.trans (congrArg some yr)
 case f225=>exact Tryz.func202.trans (congrArg some yr)
 case f266=>exact Tryz.func224.trans (congrArg some yr)
 case f267=>exact Tryz.func204.trans (congrArg some yr)
 case f314=>exact Tryz.func225.trans (congrArg some yr)
 all_goals first|kernel_rfl|(intro w;kernel_rfl)|(intro x w;kernel_rfl)
def bX:Go.Shelf.Ren:=⟨fun|145=>111|220=>143|219=>172|217=>201|225=>202|224=>203|267=>204|266=>224|314=>225|n=>n,fun|9=>9|4=>4|59=>214|3=>3|5=>5|46=>225|146=>327|51=>263|n=>n,fun|1=>1|n=>n⟩
theorem cu:Go.Proofs.Lays.n145 Tryz.prog bX:=by
 constructor
 case f145=>exact Tryz.func111.trans (congrArg some yr)
 case f217=>exact Tryz.func201.trans (congrArg some yr)
 case f219=>exact Tryz.func172.trans (congrArg some yr)
 case f220=>exact Tryz.func143.trans (congrArg some yr)
 case f224=>exact Tryz.func203.trans (congrArg some yr)
 case f225=>exact Tryz.func202.trans (congrArg some yr)
 case f266=>exact Tryz.func224.trans (congrArg some yr)
 case f267=>exact Tryz.func204.trans (congrArg some yr)
 case f314=>exact Tryz.func225.trans (congrArg some yr)
 all_goals first|kernel_rfl|(intro w;kernel_rfl)|(intro x w;kernel_rfl)
def fx:Go.Shelf.Ren:=⟨fun|155=>112|154=>144|138=>110|165=>173|143=>142|166=>174|197=>175|169=>176|195=>140|218=>141|240=>205|241=>206|219=>172|260=>207|276=>226|277=>227|217=>201|225=>202|224=>203|267=>204|266=>224|314=>225|n=>n,fun|9=>9|3=>3|4=>4|72=>277|0=>0|76=>273|105=>279|21=>21|5=>5|70=>275|20=>20|37=>177|75=>35|127=>307|164=>329|46=>225|119=>332|139=>335|138=>334|146=>327|51=>263|80=>281|n=>n,fun|1=>1|3=>2|4=>3|n=>n⟩
theorem bM:Go.Proofs.Lays.n155 Tryz.prog fx:=by
 constructor
 case f138=>exact Tryz.func110.trans (congrArg some yr)
 case f143=>exact Tryz.func142.trans (congrArg some yr)
 case f154=>exact Tryz.func144.trans (congrArg some yr)
 case f155=>exact Tryz.func112.trans (congrArg some yr)
 case f165=>exact Tryz.func173.trans (congrArg some yr)
 case f166=>exact Tryz.func174.trans (congrArg some yr)
 case f169=>exact Tryz.func176.trans (congrArg some yr)
 case f195=>exact Tryz.func140.trans (congrArg some yr)
 case f197=>exact Tryz.func175.trans (congrArg some yr)
 case f217=>exact Tryz.func201.trans (congrArg some yr)
 case f218=>exact Tryz.func141.trans (congrArg some yr)
 case f219=>exact Tryz.func172.trans (congrArg some yr)
 case f224=>exact Tryz.func203.trans (congrArg some yr)
 case f225=>exact Tryz.func202.trans (congrArg some yr)
 case f240=>exact Tryz.func205.trans (congrArg some yr)
 case f241=>exact Tryz.func206.trans (congrArg some yr)
 case f260=>exact Tryz.func207.trans (congrArg some yr)
 case f266=>exact Tryz.func224.trans (congrArg some yr)
 case f267=>exact Tryz.func204.trans (congrArg some yr)
 case f276=>exact Tryz.func226.trans (congrArg some yr)
 case f277=>exact Tryz.func227.trans (congrArg some yr)
 case f314=>exact Tryz.func225.trans (congrArg some yr)
 all_goals first|kernel_rfl|(intro w;kernel_rfl)|(intro x w;kernel_rfl)
def bP:Go.Shelf.Ren:=⟨fun|172=>171|244=>199|245=>200|247=>219|279=>220|280=>221|281=>222|282=>223|287=>234|316=>235|171=>133|205=>236|321=>241|322=>242|243=>170|246=>198|283=>215|284=>216|285=>217|286=>218|129=>159|317=>230|318=>231|319=>232|320=>233|337=>239|338=>240|n=>n,fun|9=>9|3=>3|75=>35|76=>273|4=>4|5=>5|167=>321|37=>177|0=>0|85=>322|2=>2|168=>324|53=>25|175=>340|46=>225|210=>343|127=>307|145=>349|143=>347|21=>21|171=>317|173=>319|212=>338|51=>263|20=>20|213=>339|232=>350|233=>351|80=>281|n=>n,fun|15=>5|16=>6|17=>4|18=>7|19=>8|n=>n⟩
theorem UV:Go.Proofs.LaysC.n172 Tryz.prog bP:=by
 constructor
 try case' toM=>constructor
 try case' ton172=>constructor
 case f129=>exact Tryz.func159.trans (congrArg some yr)
 case f171=>exact Tryz.func133.trans (congrArg some yr)
 case f172=>exact Tryz.func171.trans (congrArg some yr)
 case f205=>exact Tryz.func236.trans (congrArg some yr)
 case f243=>exact Tryz.func170.trans (congrArg some yr)
 case f244=>exact Tryz.func199.trans (congrArg some yr)
 case f245=>exact Tryz.func200.trans (congrArg some yr)
 case f246=>exact Tryz.func198.trans (congrArg some yr)
 case f247=>exact Tryz.func219.trans (congrArg some yr)
 case f279=>exact Tryz.func220.trans (congrArg some yr)
 case f280=>exact Tryz.func221.trans (congrArg some yr)
 case f281=>exact Tryz.func222.trans (congrArg some yr)
 case f282=>exact Tryz.func223.trans (congrArg some yr)
 case f283=>exact Tryz.func215.trans (congrArg some yr)
 case f284=>exact Tryz.func216.trans (congrArg some yr)
 case f285=>exact Tryz.func217.trans (congrArg some yr)
 case f286=>exact Tryz.func218.trans (congrArg some yr)
 case f287=>exact Tryz.func234.trans (congrArg some yr)
 case f316=>exact Tryz.func235.trans (congrArg some yr)
 case f317=>exact Tryz.func230.trans (congrArg some yr)
 case f318=>exact Tryz.func231.trans (congrArg some yr)
 case f319=>exact Tryz.func232.trans (congrArg some yr)
 case f320=>exact Tryz.func233.trans (congrArg some yr)
 case f321=>exact Tryz.func241.trans (congrArg some yr)
 case f322=>exact Tryz.func242.trans (congrArg some yr)
 case f337=>exact Tryz.func239.trans (congrArg some yr)
 case f338=>exact Tryz.func240.trans (congrArg some yr)
 all_goals first|kernel_rfl|(intro w;kernel_rfl)|(intro x w;kernel_rfl)
def bS:Go.Shelf.Ren:=⟨fun|171=>133|243=>170|246=>198|283=>215|284=>216|285=>217|286=>218|129=>159|317=>230|318=>231|319=>232|320=>233|337=>239|338=>240|n=>n,fun|3=>3|9=>9|2=>2|4=>4|171=>317|0=>0|53=>25|37=>177|5=>5|173=>319|212=>338|51=>263|20=>20|213=>339|46=>225|232=>350|233=>351|n=>n,fun|17=>4|18=>7|19=>8|n=>n⟩
theorem cq:Go.Proofs.LaysM.n171 Tryz.prog bS:=by
 constructor
 try case' toM=>constructor
 try case' ton171=>constructor
 case f129=>exact Tryz.func159.trans (congrArg some yr)
 case f171=>exact Tryz.func133.trans (congrArg some yr)
 case f243=>exact Tryz.func170.trans (congrArg some yr)
 case f246=>exact Tryz.func198.trans (congrArg some yr)
 case f283=>exact Tryz.func215.trans (congrArg some yr)
 case f284=>exact Tryz.func216.trans (congrArg some yr)
 case f285=>exact Tryz.func217.trans (congrArg some yr)
 case f286=>exact Tryz.func218.trans (congrArg some yr)
 case f317=>exact Tryz.func230.trans (congrArg some yr)
 case f318=>exact Tryz.func231.trans (congrArg some yr)
 case f319=>exact Tryz.func232.trans (congrArg some yr)
 case f320=>exact Tryz.func233.trans (congrArg some yr)
 case f337=>exact Tryz.func239.trans (congrArg some yr)
 case f338=>exact Tryz.func240.trans (congrArg some yr)
 all_goals first|kernel_rfl|(intro w;kernel_rfl)|(intro x w;kernel_rfl)
def bW:Go.Shelf.Ren:=⟨fun|160=>169|232=>192|231=>191|227=>193|234=>195|233=>194|236=>197|235=>196|228=>212|271=>214|151=>213|197=>175|120=>229|152=>228|260=>207|137=>237|119=>238|224=>203|225=>202|217=>201|266=>224|n=>n,fun|9=>9|4=>4|3=>3|5=>5|117=>300|116=>299|0=>0|124=>303|21=>21|105=>279|46=>225|119=>332|139=>335|138=>334|n=>n,fun|3=>2|4=>3|n=>n⟩
theorem cr:Go.Proofs.Lays.n160 Tryz.prog bW:=by
 constructor
 case f119=>exact Tryz.func238.trans (congrArg some yr)
 case f120=>exact Tryz.func229.trans (congrArg some yr)
 case f137=>exact Tryz.func237.trans (congrArg some yr)
 case f151=>exact Tryz.func213.trans (congrArg some yr)
 case f152=>exact Tryz.func228.trans (congrArg some yr)
 case f160=>exact Tryz.func169.trans (congrArg some yr)
 case f197=>exact Tryz.func175.trans (congrArg some yr)
 case f217=>exact Tryz.func201.trans (congrArg some yr)
 case f224=>exact Tryz.func203.trans (congrArg some yr)
 case f225=>exact Tryz.func202.trans (congrArg some yr)
 case f227=>exact Tryz.func193.trans (congrArg some yr)
 case f228=>exact Tryz.func212.trans (congrArg some yr)
 case f231=>exact Tryz.func191.trans (congrArg some yr)
 case f232=>exact Tryz.func192.trans (congrArg some yr)
 case f233=>exact Tryz.func194.trans (congrArg some yr)
 case f234=>exact Tryz.func195.trans (congrArg some yr)
 case f235=>exact Tryz.func196.trans (congrArg some yr)
 case f236=>exact Tryz.func197.trans (congrArg some yr)
 case f260=>exact Tryz.func207.trans (congrArg some yr)
 case f266=>exact Tryz.func224.trans (congrArg some yr)
 case f271=>exact Tryz.func214.trans (congrArg some yr)
 all_goals first|kernel_rfl|(intro w;kernel_rfl)|(intro x w;kernel_rfl)
def bI:Go.Shelf.Ren:=⟨fun|169=>176|n=>n,fun|70=>275|9=>9|0=>0|72=>277|37=>177|127=>307|3=>3|5=>5|n=>n,fun|n=>n⟩
theorem cw:Go.Proofs.Lays.n169 Tryz.prog bI:=by
 constructor
 case f169=>exact Tryz.func176.trans (congrArg some yr)
 all_goals first|kernel_rfl|(intro w;kernel_rfl)|(intro x w;kernel_rfl)
def ce:Go.Shelf.Ren:=⟨fun|193=>34|n=>n,fun|31=>27|9=>9|4=>4|3=>3|0=>0|n=>n,fun|n=>n⟩
theorem b9:Go.Proofs.Lays.n193 Tryz.prog ce:=by
 constructor
 case f193=>exact Tryz.func34.trans (congrArg some yr)
 all_goals first|kernel_rfl|(intro w;kernel_rfl)|(intro x w;kernel_rfl)
def bR:Go.Shelf.Ren:=⟨fun|24=>135|n=>n,fun|24=>27|9=>9|3=>3|4=>4|0=>0|n=>n,fun|n=>n⟩
theorem cm:Go.Proofs.Lays2.n24 Tryz.prog bR:=by
 constructor
 case f24=>exact Tryz.func135.trans (congrArg some yr)
 all_goals first|kernel_rfl|(intro w;kernel_rfl)|(intro x w;kernel_rfl)
def bQ:Go.Shelf.Ren:=⟨fun|45=>136|n=>n,fun|22=>156|23=>67|3=>3|4=>4|0=>0|n=>n,fun|n=>n⟩
theorem cj:Go.Proofs.SlLaysE.n45 Tryz.prog bQ:=by
 constructor
 case f45=>exact⟨Tryz.f136.name,by decide,Tryz.func136.trans (congrArg some yr)⟩
 all_goals first|kernel_rfl|(intro w;kernel_rfl)|(intro x w;kernel_rfl)
end
end Go.Proofs
namespace Go.Proofs.YtpdnhfkacgdocaaGreatDoor
open Go renaming Calls->Cl,TypeId->Ti,Value->Vl,World->Wl
open Go.Value renaming iface->nF,int->nI,string->nG,tuple->nT
open Go.IntKind renaming i64->nX
open Go.Ending renaming returned->nR
open Option renaming none->nN,some->nM
section
open _root_.Go.Proofs.Tryz
open Go Go.Shelf Go.RowKit Go.Lib
variable{cs:Array Vl}{bs:List Nat}{g:Nat}{a:String}{w w':Wl}
theorem Of:Builder.Extra prog fx where
 sizeBuilder:=Yb
 liesBuilder:=Yb
 t5:=underlying5
 a5:=isAgg5
 z5:=sizeOf5
 v5:=zeroValue5
 infoByte:=Yb
 cellsByte:=Yb
 sizeByte:=Yb
 neB5:=ZM
theorem U6(s:BY)(c:UInt8)(w:Wl):Cl prog 110 #[nG s,nG ⟨#[c]⟩] w fun e w'=>e= nR (nI nX (Lib.countByte s.data.toList c))/\w'=w:=Any.strings_Count_one ci s c w
theorem Yw(s a:BY)(m:Int)(w:Wl)(c:s.size<4294967281)(b:w.cell? ⟨1,0,nN⟩=nM (nI nX m)):
 Cl prog 111 #[nG s,nG a] w fun e w'=>e= nR (nT #[nG ⟨(Lib.cut s.data.toList a.data.toList).1.toArray⟩,nG ⟨(Lib.cut s.data.toList a.data.toList).2.1.toArray⟩,.bool (Lib.cut s.data.toList a.data.toList).2.2])/\∃n,w'=w.drewN n:=Any.strings_Cut cu s a m w c b
structure Br(w:Wl):Prop where
 max:∃m,w.cell? ⟨1,0,nN⟩=nM (nI nX m)
 pow:Lib.TabIs prog w "internal/strconv.uint64pow10" .u64 Lib.pow10Tab
 syn:∃t p,w.var? prog "strconv.ErrSyntax" =nM #[nF t p]
 ran:∃t p,w.var? prog "strconv.ErrRange" =nM #[nF t p]
theorem X9(b:prog.globalNamed a=nM g)(h:w'.heap[g]? =w.heap[g]?):w'.var? prog a=w.var? prog a:=by
 unfold World.var?;rw[b];simp only[Option.bind_some];rw[h]
theorem ZH(b:prog.globalNamed a=nM g)(h:w.var? prog a=nM cs):g<w.heap.size:=by
 unfold World.var? at h;rw[b]at h;simp only[Option.bind_some]at h;by_cases c:g<w.heap.size
 .exact c
 .rw[Array.getElem?_eq_none Zj]at h;cases h
theorem Nf(b:prog.globalNamed a=nM g)(d:Chg w w' bs)(c:g∉bs)(h:w.var? prog a=nM cs):w'.var? prog a=nM cs:=by
 rw[X9 b (d.block g (ZH b h) c)];exact h
theorem Br.kept(h:Br w)(a:Chg w w' bs)(i:∀b,b∈bs->10<=b:=by simp):Br w':=by
 have d:∀g,g<10->g∉bs:=fun g o c=>by have:=i g c;omega
 obtain⟨m,c⟩:=h.max;obtain⟨l,j,e⟩:=h.syn;obtain⟨n,k,f⟩:=h.ran;refine⟨⟨m,(a.cell (World.block_lt_of_cell? w _ c) (d _ ZM)).trans c⟩, ?_,⟨l,j, ?_⟩,⟨n,k, ?_⟩⟩
 .exact Nf (g:=4) Yb a (d _ ZM) h.pow
 .exact Nf (g:=5) Yb a (d _ ZM) e
 .exact Nf (g:=6) Yb a (d _ ZM) f
end
section
open _root_.Go.Proofs.Tryz
open Go Go.Shelf Go.RowKit Go.Lib Go.Sort
theorem Wn(w:Wl)(k:Nat)(os:Array Obj):Chg w (grow (w.drewN k) os) []:=
 ⟨rfl,rfl,rfl,by simp[grow],fun i hi _=>by simp only[grow];rw[Array.getElem?_append_left (by simpa using hi)];rfl⟩
theorem Rj(s a new:BY)(w:Wl)(c:Br w)(g:s.size<4294967281)(b:1<=a.size)(d:s.size+Lib.countB s a*new.size<=140737488355328):
  Cl prog 112 #[nG s,nG a,nG new] w fun e w'=>e= nR (nG ⟨(Lib.replaceAll s.data.toList a.data.toList new.data.toList).toArray⟩)/\Chg w w' []:=by
 obtain⟨m,f⟩:=c.max;exact(Any.strings_ReplaceAll bM Of s a new m w g f b d).mono fun _ _ h=>⟨h.1,DI h.2⟩
theorem Ri(n:Int)(a: -9223372036854775808<=n)(b:n<=9223372036854775807)(w:Wl)(c:Br w):
  Cl prog 133 #[nI nX n] w fun e w'=>e= nR (nG ⟨(Lib.itoa n).toArray⟩)/\Chg w w' []:=
 (Any.strconv_Itoa cq n a b w c.pow).mono fun _ _ ⟨h,k,os,d⟩=>⟨h,d▸Wn w k os⟩
theorem UO(w:Wl)(e:Ti)(t:BY):Chg w (Lib.bytesWorld w e t) []:=
 DI (Go.Joins.below_bytesWorld w.heap.size w e t (Q8 _))
theorem Rh(s:BY)(f:s.size<=281474976710656)(w:Wl)(d:Br w):
  Cl prog 171 #[nG s] w fun e w'=>(∃(i:Int) (v:Vl),e= nR (nT #[nI nX i,v])/\((v= .nilIface/\Lib.atoiAll s.data.toList= .ok i)\/((∃t x,v= nF t x)/\∀g,Lib.atoiAll s.data.toList≠ .ok g)))/\Chg w w' []:=by
 rcases h:Lib.atoiAll s.data.toList with i|_|_
 .exact(Any.strconv_Atoi_ok UV s Zj i h w).mono fun _ _ ⟨a,b⟩=>⟨⟨i,_,a,.inl ⟨rfl,rfl⟩⟩,by rcases b with rfl|⟨t,rfl⟩;exact Chg.refl _ _;exact UO _ _ _⟩
 .obtain⟨t,p,c⟩:=d.syn;exact(Any.strconv_Atoi_syntax_var UV s f h t p w c).mono fun _ _ ⟨N,a,_,_,b⟩=>⟨⟨0,_,a,.inr ⟨⟨_,_,rfl⟩,fun _=>Zh⟩⟩,DI b⟩
 .obtain⟨t,p,c⟩:=d.ran;exact(Any.strconv_Atoi_range_var UV s f h t p w c).mono fun _ _ ⟨N,a,_,_,b⟩=>⟨⟨_,_,a,.inr ⟨⟨_,_,rfl⟩,fun _=>Zh⟩⟩,DI b⟩
end
end Go.Proofs.YtpdnhfkacgdocaaGreatDoor

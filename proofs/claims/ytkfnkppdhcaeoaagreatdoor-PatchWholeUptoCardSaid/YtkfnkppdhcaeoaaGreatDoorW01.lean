/- Part 1 of the proof of patchWhole_card. -/
import Derived.Test.YtkfnkppdhcaeoaaGreatDoorM39
set_option maxRecDepth 100000
set_option maxHeartbeats 32000000
set_option linter.unusedSimpArgs false
set_option linter.unusedVariables false
set_option linter.unnecessarySimpa false
namespace Ptr
section
open Utf
theorem YL(a b:List BY):(A6 (a++b)).data.toList=(A6 a).data.toList++(A6 b).data.toList:=by
 unfold A6;simp only[List.map_append]
 generalize (a.map fun t=>t.data.toList)=x
 generalize (b.map fun t=>t.data.toList)=y
 show Bl (x++y)=Bl x++Bl y
 induction x with
 |nil=>rfl
 |cons t l c=>simp only[Qo,Bl,c,List.append_assoc]
end
end Ptr

/- Part 1 of the proof of patchKnown_card. -/
import Derived.Test.YtkfnkppdhcaeoaaGreatDoorM28
set_option maxRecDepth 100000
set_option maxHeartbeats 32000000
set_option linter.all false
namespace Go.Proofs.YtkfnkppdhcaeoaaGreatDoor
open Go renaming Value->Vl
open Go.Value renaming string->nG
open Option renaming some->nM
section
open Go Go.RowKit Tree Ptr
inductive ZV where
 |no (e:Nat) (p:BY)
 |yes (l:List CW)
theorem eM{ks:List BY}{vs:List Vl}{i:Nat}{k:BY}{v:Vl}(a:ks[i]? =nM k)(b:vs[i]? =nM v):(Kp ks vs)[i*2]? =nM (nG k)/\(Kp ks vs)[i*2+1]? =nM v:=by
 have h:=Mi a b;rw[Nat.mul_comm 2 i]at h;exact h
theorem aA:Hs f5:=⟨ZM,Yb,Yb⟩
end
end Go.Proofs.YtkfnkppdhcaeoaaGreatDoor

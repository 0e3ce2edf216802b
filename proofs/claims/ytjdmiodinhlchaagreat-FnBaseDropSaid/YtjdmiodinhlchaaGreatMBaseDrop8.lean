/- Lemmas (several texts in one). -/
import Derived.Test.YtjdmiodinhlchaaGreatMBaseDrop5
import Derived.Test.YtjdmiodinhlchaaGreatMBaseDrop7
set_option maxRecDepth 100000
set_option linter.unusedSimpArgs false
set_option linter.unusedVariables false
namespace Go.Proofs.YtjdmiodinhlchaaGreat.Code
open Go Go.Ev Go.Proofs
section
variable (H:Hp) (a b c d:Ev.Obj)
theorem Zr:B6 (Bp (Bp H a) b) (Bc H)=some a:=by rw[Da _ (by rw[Bx];omega),C5]
theorem Zs:B6 (Bp (Bp H a) b) (Bc H+1)=some b:=by rw[←Bx H a,C5]
end
theorem Kh (xs:List Sc) (i:Nat) (hi:i<xs.length): (xs.map G1).getD i .nilp=G1 (xs.getD i ([],0)):=by
 simp[List.getD_eq_getElem?_getD,hi]
theorem Rh (xs:List Pr) (i:Nat) (hi:i<xs.length): (xs.map Jh).getD i .nilp=Jh (xs.getD i ([],[])):=by
 simp[List.getD_eq_getElem?_getD,hi]
structure Small (e:En):Prop where
 list:e.list.length≤1048576
 scores:e.scores.length≤1048576
 fields:e.fields.length≤1048576
end Go.Proofs.YtjdmiodinhlchaaGreat.Code

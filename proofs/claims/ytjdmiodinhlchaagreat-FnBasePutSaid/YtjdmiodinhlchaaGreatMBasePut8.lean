/- Lemmas (several texts in one). -/
import Derived.Test.YtjdmiodinhlchaaGreatMBasePut5
import Derived.Test.YtjdmiodinhlchaaGreatMBasePut7
set_option maxRecDepth 100000
set_option linter.unusedSimpArgs false
set_option linter.unusedVariables false
namespace Go.Proofs.YtjdmiodinhlchaaGreat.Code
open Go Go.Ev Go.Proofs
section
variable (H:Hp) (a b c d:Ev.Obj)
theorem Bet:Ce (Bt (Bt H a) b) (Bc H)=some a:=by rw[Fg _ (by rw[Cg];omega),Fa]
theorem Beu:Ce (Bt (Bt H a) b) (Bc H+1)=some b:=by rw[←Cg H a,Fa]
end
theorem Mv (xs:List Sc) (i:Nat) (hi:i<xs.length): (xs.map Jq).getD i .nilp=Jq (xs.getD i ([],0)):=by
 simp[List.getD_eq_getElem?_getD,hi]
theorem Xd (xs:List Pr) (i:Nat) (hi:i<xs.length): (xs.map Ka).getD i .nilp=Ka (xs.getD i ([],[])):=by
 simp[List.getD_eq_getElem?_getD,hi]
structure Small (e:En):Prop where
 list:e.list.length≤1048576
 scores:e.scores.length≤1048576
 fields:e.fields.length≤1048576
end Go.Proofs.YtjdmiodinhlchaaGreat.Code

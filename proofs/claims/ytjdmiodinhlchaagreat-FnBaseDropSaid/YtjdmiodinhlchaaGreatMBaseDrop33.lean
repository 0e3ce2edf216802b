/- Lemmas (several texts in one). -/
import Derived.Test.YtjdmiodinhlchaaGreatMBaseDrop4
import Derived.Test.YtjdmiodinhlchaaGreatMBaseDrop29
import Derived.Test.YtjdmiodinhlchaaGreatMBaseDrop32
set_option maxRecDepth 100000
set_option maxHeartbeats 2000000
set_option linter.unusedSimpArgs false
set_option linter.unusedVariables false
namespace Go.Proofs.YtjdmiodinhlchaaGreat.Code
open Go Go.Ev Go.Proofs
namespace fnBaseDrop
theorem answers (a:Option Addr) (len cap:Nat) (zs:List Int) (w:World) (h:Bkp .u8 w a len cap zs):Calls Tryz.prog 5 #[.slice a len cap] w fun e w'=>e= .returned (.bool true)∧RowKit.Below w.heap.size w w':=by
 have hz: ∀i,0≤(zs.take len).getD i 0∧(zs.take len).getD i 0≤255:=Bjk h
 refine Bdy Btm (xs:=[Mt (zs.take len)]) (e_5 [] _ hz) (Bp3 rfl) rfl fun j hj=> ?_
 match j,hj with
 |0,_=>exact Bml h
end fnBaseDrop
end Go.Proofs.YtjdmiodinhlchaaGreat.Code

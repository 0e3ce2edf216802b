/- Lemmas (several texts in one). -/
import Derived.Test.YtjdmiodinhlchaaGreatMBasePut4
import Derived.Test.YtjdmiodinhlchaaGreatMBasePut32
import Derived.Test.YtjdmiodinhlchaaGreatMBasePut35
set_option maxRecDepth 100000
set_option maxHeartbeats 2000000
set_option linter.unusedSimpArgs false
set_option linter.unusedVariables false
namespace Go.Proofs.YtjdmiodinhlchaaGreat.Code
open Go Go.Ev Go.Proofs
namespace fnBasePut
theorem answers (a:Option Addr) (len cap:Nat) (zs:List Int) (w:World) (h:Bp5 .u8 w a len cap zs):Calls Tryz.prog 6 #[.slice a len cap] w fun e w'=>e= .returned (.bool true)∧RowKit.Below w.heap.size w w':=by
 have hz: ∀i,0≤(zs.take len).getD i 0∧(zs.take len).getD i 0≤255:=Boz h
 refine Bi7 Bzs (xs:=[Rz (zs.take len)]) (e_6 [] _ hz) (Bvv rfl) rfl fun j hj=> ?_
 match j,hj with
 |0,_=>exact Br5 h
end fnBasePut
end Go.Proofs.YtjdmiodinhlchaaGreat.Code

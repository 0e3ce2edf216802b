/- Lemmas (several texts in one). -/
import Derived.Test.YtpajcoanfkeibaaGreatDoorMDoRename4
import Derived.Test.YtpajcoanfkeibaaGreatDoorMDoRename5
import Derived.Test.YtpajcoanfkeibaaGreatDoorMDoRename33
import Derived.Test.YtpajcoanfkeibaaGreatDoorMDoRename36
import Derived.SliceStrings
set_option maxRecDepth 100000
set_option linter.unusedSimpArgs false
set_option linter.unusedVariables false
set_option maxHeartbeats 2000000
namespace Go.Proofs.YtpajcoanfkeibaaGreatDoor.Code
open Go Go.Ev Go.Proofs
theorem B0y {P:Program} {W W':World} {n:String} {cs:Array Value} (h:W.var? P n=some cs) (hb:RowKit.Below W.heap.size W W'):W'.var? P n=some cs:=by
 unfold World.var? at h⊢
 cases hg:P.globalNamed n with
 |none=>rw[hg] at h;simp at h
 |some g=>
  rw[hg] at h
  simp only[Option.bind_some] at h⊢
  by_cases hl:g<W.heap.size
  ·rw[hb.block g hl];exact h
  ·rw[Array.getElem?_eq_none (by omega)] at h;simp at h
namespace fnDoRename
theorem answers (a:Option Addr) (len cap:Nat) (zs:List Int) (w:World) (h:Bqo .u8 w a len cap zs) (hG:GR Bgz w (fun _=>False)):Calls Tryz.prog 4 #[.slice a len cap] w fun e w'=>e= .returned (.bool true)∧RowKit.Below w.heap.size w w':=by
 have hz: ∀i,0≤(zs.take len).getD i 0∧(zs.take len).getD i 0≤255:=Bpf h
 refine Bjk Bz3 (xs:=[Sb (zs.take len)]) (e_4 [] _ hz) hG rfl fun j hj=> ?_
 match j,hj with
 |0,_=>exact Bsl h
end fnDoRename
end Go.Proofs.YtpajcoanfkeibaaGreatDoor.Code

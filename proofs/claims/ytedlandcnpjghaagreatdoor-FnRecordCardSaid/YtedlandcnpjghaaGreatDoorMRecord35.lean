/- Lemmas (several texts in one). -/
import Derived.Test.YtedlandcnpjghaaGreatDoorMRecord4
import Derived.Test.YtedlandcnpjghaaGreatDoorMRecord32
import Derived.Test.YtedlandcnpjghaaGreatDoorMRecord34
set_option maxRecDepth 100000
set_option maxHeartbeats 2000000
set_option linter.unusedSimpArgs false
set_option linter.unusedVariables false
namespace Go.Proofs.YtedlandcnpjghaaGreatDoor.Code
open Go Go.Ev Go.Proofs
theorem B0m {P:Program} {w:World} {name:String} {g t:Nat} {a:Addr} {v:Value} (hn:P.globalNamed name=some g) (h:w.var? P name=some #[.iface t (.pointer (some a))]) (hc:w.cell? a=some v):
  RD w (fun _=>False) (.rptr [.iface t (.rptr [])]) (.pointer (some ⟨g,0,none⟩))∧∃arr ty fr,w.heap[g]? =some (.cells arr ty fr)∧arr.size=1:=by
 unfold World.var? at h
 rw[hn] at h
 simp only[Option.bind_some] at h
 split at h
 ·rename_i cs ty fr hh
  simp only[Option.some.injEq] at h
  subst h
  obtain⟨hsp,hb⟩:=Bdm hc
  obtain⟨b,o,sp⟩:=a
  simp only at hsp hb
  subst hsp
  refine⟨.rptr _ g 0 (fun j=> .iface t (.pointer (some ⟨b,o,none⟩))) (fun h=>h) (Array.getElem?_eq_some_iff.1 hh).1 (fun j hj=> ?_) (fun j hj=>rfl) (fun j hj=> ?_),_,_,_,hh,rfl⟩
  ·obtain rfl:j=0:=by simpa using hj
   simp[World.cell?,hh]
  ·obtain rfl:j=0:=by simpa using hj
   exact .iface _ _ _ (.rptr [] b o (fun _=>undef) (fun h=>h) hb (fun j hj=>by simp at hj) (fun j hj=>by simp at hj) (fun j hj=>by simp at hj))
 ·simp at h
namespace fnRecord
theorem answers (a:Option Addr) (len cap:Nat) (zs:List Int) (a':Option Addr) (len' cap':Nat) (zs':List Int) (w:World) (h:Bl8 .u8 w a len cap zs) (h':Bl8 .u8 w a' len' cap' zs') (hG:GR Zv w (fun _=>False)):Calls Tryz.prog 3 #[.slice a len cap, .slice a' len' cap'] w fun e w'=>e= .returned (.bool true)∧RowKit.Below w.heap.size w w':=by
 have hz: ∀i,0≤(zs.take len).getD i 0∧(zs.take len).getD i 0≤255:=Bo9 h
 refine Bjx By7 (xs:=[Pb (zs.take len),Pb (zs'.take len')]) (e_3 [] _ _ hz) hG rfl fun j hj=> ?_
 match j,hj with
 |0,_=>exact Bim h
 |1,_=>exact Bim h'
end fnRecord
end Go.Proofs.YtedlandcnpjghaaGreatDoor.Code

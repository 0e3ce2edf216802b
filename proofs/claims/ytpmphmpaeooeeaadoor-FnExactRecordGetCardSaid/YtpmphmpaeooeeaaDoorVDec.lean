/- Numbers written out, in the draws. -/
import Derived.Test.YtpmphmpaeooeeaaDoorVDraw
namespace Go.Proofs.YtpmphmpaeooeeaaDoor.Code
open Go Go.Ev Go.Proofs
set_option maxRecDepth 100000
set_option linter.unusedSimpArgs false
set_option linter.unusedVariables false
def decV (n : Nat) : Txt := if h : n < 10 then [UInt8.ofNat (48 + n)] else decV (n / 10) ++ [UInt8.ofNat (48 + n % 10)]
termination_by n
decreasing_by omega
theorem decV_len (n : Nat) : (decV n).length ≤ n + 1 := by
  induction n using Nat.strongRecOn with
  | _ n ih =>
    rw [decV]
    split
    · simp
    · have := ih (n / 10) (by omega)
      rw [List.length_append]
      simp only [List.length_singleton]
      omega
end Go.Proofs.YtpmphmpaeooeeaaDoor.Code

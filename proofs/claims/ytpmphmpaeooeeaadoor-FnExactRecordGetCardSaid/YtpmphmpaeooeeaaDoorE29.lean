/- Words for rows behind a reader. -/
import Derived.Test.YtpmphmpaeooeeaaDoorE28
namespace Go.Ev
open Go
set_option linter.unusedSimpArgs false
set_option linter.unusedVariables false

theorem hset_push_lt {H : Hp} {r : Nat} {o o' : Obj} (h : r < hlen H) : hset (hpush H o) r o' = hpush (hset H r o') o := by
  induction H generalizing r with
  | nil => simp [hlen] at h
  | cons a H ih =>
    cases r with
    | zero => rfl
    | succ r => exact congrArg (List.cons a) (ih (by simp [hlen] at h ⊢; omega))
theorem hset_hset (H : Hp) (r : Nat) (o o' : Obj) : hset (hset H r o) r o' = hset H r o' := by
  induction H generalizing r with
  | nil => rfl
  | cons a H ih =>
    cases r with
    | zero => rfl
    | succ r => exact congrArg (List.cons a) (ih r)
end Go.Ev

/- What FnExactListAt answers. -/
import Derived.Test.YtpmphmpaeooeeaaDoorVList
import Derived.Test.YtpmphmpaeooeeaaDoorE28
namespace Go.Proofs.YtpmphmpaeooeeaaDoor.Code
open Go Go.Ev Go.Proofs
set_option maxRecDepth 100000
set_option linter.unusedSimpArgs false
set_option linter.unusedVariables false
theorem e37_same (H : Hp) (xs : List Txt) (hx : xs.length ≤ 9223372036854775807) : ev R 37 [.d (txts xs), .d (txts xs)] H = some (.d (.bool true), H) := by
  refine ev_fn (fn := f37) rfl rfl ?_
  obtain ⟨e', he, h1⟩ := l37 (hlen H) xs hx xs rfl H xs.length 0 [(0, .d (txts xs)), (1, .d (txts xs)), (5, .d (.int .i64 0))] (by omega) rfl rfl rfl
  have hr : seek (differ xs xs) xs.length 0 = none := by
    cases hr : seek (differ xs xs) xs.length 0 with
    | none => rfl
    | some j =>
      have := (seek_some hr).2.2.1
      simp [differ] at this
  simp only [hr] at he
  simp [-List.getD_eq_getElem?_getD, -List.map_map, evBody, evCode, evOps, evOper, evOp, opd, Env.get, Env.put, Env.keep, zipEnv, V.ok, V.sto, V.cells, D.cells, V.isAgg, binD, binInt, binStr, shInt, unD, eqOf, asI, leave, resOf, mapO, fzV, tupOf, view, view1, isData, hand, flatV, flatD, allD, mkAgg, mkVal, beq_lit, IntKind.bits, htake_self, htake_push, hget_hpush_self, hset_push, rowOf_self, okIn, lowIn, lowIn1, fzC_d, fzC_row, f37, he]
/-- What is left of a sum, the texts' letters taken off one after another; -1 if too little. -/
def spend (xs : List Txt) : Nat → Nat → Int → Int
  | 0, _, l => l
  | n + 1, i, l => if l - (xs.getD i []).length < 0 then -1 else spend xs n (i + 1) (l - (xs.getD i []).length)
def left (xs : List Txt) : Int := if 1048576 - (xs.length : Int) < 0 then -1 else (if spend xs xs.length 0 (1048576 - xs.length) < 0 then -1 else spend xs xs.length 0 (1048576 - xs.length))
namespace fnExactListAt
end fnExactListAt
end Go.Proofs.YtpmphmpaeooeeaaDoor.Code

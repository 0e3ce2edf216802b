/- Lists of texts: their copies, their likeness, where a text stands. -/
import Derived.Test.YtpmphmpaeooeeaaDoorC
import Derived.Test.YtpmphmpaeooeeaaDoorE27
namespace Go.Proofs.YtpmphmpaeooeeaaDoor.Code
open Go Go.Ev Go.Proofs
set_option maxRecDepth 100000
set_option linter.unusedSimpArgs false
set_option linter.unusedVariables false
/-- Few enough, each short enough. -/
def long (xs : List Txt) (i : Nat) : Bool := decide (40 < (xs.getD i []).length)
def okTexts (xs : List Txt) : Bool := (seek (long xs) xs.length 0).isNone && decide (xs.length ≤ 16)
/-- Where a text stands. -/
def isAt (t : Txt) (xs : List Txt) (i : Nat) : Bool := decide (xs.getD i [] = t)
/-- The first place of a text. -/
def placeOf (xs : List Txt) (t : Txt) : Int := if okTexts xs = true then (match seek (isAt t xs) xs.length 0 with | some j => (j : Int) | none => -1) else -1
def differ (xs ys : List Txt) (i : Nat) : Bool := decide (¬ xs.getD i [] = ys.getD i [])
theorem l37 (n0 : Nat) (xs : List Txt) (hx : xs.length ≤ 9223372036854775807) (ys : List Txt) (hy : ys.length = xs.length) (H : Hp) : ∀ (n i : Nat) (e : Env), i + n = xs.length → e.get 0 = .d (txts xs) → e.get 1 = .d (txts ys) → e.get 5 = .d (.int .i64 i) →
    ∃ e', evLoop (evCode (ev R) R.glob n0 evLoop f37l0) [0, 1, 5] ⟨e, H⟩ = some ((match seek (differ xs ys) n i with | some _ => .ret | none => .exit 0), ⟨e', H⟩) ∧
      (∀ j, seek (differ xs ys) n i = some j → e'.get 4 = .d (.bool false))
  | 0, i, e, hn, h0, h1, h5 => by
    have c : ¬ (i : Int) < (xs.length : Int) := by omega
    have c' : ¬ i < xs.length := by omega
    have gy : i < ys.length → (ys.map D.str).getD i .nilp = .str (ys.getD i []) := fun h => txts_get ys i h
    rw [evLoop_eq]
    refine ⟨?_, ?_, ?_⟩
    rotate_left
    · simp [-List.getD_eq_getElem?_getD, -List.map_map, evBody, evCode, evOps, evOper, evOp, opd, Env.get, Env.put, Env.keep, zipEnv, V.ok, V.sto, V.cells, D.cells, V.isAgg, binD, binInt, binStr, shInt, unD, eqOf, asI, leave, resOf, mapO, fzV, tupOf, view, view1, isData, hand, flatV, flatD, allD, mkAgg, mkVal, beq_lit, IntKind.bits, htake_self, htake_push, hget_hpush_self, hset_push, rowOf_self, okIn, lowIn, lowIn1, fzC_d, fzC_row, f37l0, h0, h1, h5, txts, c, c', seek, hy, gy]
      rfl
    · intro j hj; simp [seek] at hj
  | n + 1, i, e, hn, h0, h1, h5 => by
    have c : (i : Int) < (xs.length : Int) := by omega
    have c' : i < xs.length := by omega
    have g := txts_get xs i c'
    have w1 : IntKind.i64.wrap ((i : Int) + 1) = ((i + 1 : Nat) : Int) := by rw [IntWalk.i64_in _ (by omega)]; rfl
    have gy : i < ys.length → (ys.map D.str).getD i .nilp = .str (ys.getD i []) := fun h => txts_get ys i h
    have ih := l37 n0 xs hx ys hy H n (i + 1)
    rw [evLoop_eq]
    generalize evLoop (evCode (ev R) R.glob n0 evLoop f37l0) [0, 1, 5] = F at ih ⊢
    by_cases hb : ¬ xs.getD i [] = ys.getD i []
    · skip
      refine ⟨?_, ?_, ?_⟩
      rotate_left
      · simp [-List.getD_eq_getElem?_getD, -List.map_map, evBody, evCode, evOps, evOper, evOp, opd, Env.get, Env.put, Env.keep, zipEnv, V.ok, V.sto, V.cells, D.cells, V.isAgg, binD, binInt, binStr, shInt, unD, eqOf, asI, leave, resOf, mapO, fzV, tupOf, view, view1, isData, hand, flatV, flatD, allD, mkAgg, mkVal, beq_lit, IntKind.bits, htake_self, htake_push, hget_hpush_self, hset_push, rowOf_self, okIn, lowIn, lowIn1, fzC_d, fzC_row, f37l0, h0, h1, h5, txts, c, c', g, seek, differ, hb, hy, gy]
        rfl
      · intro j hj
        simp [seek, differ, hb, -List.getD_eq_getElem?_getD] at hj
        try subst hj
        simp [-List.getD_eq_getElem?_getD, -List.map_map, evBody, evCode, evOps, evOper, evOp, opd, Env.get, Env.put, Env.keep, zipEnv, V.ok, V.sto, V.cells, D.cells, V.isAgg, binD, binInt, binStr, shInt, unD, eqOf, asI, leave, resOf, mapO, fzV, tupOf, view, view1, isData, hand, flatV, flatD, allD, mkAgg, mkVal, beq_lit, IntKind.bits, htake_self, htake_push, hget_hpush_self, hset_push, rowOf_self, okIn, lowIn, lowIn1, fzC_d, fzC_row]
    · rw [Classical.not_not] at hb
      have hs : seek (differ xs ys) (n + 1) i = seek (differ xs ys) n (i + 1) := by simp [seek, differ, hb, -List.getD_eq_getElem?_getD]
      rw [hs]
      simp [-List.getD_eq_getElem?_getD, -List.map_map, evBody, evCode, evOps, evOper, evOp, opd, Env.get, Env.put, Env.keep, zipEnv, V.ok, V.sto, V.cells, D.cells, V.isAgg, binD, binInt, binStr, shInt, unD, eqOf, asI, leave, resOf, mapO, fzV, tupOf, view, view1, isData, hand, flatV, flatD, allD, mkAgg, mkVal, beq_lit, IntKind.bits, htake_self, htake_push, hget_hpush_self, hset_push, rowOf_self, okIn, lowIn, lowIn1, fzC_d, fzC_row, f37l0, h0, h1, h5, txts, c, c', g, w1, hb, hy, gy]
      refine ih _ (by omega) ?_ ?_ ?_ <;> rfl
end Go.Proofs.YtpmphmpaeooeeaaDoor.Code

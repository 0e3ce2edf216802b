/- Lists of texts: their copies, their likeness, where a text stands. -/
import Derived.Test.YtpmphmpaeooeeaaDoorC
import Derived.Test.YtpmphmpaeooeeaaDoorE27
namespace Go.Proofs.YtpmphmpaeooeeaaDoor.Code
open Go Go.Ev Go.Proofs
set_option maxRecDepth 100000
set_option linter.unusedSimpArgs false
set_option linter.unusedVariables false
/-- Few enough, each short enough. -/
def long (xs : List Txt) (i : Nat) : Bool := decide (40 < (xs.getD i []).length)
def okTexts (xs : List Txt) : Bool := (seek (long xs) xs.length 0).isNone && decide (xs.length ≤ 16)
theorem l66 (n0 : Nat) (xs : List Txt) (hx : xs.length ≤ 9223372036854775807) (m : Int) (H : Hp) : ∀ (n i : Nat) (e : Env), i + n = xs.length → e.get 0 = .d (txts xs) → e.get 1 = .d (.int .i64 m) → e.get 7 = .d (txts xs) → e.get 8 = .d (.int .i64 xs.length) → e.get 9 = .d (.int .i64 i) →
    ∃ e', evLoop (evCode (ev R) R.glob n0 evLoop f66l0) [0, 1, 7, 8, 9] ⟨e, H⟩ = some ((match seek (long xs) n i with | some _ => .ret | none => .exit 0), ⟨e', H⟩) ∧
      (∀ j, seek (long xs) n i = some j → e'.get 4 = .d (.bool false)) ∧ (seek (long xs) n i = none → e'.get 0 = .d (txts xs) ∧ e'.get 1 = .d (.int .i64 m))
  | 0, i, e, hn, h0, h1, h7, h8, h9 => by
    have c : ¬ (i : Int) < (xs.length : Int) := by omega
    have c' : ¬ i < xs.length := by omega
    rw [evLoop_eq]
    refine ⟨?_, ?_, ?_, ?_⟩
    rotate_left
    · simp [-List.getD_eq_getElem?_getD, -List.map_map, evBody, evCode, evOps, evOper, evOp, opd, Env.get, Env.put, Env.keep, zipEnv, V.ok, V.sto, V.cells, D.cells, V.isAgg, binD, binInt, binStr, shInt, unD, eqOf, asI, leave, resOf, mapO, fzV, tupOf, view, view1, isData, hand, flatV, flatD, allD, mkAgg, mkVal, beq_lit, IntKind.bits, htake_self, htake_push, hget_hpush_self, hset_push, rowOf_self, okIn, lowIn, lowIn1, fzC_d, fzC_row, f66l0, h0, h1, h7, h8, h9, txts, c, c', seek]
      rfl
    · intro j hj; simp [seek] at hj
    · intro _
      try refine ⟨?_, ?_⟩
      all_goals (first | trivial | simp [-List.getD_eq_getElem?_getD, -List.map_map, evBody, evCode, evOps, evOper, evOp, opd, Env.get, Env.put, Env.keep, zipEnv, V.ok, V.sto, V.cells, D.cells, V.isAgg, binD, binInt, binStr, shInt, unD, eqOf, asI, leave, resOf, mapO, fzV, tupOf, view, view1, isData, hand, flatV, flatD, allD, mkAgg, mkVal, beq_lit, IntKind.bits, htake_self, htake_push, hget_hpush_self, hset_push, rowOf_self, okIn, lowIn, lowIn1, fzC_d, fzC_row, h0, h1, h7, h8, h9, txts])
  | n + 1, i, e, hn, h0, h1, h7, h8, h9 => by
    have c : (i : Int) < (xs.length : Int) := by omega
    have c' : i < xs.length := by omega
    have g := txts_get xs i c'
    have w1 : IntKind.i64.wrap ((i : Int) + 1) = ((i + 1 : Nat) : Int) := by rw [IntWalk.i64_in _ (by omega)]; rfl
    have ih := l66 n0 xs hx m H n (i + 1)
    rw [evLoop_eq]
    generalize evLoop (evCode (ev R) R.glob n0 evLoop f66l0) [0, 1, 7, 8, 9] = F at ih ⊢
    by_cases hb : 40 < (xs.getD i []).length
    · have hb' : (40 : Int) < ((xs.getD i []).length : Int) := by omega
      refine ⟨?_, ?_, ?_, ?_⟩
      rotate_left
      · simp [-List.getD_eq_getElem?_getD, -List.map_map, evBody, evCode, evOps, evOper, evOp, opd, Env.get, Env.put, Env.keep, zipEnv, V.ok, V.sto, V.cells, D.cells, V.isAgg, binD, binInt, binStr, shInt, unD, eqOf, asI, leave, resOf, mapO, fzV, tupOf, view, view1, isData, hand, flatV, flatD, allD, mkAgg, mkVal, beq_lit, IntKind.bits, htake_self, htake_push, hget_hpush_self, hset_push, rowOf_self, okIn, lowIn, lowIn1, fzC_d, fzC_row, f66l0, h0, h1, h7, h8, h9, txts, c, c', g, hb, hb', seek, long]
        rfl
      · intro j hj
        simp [seek, long, hb, -List.getD_eq_getElem?_getD] at hj
        try subst hj
        simp [-List.getD_eq_getElem?_getD, -List.map_map, evBody, evCode, evOps, evOper, evOp, opd, Env.get, Env.put, Env.keep, zipEnv, V.ok, V.sto, V.cells, D.cells, V.isAgg, binD, binInt, binStr, shInt, unD, eqOf, asI, leave, resOf, mapO, fzV, tupOf, view, view1, isData, hand, flatV, flatD, allD, mkAgg, mkVal, beq_lit, IntKind.bits, htake_self, htake_push, hget_hpush_self, hset_push, rowOf_self, okIn, lowIn, lowIn1, fzC_d, fzC_row]
      · intro hj; simp [seek, long, hb, -List.getD_eq_getElem?_getD] at hj
    · have hb' : ¬ (40 : Int) < ((xs.getD i []).length : Int) := by omega
      have hs : seek (long xs) (n + 1) i = seek (long xs) n (i + 1) := by simp [seek, long, hb, -List.getD_eq_getElem?_getD]
      rw [hs]
      simp [-List.getD_eq_getElem?_getD, -List.map_map, evBody, evCode, evOps, evOper, evOp, opd, Env.get, Env.put, Env.keep, zipEnv, V.ok, V.sto, V.cells, D.cells, V.isAgg, binD, binInt, binStr, shInt, unD, eqOf, asI, leave, resOf, mapO, fzV, tupOf, view, view1, isData, hand, flatV, flatD, allD, mkAgg, mkVal, beq_lit, IntKind.bits, htake_self, htake_push, hget_hpush_self, hset_push, rowOf_self, okIn, lowIn, lowIn1, fzC_d, fzC_row, f66l0, h0, h1, h7, h8, h9, txts, c, c', g, hb, hb', w1]
      refine ih _ (by omega) ?_ ?_ ?_ ?_ ?_ <;> rfl
/-- Where a text stands. -/
def isAt (t : Txt) (xs : List Txt) (i : Nat) : Bool := decide (xs.getD i [] = t)
/-- The first place of a text. -/
def placeOf (xs : List Txt) (t : Txt) : Int := if okTexts xs = true then (match seek (isAt t xs) xs.length 0 with | some j => (j : Int) | none => -1) else -1
theorem e66 (H : Hp) (xs : List Txt) (hx : xs.length ≤ 9223372036854775807) : ev R 66 [.d (txts xs), .d (.int .i64 16)] H = some (.d (.bool (okTexts xs)), H) := by
  refine ev_fn (fn := f66) rfl rfl ?_
  obtain ⟨e', he, h1, h2⟩ := l66 (hlen H) xs hx 16 H xs.length 0 [(0, .d (txts xs)), (1, .d (.int .i64 16)), (7, .d (txts xs)), (8, .d (.int .i64 xs.length)), (9, .d (.int .i64 0))] (by omega) rfl rfl rfl rfl rfl
  cases hr : seek (long xs) xs.length 0 with
  | some j =>
    simp only [hr] at he
    simp [-List.getD_eq_getElem?_getD, -List.map_map, evBody, evCode, evOps, evOper, evOp, opd, Env.get, Env.put, Env.keep, zipEnv, V.ok, V.sto, V.cells, D.cells, V.isAgg, binD, binInt, binStr, shInt, unD, eqOf, asI, leave, resOf, mapO, fzV, tupOf, view, view1, isData, hand, flatV, flatD, allD, mkAgg, mkVal, beq_lit, IntKind.bits, htake_self, htake_push, hget_hpush_self, hset_push, rowOf_self, okIn, lowIn, lowIn1, fzC_d, fzC_row, f66, he, h1 j hr, okTexts, hr]
  | none =>
    simp only [hr] at he
    obtain ⟨h3, h4⟩ := h2 hr
    simp [-List.getD_eq_getElem?_getD, -List.map_map, evBody, evCode, evOps, evOper, evOp, opd, Env.get, Env.put, Env.keep, zipEnv, V.ok, V.sto, V.cells, D.cells, V.isAgg, binD, binInt, binStr, shInt, unD, eqOf, asI, leave, resOf, mapO, fzV, tupOf, view, view1, isData, hand, flatV, flatD, allD, mkAgg, mkVal, beq_lit, IntKind.bits, htake_self, htake_push, hget_hpush_self, hset_push, rowOf_self, okIn, lowIn, lowIn1, fzC_d, fzC_row, f66, he, h3, h4, okTexts, hr, txts]
    omega
/-- A copy. -/
theorem l33 (n0 : Nat) (xs : List Txt) (hx : xs.length ≤ 9223372036854775807) (H : Hp) : ∀ (n i : Nat) (e : Env), i + n = xs.length → e.get 0 = .d (txts xs) → e.get 3 = .slc (hlen H) 0 0 xs.length → e.get 4 = .d (.int .i64 i) →
    ∃ e', evLoop (evCode (ev R) R.glob n0 evLoop f33l0) [0, 3, 4] ⟨e, hpush H (.row 0 1 (filled xs i))⟩ = some (.exit 0, ⟨e', hpush H (.row 0 1 ((xs.map D.str).map V.d))⟩) ∧ e'.get 3 = .slc (hlen H) 0 0 xs.length
  | 0, i, e, hn, h0, h3, h4 => by
    have c : ¬ (i : Int) < (xs.length : Int) := by omega
    have c' : ¬ i < xs.length := by omega
    have hi : i = xs.length := by omega
    rw [← filled_all, evLoop_eq]
    refine ⟨?_, ?_, ?_⟩
    rotate_left
    · simp [-List.getD_eq_getElem?_getD, -List.map_map, evBody, evCode, evOps, evOper, evOp, opd, Env.get, Env.put, Env.keep, zipEnv, V.ok, V.sto, V.cells, D.cells, V.isAgg, binD, binInt, binStr, shInt, unD, eqOf, asI, leave, resOf, mapO, fzV, tupOf, view, view1, isData, hand, flatV, flatD, allD, mkAgg, mkVal, beq_lit, IntKind.bits, htake_self, htake_push, hget_hpush_self, hset_push, rowOf_self, okIn, lowIn, lowIn1, fzC_d, fzC_row, f33l0, h0, h3, h4, txts, c, c', hi]
      rfl
    · simp [-List.getD_eq_getElem?_getD, -List.map_map, evBody, evCode, evOps, evOper, evOp, opd, Env.get, Env.put, Env.keep, zipEnv, V.ok, V.sto, V.cells, D.cells, V.isAgg, binD, binInt, binStr, shInt, unD, eqOf, asI, leave, resOf, mapO, fzV, tupOf, view, view1, isData, hand, flatV, flatD, allD, mkAgg, mkVal, beq_lit, IntKind.bits, htake_self, htake_push, hget_hpush_self, hset_push, rowOf_self, okIn, lowIn, lowIn1, fzC_d, fzC_row, h3]
  | n + 1, i, e, hn, h0, h3, h4 => by
    have c : (i : Int) < (xs.length : Int) := by omega
    have c' : i < xs.length := by omega
    have g := txts_get xs i c'
    have w1 : IntKind.i64.wrap ((i : Int) + 1) = ((i + 1 : Nat) : Int) := by rw [IntWalk.i64_in _ (by omega)]; rfl
    have st := filled_store H xs i c'
    have ih := l33 n0 xs hx H n (i + 1)
    rw [evLoop_eq]
    generalize evLoop (evCode (ev R) R.glob n0 evLoop f33l0) [0, 3, 4] = F at ih ⊢
    simp [-List.getD_eq_getElem?_getD, -List.map_map, evBody, evCode, evOps, evOper, evOp, opd, Env.get, Env.put, Env.keep, zipEnv, V.ok, V.sto, V.cells, D.cells, V.isAgg, binD, binInt, binStr, shInt, unD, eqOf, asI, leave, resOf, mapO, fzV, tupOf, view, view1, isData, hand, flatV, flatD, allD, mkAgg, mkVal, beq_lit, IntKind.bits, htake_self, htake_push, hget_hpush_self, hset_push, rowOf_self, okIn, lowIn, lowIn1, fzC_d, fzC_row, f33l0, h0, h3, h4, txts, c, c', g, w1, st]
    refine ih _ (by omega) ?_ ?_ ?_ <;> rfl
theorem e33 (H : Hp) (xs : List Txt) (hx : (xs.length : Int) * 16 ≤ 140737488355328) : ev R 33 [.d (txts xs)] H = some (.d (txts xs), H) := by
  refine ev_fn (fn := f33) rfl rfl ?_
  obtain ⟨e', he, h3⟩ := l33 (hlen H) xs (by omega) H xs.length 0 [(0, .d (txts xs)), (3, .slc (hlen H) 0 0 xs.length), (4, .d (.int .i64 0))] (by omega) rfl rfl rfl
  rw [filled_zero] at he
  have r : (xs.length : Int) * 16 ≤ (room : Int) := hx
  simp [-List.getD_eq_getElem?_getD, -List.map_map, evBody, evCode, evOps, evOper, evOp, opd, Env.get, Env.put, Env.keep, zipEnv, V.ok, V.sto, V.cells, D.cells, V.isAgg, binD, binInt, binStr, shInt, unD, eqOf, asI, leave, resOf, mapO, fzV, tupOf, view, view1, isData, hand, flatV, flatD, allD, mkAgg, mkVal, beq_lit, IntKind.bits, htake_self, htake_push, hget_hpush_self, hset_push, rowOf_self, okIn, lowIn, lowIn1, fzC_d, fzC_row, f33, he, h3, r, txts]
def differ (xs ys : List Txt) (i : Nat) : Bool := decide (¬ xs.getD i [] = ys.getD i [])
theorem l37 (n0 : Nat) (xs : List Txt) (hx : xs.length ≤ 9223372036854775807) (ys : List Txt) (hy : ys.length = xs.length) (H : Hp) : ∀ (n i : Nat) (e : Env), i + n = xs.length → e.get 0 = .d (txts xs) → e.get 1 = .d (txts ys) → e.get 5 = .d (.int .i64 i) →
    ∃ e', evLoop (evCode (ev R) R.glob n0 evLoop f37l0) [0, 1, 5] ⟨e, H⟩ = some ((match seek (differ xs ys) n i with | some _ => .ret | none => .exit 0), ⟨e', H⟩) ∧
      (∀ j, seek (differ xs ys) n i = some j → e'.get 4 = .d (.bool false))
  | 0, i, e, hn, h0, h1, h5 => by
    have c : ¬ (i : Int) < (xs.length : Int) := by omega
    have c' : ¬ i < xs.length := by omega
    have gy : i < ys.length → (ys.map D.str).getD i .nilp = .str (ys.getD i []) := fun h => txts_get ys i h
    rw [evLoop_eq]
    refine ⟨?_, ?_, ?_⟩
    rotate_left
    · simp [-List.getD_eq_getElem?_getD, -List.map_map, evBody, evCode, evOps, evOper, evOp, opd, Env.get, Env.put, Env.keep, zipEnv, V.ok, V.sto, V.cells, D.cells, V.isAgg, binD, binInt, binStr, shInt, unD, eqOf, asI, leave, resOf, mapO, fzV, tupOf, view, view1, isData, hand, flatV, flatD, allD, mkAgg, mkVal, beq_lit, IntKind.bits, htake_self, htake_push, hget_hpush_self, hset_push, rowOf_self, okIn, lowIn, lowIn1, fzC_d, fzC_row, f37l0, h0, h1, h5, txts, c, c', seek, hy, gy]
      rfl
    · intro j hj; simp [seek] at hj
  | n + 1, i, e, hn, h0, h1, h5 => by
    have c : (i : Int) < (xs.length : Int) := by omega
    have c' : i < xs.length := by omega
    have g := txts_get xs i c'
    have w1 : IntKind.i64.wrap ((i : Int) + 1) = ((i + 1 : Nat) : Int) := by rw [IntWalk.i64_in _ (by omega)]; rfl
    have gy : i < ys.length → (ys.map D.str).getD i .nilp = .str (ys.getD i []) := fun h => txts_get ys i h
    have ih := l37 n0 xs hx ys hy H n (i + 1)
    rw [evLoop_eq]
    generalize evLoop (evCode (ev R) R.glob n0 evLoop f37l0) [0, 1, 5] = F at ih ⊢
    by_cases hb : ¬ xs.getD i [] = ys.getD i []
    · skip
      refine ⟨?_, ?_, ?_⟩
      rotate_left
      · simp [-List.getD_eq_getElem?_getD, -List.map_map, evBody, evCode, evOps, evOper, evOp, opd, Env.get, Env.put, Env.keep, zipEnv, V.ok, V.sto, V.cells, D.cells, V.isAgg, binD, binInt, binStr, shInt, unD, eqOf, asI, leave, resOf, mapO, fzV, tupOf, view, view1, isData, hand, flatV, flatD, allD, mkAgg, mkVal, beq_lit, IntKind.bits, htake_self, htake_push, hget_hpush_self, hset_push, rowOf_self, okIn, lowIn, lowIn1, fzC_d, fzC_row, f37l0, h0, h1, h5, txts, c, c', g, seek, differ, hb, hy, gy]
        rfl
      · intro j hj
        simp [seek, differ, hb, -List.getD_eq_getElem?_getD] at hj
        try subst hj
        simp [-List.getD_eq_getElem?_getD, -List.map_map, evBody, evCode, evOps, evOper, evOp, opd, Env.get, Env.put, Env.keep, zipEnv, V.ok, V.sto, V.cells, D.cells, V.isAgg, binD, binInt, binStr, shInt, unD, eqOf, asI, leave, resOf, mapO, fzV, tupOf, view, view1, isData, hand, flatV, flatD, allD, mkAgg, mkVal, beq_lit, IntKind.bits, htake_self, htake_push, hget_hpush_self, hset_push, rowOf_self, okIn, lowIn, lowIn1, fzC_d, fzC_row]
    · rw [Classical.not_not] at hb
      have hs : seek (differ xs ys) (n + 1) i = seek (differ xs ys) n (i + 1) := by simp [seek, differ, hb, -List.getD_eq_getElem?_getD]
      rw [hs]
      simp [-List.getD_eq_getElem?_getD, -List.map_map, evBody, evCode, evOps, evOper, evOp, opd, Env.get, Env.put, Env.keep, zipEnv, V.ok, V.sto, V.cells, D.cells, V.isAgg, binD, binInt, binStr, shInt, unD, eqOf, asI, leave, resOf, mapO, fzV, tupOf, view, view1, isData, hand, flatV, flatD, allD, mkAgg, mkVal, beq_lit, IntKind.bits, htake_self, htake_push, hget_hpush_self, hset_push, rowOf_self, okIn, lowIn, lowIn1, fzC_d, fzC_row, f37l0, h0, h1, h5, txts, c, c', g, w1, hb, hy, gy]
      refine ih _ (by omega) ?_ ?_ ?_ <;> rfl
end Go.Proofs.YtpmphmpaeooeeaaDoor.Code

/- What FnExactListAt answers. -/
import Derived.Test.YtpmphmpaeooeeaaDoorVList
import Derived.Test.YtpmphmpaeooeeaaDoorE28
namespace Go.Proofs.YtpmphmpaeooeeaaDoor.Code
open Go Go.Ev Go.Proofs
set_option maxRecDepth 100000
set_option linter.unusedSimpArgs false
set_option linter.unusedVariables false
theorem e37_same (H : Hp) (xs : List Txt) (hx : xs.length ≤ 9223372036854775807) : ev R 37 [.d (txts xs), .d (txts xs)] H = some (.d (.bool true), H) := by
  refine ev_fn (fn := f37) rfl rfl ?_
  obtain ⟨e', he, h1⟩ := l37 (hlen H) xs hx xs rfl H xs.length 0 [(0, .d (txts xs)), (1, .d (txts xs)), (5, .d (.int .i64 0))] (by omega) rfl rfl rfl
  have hr : seek (differ xs xs) xs.length 0 = none := by
    cases hr : seek (differ xs xs) xs.length 0 with
    | none => rfl
    | some j =>
      have := (seek_some hr).2.2.1
      simp [differ] at this
  simp only [hr] at he
  simp [-List.getD_eq_getElem?_getD, -List.map_map, evBody, evCode, evOps, evOper, evOp, opd, Env.get, Env.put, Env.keep, zipEnv, V.ok, V.sto, V.cells, D.cells, V.isAgg, binD, binInt, binStr, shInt, unD, eqOf, asI, leave, resOf, mapO, fzV, tupOf, view, view1, isData, hand, flatV, flatD, allD, mkAgg, mkVal, beq_lit, IntKind.bits, htake_self, htake_push, hget_hpush_self, hset_push, rowOf_self, okIn, lowIn, lowIn1, fzC_d, fzC_row, f37, he]
/-- What is left of a sum, the texts' letters taken off one after another; -1 if too little. -/
def spend (xs : List Txt) : Nat → Nat → Int → Int
  | 0, _, l => l
  | n + 1, i, l => if l - (xs.getD i []).length < 0 then -1 else spend xs n (i + 1) (l - (xs.getD i []).length)
theorem l29 (n0 : Nat) (xs : List Txt) (hx : xs.length ≤ 9223372036854775807) (hs : ∀ i, (xs.getD i []).length ≤ 9223372036854775807) (H : Hp) : ∀ (n i : Nat) (l : Int) (e : Env), i + n = xs.length → 0 ≤ l → l ≤ 1048576 → e.get 0 = .d (txts xs) → e.get 1 = .d (.int .i64 l) → e.get 5 = .d (.int .i64 i) →
    ∃ e', evLoop (evCode (ev R) R.glob n0 evLoop f29l0) [0, 1, 5] ⟨e, H⟩ = some ((if spend xs n i l < 0 then .ret else .exit 0), ⟨e', H⟩) ∧
      (spend xs n i l < 0 → e'.get 4 = .d (.int .i64 (-1))) ∧ (¬ spend xs n i l < 0 → e'.get 1 = .d (.int .i64 (spend xs n i l)))
  | 0, i, l, e, hn, hl, hl2, h0, h1, h5 => by
    have c : ¬ (i : Int) < (xs.length : Int) := by omega
    have c' : ¬ i < xs.length := by omega
    have c2 : ¬ l < 0 := by omega
    rw [evLoop_eq]
    refine ⟨?_, ?_, ?_, ?_⟩
    rotate_left
    · simp [-List.getD_eq_getElem?_getD, -List.map_map, evBody, evCode, evOps, evOper, evOp, opd, Env.get, Env.put, Env.keep, zipEnv, V.ok, V.sto, V.cells, D.cells, V.isAgg, binD, binInt, binStr, shInt, unD, eqOf, asI, leave, resOf, mapO, fzV, tupOf, view, view1, isData, hand, flatV, flatD, allD, mkAgg, mkVal, beq_lit, IntKind.bits, htake_self, htake_push, hget_hpush_self, hset_push, rowOf_self, okIn, lowIn, lowIn1, fzC_d, fzC_row, f29l0, h0, h1, h5, txts, c, c', spend, c2]
      rfl
    · intro hj; exact absurd hj c2
    · intro _
      simp [-List.getD_eq_getElem?_getD, -List.map_map, evBody, evCode, evOps, evOper, evOp, opd, Env.get, Env.put, Env.keep, zipEnv, V.ok, V.sto, V.cells, D.cells, V.isAgg, binD, binInt, binStr, shInt, unD, eqOf, asI, leave, resOf, mapO, fzV, tupOf, view, view1, isData, hand, flatV, flatD, allD, mkAgg, mkVal, beq_lit, IntKind.bits, htake_self, htake_push, hget_hpush_self, hset_push, rowOf_self, okIn, lowIn, lowIn1, fzC_d, fzC_row, h1, spend]
  | n + 1, i, l, e, hn, hl, hl2, h0, h1, h5 => by
    have c : (i : Int) < (xs.length : Int) := by omega
    have c' : i < xs.length := by omega
    have g := txts_get xs i c'
    have hsi := hs i
    have w1 : IntKind.i64.wrap ((i : Int) + 1) = ((i + 1 : Nat) : Int) := by rw [IntWalk.i64_in _ (by omega)]; rfl
    have w2 : IntKind.i64.wrap (l - ((xs.getD i []).length : Int)) = l - (xs.getD i []).length := IntWalk.i64_in _ (by omega)
    have ih := l29 n0 xs hx hs H n (i + 1) (l - (xs.getD i []).length)
    rw [evLoop_eq]
    generalize evLoop (evCode (ev R) R.glob n0 evLoop f29l0) [0, 1, 5] = F at ih ⊢
    by_cases hb : l - ((xs.getD i []).length : Int) < 0
    · have hs1 : spend xs (n + 1) i l = -1 := by simp only [spend, hb, if_true]
      rw [hs1]
      refine ⟨?_, ?_, ?_, ?_⟩
      rotate_left
      · simp [-List.getD_eq_getElem?_getD, -List.map_map, evBody, evCode, evOps, evOper, evOp, opd, Env.get, Env.put, Env.keep, zipEnv, V.ok, V.sto, V.cells, D.cells, V.isAgg, binD, binInt, binStr, shInt, unD, eqOf, asI, leave, resOf, mapO, fzV, tupOf, view, view1, isData, hand, flatV, flatD, allD, mkAgg, mkVal, beq_lit, IntKind.bits, htake_self, htake_push, hget_hpush_self, hset_push, rowOf_self, okIn, lowIn, lowIn1, fzC_d, fzC_row, f29l0, h0, h1, h5, txts, c, c', g, w2, hb]
        rfl
      · intro hj; simp [-List.getD_eq_getElem?_getD, -List.map_map, evBody, evCode, evOps, evOper, evOp, opd, Env.get, Env.put, Env.keep, zipEnv, V.ok, V.sto, V.cells, D.cells, V.isAgg, binD, binInt, binStr, shInt, unD, eqOf, asI, leave, resOf, mapO, fzV, tupOf, view, view1, isData, hand, flatV, flatD, allD, mkAgg, mkVal, beq_lit, IntKind.bits, htake_self, htake_push, hget_hpush_self, hset_push, rowOf_self, okIn, lowIn, lowIn1, fzC_d, fzC_row]
      · intro hj; omega
    · have hs1 : spend xs (n + 1) i l = spend xs n (i + 1) (l - (xs.getD i []).length) := by simp only [spend, hb, if_false]
      rw [hs1]
      generalize hz : spend xs n (i + 1) (l - (xs.getD i []).length) = z at ih ⊢
      simp [-List.getD_eq_getElem?_getD, -List.map_map, evBody, evCode, evOps, evOper, evOp, opd, Env.get, Env.put, Env.keep, zipEnv, V.ok, V.sto, V.cells, D.cells, V.isAgg, binD, binInt, binStr, shInt, unD, eqOf, asI, leave, resOf, mapO, fzV, tupOf, view, view1, isData, hand, flatV, flatD, allD, mkAgg, mkVal, beq_lit, IntKind.bits, htake_self, htake_push, hget_hpush_self, hset_push, rowOf_self, okIn, lowIn, lowIn1, fzC_d, fzC_row, f29l0, h0, h1, h5, txts, c, c', g, w1, w2, hb]
      have ih' := ih [(5, .d (.int .i64 ((i + 1 : Nat) : Int))), (17, .d (.int .i64 ((i + 1 : Nat) : Int))), (16, .d (.int .i64 i)), (0, .d (txts xs)), (1, .d (.int .i64 (l - (xs.getD i []).length))), (5, .d (.int .i64 i))] (by omega) (by omega) (by omega) rfl rfl rfl
      simpa [-List.getD_eq_getElem?_getD, -List.map_map] using ih'
def left (xs : List Txt) : Int := if 1048576 - (xs.length : Int) < 0 then -1 else (if spend xs xs.length 0 (1048576 - xs.length) < 0 then -1 else spend xs xs.length 0 (1048576 - xs.length))
theorem e29 (H : Hp) (xs : List Txt) (hx : xs.length ≤ 9223372036854775807) (hs : ∀ i, (xs.getD i []).length ≤ 9223372036854775807) : ev R 29 [.d (txts xs), .d (.int .i64 1048576)] H = some (.d (.int .i64 (left xs)), H) := by
  refine ev_fn (fn := f29) rfl rfl ?_
  have w : IntKind.i64.wrap (1048576 - (xs.length : Int)) = 1048576 - xs.length := IntWalk.i64_in _ (by omega)
  unfold left
  by_cases hb : 1048576 - (xs.length : Int) < 0
  · simp [-List.getD_eq_getElem?_getD, -List.map_map, evBody, evCode, evOps, evOper, evOp, opd, Env.get, Env.put, Env.keep, zipEnv, V.ok, V.sto, V.cells, D.cells, V.isAgg, binD, binInt, binStr, shInt, unD, eqOf, asI, leave, resOf, mapO, fzV, tupOf, view, view1, isData, hand, flatV, flatD, allD, mkAgg, mkVal, beq_lit, IntKind.bits, htake_self, htake_push, hget_hpush_self, hset_push, rowOf_self, okIn, lowIn, lowIn1, fzC_d, fzC_row, f29, txts, w, hb]
  · obtain ⟨e', he, h1, h2⟩ := l29 (hlen H) xs hx hs H xs.length 0 (1048576 - xs.length) [(0, .d (txts xs)), (1, .d (.int .i64 (1048576 - xs.length))), (5, .d (.int .i64 0))] (by omega) (by omega) (by omega) rfl rfl rfl
    generalize spend xs xs.length 0 (1048576 - xs.length) = z at he h1 h2 ⊢
    by_cases hz : z < 0
    · simp only [hz, if_true] at he
      simp [-List.getD_eq_getElem?_getD, -List.map_map, evBody, evCode, evOps, evOper, evOp, opd, Env.get, Env.put, Env.keep, zipEnv, V.ok, V.sto, V.cells, D.cells, V.isAgg, binD, binInt, binStr, shInt, unD, eqOf, asI, leave, resOf, mapO, fzV, tupOf, view, view1, isData, hand, flatV, flatD, allD, mkAgg, mkVal, beq_lit, IntKind.bits, htake_self, htake_push, hget_hpush_self, hset_push, rowOf_self, okIn, lowIn, lowIn1, fzC_d, fzC_row, f29, txts, w, hb, he, h1 hz, hz]
    · simp only [hz, if_false] at he
      simp [-List.getD_eq_getElem?_getD, -List.map_map, evBody, evCode, evOps, evOper, evOp, opd, Env.get, Env.put, Env.keep, zipEnv, V.ok, V.sto, V.cells, D.cells, V.isAgg, binD, binInt, binStr, shInt, unD, eqOf, asI, leave, resOf, mapO, fzV, tupOf, view, view1, isData, hand, flatV, flatD, allD, mkAgg, mkVal, beq_lit, IntKind.bits, htake_self, htake_push, hget_hpush_self, hset_push, rowOf_self, okIn, lowIn, lowIn1, fzC_d, fzC_row, f29, txts, w, hb, he, h2 hz, hz]
namespace fnExactListAt
end fnExactListAt
end Go.Proofs.YtpmphmpaeooeeaaDoor.Code

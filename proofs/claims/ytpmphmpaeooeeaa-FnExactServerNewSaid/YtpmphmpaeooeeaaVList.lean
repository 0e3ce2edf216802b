/- Lists of texts: their copies, their likeness, where a text stands. -/
import Derived.Test.YtpmphmpaeooeeaaC
import Derived.Test.YtpmphmpaeooeeaaE27
namespace Go.Proofs.Ytpmphmpaeooeeaa.Code
open Go Go.Ev Go.Proofs
set_option maxRecDepth 100000
set_option linter.unusedSimpArgs false
set_option linter.unusedVariables false
/-- Few enough, each short enough. -/
def long (xs : List Txt) (i : Nat) : Bool := decide (40 < (xs.getD i []).length)
def okTexts (xs : List Txt) : Bool := (seek (long xs) xs.length 0).isNone && decide (xs.length ≤ 16)
theorem l38 (n0 : Nat) (xs : List Txt) (hx : xs.length ≤ 9223372036854775807)  (H : Hp) : ∀ (n i : Nat) (e : Env), i + n = xs.length → e.get 0 = .d (txts xs) → e.get 3 = .d (.int .i64 i) →
    ∃ e', evLoop (evCode (ev R) R.glob n0 evLoop f38l0) [0, 3] ⟨e, H⟩ = some ((match seek (long xs) n i with | some _ => .ret | none => .exit 0), ⟨e', H⟩) ∧
      (∀ j, seek (long xs) n i = some j → e'.get 2 = .d (.bool false)) ∧ (seek (long xs) n i = none → e'.get 0 = .d (txts xs))
  | 0, i, e, hn, h0, h3 => by
    have c : ¬ (i : Int) < (xs.length : Int) := by omega
    have c' : ¬ i < xs.length := by omega
    rw [evLoop_eq]
    refine ⟨?_, ?_, ?_, ?_⟩
    rotate_left
    · simp [-List.getD_eq_getElem?_getD, -List.map_map, evBody, evCode, evOps, evOper, evOp, opd, Env.get, Env.put, Env.keep, zipEnv, V.ok, V.sto, V.cells, D.cells, V.isAgg, binD, binInt, binStr, shInt, unD, eqOf, asI, leave, resOf, mapO, fzV, tupOf, view, view1, isData, hand, flatV, flatD, allD, mkAgg, mkVal, beq_lit, IntKind.bits, htake_self, htake_push, hget_hpush_self, hset_push, rowOf_self, okIn, lowIn, lowIn1, fzC_d, fzC_row, f38l0, h0, h3, txts, c, c', seek]
      rfl
    · intro j hj; simp [seek] at hj
    · intro _
      try refine ⟨?_, ?_⟩
      all_goals (first | trivial | simp [-List.getD_eq_getElem?_getD, -List.map_map, evBody, evCode, evOps, evOper, evOp, opd, Env.get, Env.put, Env.keep, zipEnv, V.ok, V.sto, V.cells, D.cells, V.isAgg, binD, binInt, binStr, shInt, unD, eqOf, asI, leave, resOf, mapO, fzV, tupOf, view, view1, isData, hand, flatV, flatD, allD, mkAgg, mkVal, beq_lit, IntKind.bits, htake_self, htake_push, hget_hpush_self, hset_push, rowOf_self, okIn, lowIn, lowIn1, fzC_d, fzC_row, h0, h3, txts])
  | n + 1, i, e, hn, h0, h3 => by
    have c : (i : Int) < (xs.length : Int) := by omega
    have c' : i < xs.length := by omega
    have g := txts_get xs i c'
    have w1 : IntKind.i64.wrap ((i : Int) + 1) = ((i + 1 : Nat) : Int) := by rw [IntWalk.i64_in _ (by omega)]; rfl
    have ih := l38 n0 xs hx  H n (i + 1)
    rw [evLoop_eq]
    generalize evLoop (evCode (ev R) R.glob n0 evLoop f38l0) [0, 3] = F at ih ⊢
    by_cases hb : 40 < (xs.getD i []).length
    · have hb' : (40 : Int) < ((xs.getD i []).length : Int) := by omega
      refine ⟨?_, ?_, ?_, ?_⟩
      rotate_left
      · simp [-List.getD_eq_getElem?_getD, -List.map_map, evBody, evCode, evOps, evOper, evOp, opd, Env.get, Env.put, Env.keep, zipEnv, V.ok, V.sto, V.cells, D.cells, V.isAgg, binD, binInt, binStr, shInt, unD, eqOf, asI, leave, resOf, mapO, fzV, tupOf, view, view1, isData, hand, flatV, flatD, allD, mkAgg, mkVal, beq_lit, IntKind.bits, htake_self, htake_push, hget_hpush_self, hset_push, rowOf_self, okIn, lowIn, lowIn1, fzC_d, fzC_row, f38l0, h0, h3, txts, c, c', g, hb, hb', seek, long]
        rfl
      · intro j hj
        simp [seek, long, hb, -List.getD_eq_getElem?_getD] at hj
        try subst hj
        simp [-List.getD_eq_getElem?_getD, -List.map_map, evBody, evCode, evOps, evOper, evOp, opd, Env.get, Env.put, Env.keep, zipEnv, V.ok, V.sto, V.cells, D.cells, V.isAgg, binD, binInt, binStr, shInt, unD, eqOf, asI, leave, resOf, mapO, fzV, tupOf, view, view1, isData, hand, flatV, flatD, allD, mkAgg, mkVal, beq_lit, IntKind.bits, htake_self, htake_push, hget_hpush_self, hset_push, rowOf_self, okIn, lowIn, lowIn1, fzC_d, fzC_row]
      · intro hj; simp [seek, long, hb, -List.getD_eq_getElem?_getD] at hj
    · have hb' : ¬ (40 : Int) < ((xs.getD i []).length : Int) := by omega
      have hs : seek (long xs) (n + 1) i = seek (long xs) n (i + 1) := by simp [seek, long, hb, -List.getD_eq_getElem?_getD]
      rw [hs]
      simp [-List.getD_eq_getElem?_getD, -List.map_map, evBody, evCode, evOps, evOper, evOp, opd, Env.get, Env.put, Env.keep, zipEnv, V.ok, V.sto, V.cells, D.cells, V.isAgg, binD, binInt, binStr, shInt, unD, eqOf, asI, leave, resOf, mapO, fzV, tupOf, view, view1, isData, hand, flatV, flatD, allD, mkAgg, mkVal, beq_lit, IntKind.bits, htake_self, htake_push, hget_hpush_self, hset_push, rowOf_self, okIn, lowIn, lowIn1, fzC_d, fzC_row, f38l0, h0, h3, txts, c, c', g, hb, hb', w1]
      refine ih _ (by omega) ?_ ?_ <;> rfl
theorem l63 (n0 : Nat) (xs : List Txt) (hx : xs.length ≤ 9223372036854775807) (m : Int) (H : Hp) : ∀ (n i : Nat) (e : Env), i + n = xs.length → e.get 0 = .d (txts xs) → e.get 1 = .d (.int .i64 m) → e.get 7 = .d (txts xs) → e.get 8 = .d (.int .i64 xs.length) → e.get 9 = .d (.int .i64 i) →
    ∃ e', evLoop (evCode (ev R) R.glob n0 evLoop f63l0) [0, 1, 7, 8, 9] ⟨e, H⟩ = some ((match seek (long xs) n i with | some _ => .ret | none => .exit 0), ⟨e', H⟩) ∧
      (∀ j, seek (long xs) n i = some j → e'.get 4 = .d (.bool false)) ∧ (seek (long xs) n i = none → e'.get 0 = .d (txts xs) ∧ e'.get 1 = .d (.int .i64 m))
  | 0, i, e, hn, h0, h1, h7, h8, h9 => by
    have c : ¬ (i : Int) < (xs.length : Int) := by omega
    have c' : ¬ i < xs.length := by omega
    rw [evLoop_eq]
    refine ⟨?_, ?_, ?_, ?_⟩
    rotate_left
    · simp [-List.getD_eq_getElem?_getD, -List.map_map, evBody, evCode, evOps, evOper, evOp, opd, Env.get, Env.put, Env.keep, zipEnv, V.ok, V.sto, V.cells, D.cells, V.isAgg, binD, binInt, binStr, shInt, unD, eqOf, asI, leave, resOf, mapO, fzV, tupOf, view, view1, isData, hand, flatV, flatD, allD, mkAgg, mkVal, beq_lit, IntKind.bits, htake_self, htake_push, hget_hpush_self, hset_push, rowOf_self, okIn, lowIn, lowIn1, fzC_d, fzC_row, f63l0, h0, h1, h7, h8, h9, txts, c, c', seek]
      rfl
    · intro j hj; simp [seek] at hj
    · intro _
      try refine ⟨?_, ?_⟩
      all_goals (first | trivial | simp [-List.getD_eq_getElem?_getD, -List.map_map, evBody, evCode, evOps, evOper, evOp, opd, Env.get, Env.put, Env.keep, zipEnv, V.ok, V.sto, V.cells, D.cells, V.isAgg, binD, binInt, binStr, shInt, unD, eqOf, asI, leave, resOf, mapO, fzV, tupOf, view, view1, isData, hand, flatV, flatD, allD, mkAgg, mkVal, beq_lit, IntKind.bits, htake_self, htake_push, hget_hpush_self, hset_push, rowOf_self, okIn, lowIn, lowIn1, fzC_d, fzC_row, h0, h1, h7, h8, h9, txts])
  | n + 1, i, e, hn, h0, h1, h7, h8, h9 => by
    have c : (i : Int) < (xs.length : Int) := by omega
    have c' : i < xs.length := by omega
    have g := txts_get xs i c'
    have w1 : IntKind.i64.wrap ((i : Int) + 1) = ((i + 1 : Nat) : Int) := by rw [IntWalk.i64_in _ (by omega)]; rfl
    have ih := l63 n0 xs hx m H n (i + 1)
    rw [evLoop_eq]
    generalize evLoop (evCode (ev R) R.glob n0 evLoop f63l0) [0, 1, 7, 8, 9] = F at ih ⊢
    by_cases hb : 40 < (xs.getD i []).length
    · have hb' : (40 : Int) < ((xs.getD i []).length : Int) := by omega
      refine ⟨?_, ?_, ?_, ?_⟩
      rotate_left
      · simp [-List.getD_eq_getElem?_getD, -List.map_map, evBody, evCode, evOps, evOper, evOp, opd, Env.get, Env.put, Env.keep, zipEnv, V.ok, V.sto, V.cells, D.cells, V.isAgg, binD, binInt, binStr, shInt, unD, eqOf, asI, leave, resOf, mapO, fzV, tupOf, view, view1, isData, hand, flatV, flatD, allD, mkAgg, mkVal, beq_lit, IntKind.bits, htake_self, htake_push, hget_hpush_self, hset_push, rowOf_self, okIn, lowIn, lowIn1, fzC_d, fzC_row, f63l0, h0, h1, h7, h8, h9, txts, c, c', g, hb, hb', seek, long]
        rfl
      · intro j hj
        simp [seek, long, hb, -List.getD_eq_getElem?_getD] at hj
        try subst hj
        simp [-List.getD_eq_getElem?_getD, -List.map_map, evBody, evCode, evOps, evOper, evOp, opd, Env.get, Env.put, Env.keep, zipEnv, V.ok, V.sto, V.cells, D.cells, V.isAgg, binD, binInt, binStr, shInt, unD, eqOf, asI, leave, resOf, mapO, fzV, tupOf, view, view1, isData, hand, flatV, flatD, allD, mkAgg, mkVal, beq_lit, IntKind.bits, htake_self, htake_push, hget_hpush_self, hset_push, rowOf_self, okIn, lowIn, lowIn1, fzC_d, fzC_row]
      · intro hj; simp [seek, long, hb, -List.getD_eq_getElem?_getD] at hj
    · have hb' : ¬ (40 : Int) < ((xs.getD i []).length : Int) := by omega
      have hs : seek (long xs) (n + 1) i = seek (long xs) n (i + 1) := by simp [seek, long, hb, -List.getD_eq_getElem?_getD]
      rw [hs]
      simp [-List.getD_eq_getElem?_getD, -List.map_map, evBody, evCode, evOps, evOper, evOp, opd, Env.get, Env.put, Env.keep, zipEnv, V.ok, V.sto, V.cells, D.cells, V.isAgg, binD, binInt, binStr, shInt, unD, eqOf, asI, leave, resOf, mapO, fzV, tupOf, view, view1, isData, hand, flatV, flatD, allD, mkAgg, mkVal, beq_lit, IntKind.bits, htake_self, htake_push, hget_hpush_self, hset_push, rowOf_self, okIn, lowIn, lowIn1, fzC_d, fzC_row, f63l0, h0, h1, h7, h8, h9, txts, c, c', g, hb, hb', w1]
      refine ih _ (by omega) ?_ ?_ ?_ ?_ ?_ <;> rfl
/-- Where a text stands. -/
def isAt (t : Txt) (xs : List Txt) (i : Nat) : Bool := decide (xs.getD i [] = t)
theorem l40 (n0 : Nat) (xs : List Txt) (hx : xs.length ≤ 9223372036854775807) (t : Txt) (H : Hp) : ∀ (n i : Nat) (e : Env), i + n = xs.length → e.get 0 = .d (txts xs) → e.get 1 = .d (.str t) → e.get 7 = .d (.int .i64 xs.length) → e.get 8 = .d (.int .i64 i) →
    ∃ e', evLoop (evCode (ev R) R.glob n0 evLoop f40l0) [0, 1, 7, 8] ⟨e, H⟩ = some ((match seek (isAt t xs) n i with | some _ => .ret | none => .exit 0), ⟨e', H⟩) ∧
      (∀ j, seek (isAt t xs) n i = some j → e'.get 4 = .d (.int .i64 j))
  | 0, i, e, hn, h0, h1, h7, h8 => by
    have c : ¬ (i : Int) < (xs.length : Int) := by omega
    have c' : ¬ i < xs.length := by omega
    
    rw [evLoop_eq]
    refine ⟨?_, ?_, ?_⟩
    rotate_left
    · simp [-List.getD_eq_getElem?_getD, -List.map_map, evBody, evCode, evOps, evOper, evOp, opd, Env.get, Env.put, Env.keep, zipEnv, V.ok, V.sto, V.cells, D.cells, V.isAgg, binD, binInt, binStr, shInt, unD, eqOf, asI, leave, resOf, mapO, fzV, tupOf, view, view1, isData, hand, flatV, flatD, allD, mkAgg, mkVal, beq_lit, IntKind.bits, htake_self, htake_push, hget_hpush_self, hset_push, rowOf_self, okIn, lowIn, lowIn1, fzC_d, fzC_row, f40l0, h0, h1, h7, h8, txts, c, c', seek]
      rfl
    · intro j hj; simp [seek] at hj
  | n + 1, i, e, hn, h0, h1, h7, h8 => by
    have c : (i : Int) < (xs.length : Int) := by omega
    have c' : i < xs.length := by omega
    have g := txts_get xs i c'
    have w1 : IntKind.i64.wrap ((i : Int) + 1) = ((i + 1 : Nat) : Int) := by rw [IntWalk.i64_in _ (by omega)]; rfl
    
    have ih := l40 n0 xs hx t H n (i + 1)
    rw [evLoop_eq]
    generalize evLoop (evCode (ev R) R.glob n0 evLoop f40l0) [0, 1, 7, 8] = F at ih ⊢
    by_cases hb : xs.getD i [] = t
    · subst hb
      refine ⟨?_, ?_, ?_⟩
      rotate_left
      · simp [-List.getD_eq_getElem?_getD, -List.map_map, evBody, evCode, evOps, evOper, evOp, opd, Env.get, Env.put, Env.keep, zipEnv, V.ok, V.sto, V.cells, D.cells, V.isAgg, binD, binInt, binStr, shInt, unD, eqOf, asI, leave, resOf, mapO, fzV, tupOf, view, view1, isData, hand, flatV, flatD, allD, mkAgg, mkVal, beq_lit, IntKind.bits, htake_self, htake_push, hget_hpush_self, hset_push, rowOf_self, okIn, lowIn, lowIn1, fzC_d, fzC_row, f40l0, h0, h1, h7, h8, txts, c, c', g, seek, isAt]
        rfl
      · intro j hj
        simp [seek, isAt, -List.getD_eq_getElem?_getD] at hj
        try subst hj
        simp [-List.getD_eq_getElem?_getD, -List.map_map, evBody, evCode, evOps, evOper, evOp, opd, Env.get, Env.put, Env.keep, zipEnv, V.ok, V.sto, V.cells, D.cells, V.isAgg, binD, binInt, binStr, shInt, unD, eqOf, asI, leave, resOf, mapO, fzV, tupOf, view, view1, isData, hand, flatV, flatD, allD, mkAgg, mkVal, beq_lit, IntKind.bits, htake_self, htake_push, hget_hpush_self, hset_push, rowOf_self, okIn, lowIn, lowIn1, fzC_d, fzC_row]
    · have hb' : ¬ t = xs.getD i [] := fun h => hb h.symm
      have hs : seek (isAt t xs) (n + 1) i = seek (isAt t xs) n (i + 1) := by simp [seek, isAt, hb, -List.getD_eq_getElem?_getD]
      rw [hs]
      simp [-List.getD_eq_getElem?_getD, -List.map_map, evBody, evCode, evOps, evOper, evOp, opd, Env.get, Env.put, Env.keep, zipEnv, V.ok, V.sto, V.cells, D.cells, V.isAgg, binD, binInt, binStr, shInt, unD, eqOf, asI, leave, resOf, mapO, fzV, tupOf, view, view1, isData, hand, flatV, flatD, allD, mkAgg, mkVal, beq_lit, IntKind.bits, htake_self, htake_push, hget_hpush_self, hset_push, rowOf_self, okIn, lowIn, lowIn1, fzC_d, fzC_row, f40l0, h0, h1, h7, h8, txts, c, c', g, w1, hb, hb']
      refine ih _ (by omega) ?_ ?_ ?_ ?_ <;> rfl
theorem e38 (H : Hp) (xs : List Txt) (hx : xs.length ≤ 9223372036854775807) : ev R 38 [.d (txts xs)] H = some (.d (.bool (okTexts xs)), H) := by
  refine ev_fn (fn := f38) rfl rfl ?_
  obtain ⟨e', he, h1, h2⟩ := l38 (hlen H) xs hx H xs.length 0 [(0, .d (txts xs)), (3, .d (.int .i64 0))] (by omega) rfl rfl
  cases hr : seek (long xs) xs.length 0 with
  | some j =>
    simp only [hr] at he
    simp [-List.getD_eq_getElem?_getD, -List.map_map, evBody, evCode, evOps, evOper, evOp, opd, Env.get, Env.put, Env.keep, zipEnv, V.ok, V.sto, V.cells, D.cells, V.isAgg, binD, binInt, binStr, shInt, unD, eqOf, asI, leave, resOf, mapO, fzV, tupOf, view, view1, isData, hand, flatV, flatD, allD, mkAgg, mkVal, beq_lit, IntKind.bits, htake_self, htake_push, hget_hpush_self, hset_push, rowOf_self, okIn, lowIn, lowIn1, fzC_d, fzC_row, f38, he, h1 j hr, okTexts, hr]
  | none =>
    simp only [hr] at he
    have h3 := h2 hr
    simp [-List.getD_eq_getElem?_getD, -List.map_map, evBody, evCode, evOps, evOper, evOp, opd, Env.get, Env.put, Env.keep, zipEnv, V.ok, V.sto, V.cells, D.cells, V.isAgg, binD, binInt, binStr, shInt, unD, eqOf, asI, leave, resOf, mapO, fzV, tupOf, view, view1, isData, hand, flatV, flatD, allD, mkAgg, mkVal, beq_lit, IntKind.bits, htake_self, htake_push, hget_hpush_self, hset_push, rowOf_self, okIn, lowIn, lowIn1, fzC_d, fzC_row, f38, he, h3, okTexts, hr, txts]
    omega
theorem l16 (n0 : Nat) (xs : List Txt) (hx : xs.length ≤ 9223372036854775807) (t : Txt) (ok : okTexts xs = true) (H : Hp) : ∀ (n i : Nat) (e : Env), i + n = xs.length → e.get 0 = .d (txts xs) → e.get 1 = .d (.str t) → e.get 5 = .d (.int .i64 i) →
    ∃ e', evLoop (evCode (ev R) R.glob n0 evLoop f16l0) [0, 1, 5] ⟨e, H⟩ = some ((match seek (isAt t xs) n i with | some _ => .ret | none => .exit 0), ⟨e', H⟩) ∧
      (∀ j, seek (isAt t xs) n i = some j → e'.get 4 = .d (.int .i64 j))
  | 0, i, e, hn, h0, h1, h5 => by
    have c : ¬ (i : Int) < (xs.length : Int) := by omega
    have c' : ¬ i < xs.length := by omega
    have p38 : pureCall (ev R) 38 [.d (.vals 1 (xs.map .str))] = some (.d (.bool true)) := pureCall_eq fun H => ok ▸ e38 H xs hx
    rw [evLoop_eq]
    refine ⟨?_, ?_, ?_⟩
    rotate_left
    · simp [-List.getD_eq_getElem?_getD, -List.map_map, evBody, evCode, evOps, evOper, evOp, opd, Env.get, Env.put, Env.keep, zipEnv, V.ok, V.sto, V.cells, D.cells, V.isAgg, binD, binInt, binStr, shInt, unD, eqOf, asI, leave, resOf, mapO, fzV, tupOf, view, view1, isData, hand, flatV, flatD, allD, mkAgg, mkVal, beq_lit, IntKind.bits, htake_self, htake_push, hget_hpush_self, hset_push, rowOf_self, okIn, lowIn, lowIn1, fzC_d, fzC_row, f16l0, h0, h1, h5, txts, c, c', seek, p38]
      rfl
    · intro j hj; simp [seek] at hj
  | n + 1, i, e, hn, h0, h1, h5 => by
    have c : (i : Int) < (xs.length : Int) := by omega
    have c' : i < xs.length := by omega
    have g := txts_get xs i c'
    have w1 : IntKind.i64.wrap ((i : Int) + 1) = ((i + 1 : Nat) : Int) := by rw [IntWalk.i64_in _ (by omega)]; rfl
    have p38 : pureCall (ev R) 38 [.d (.vals 1 (xs.map .str))] = some (.d (.bool true)) := pureCall_eq fun H => ok ▸ e38 H xs hx
    have ih := l16 n0 xs hx t ok H n (i + 1)
    rw [evLoop_eq]
    generalize evLoop (evCode (ev R) R.glob n0 evLoop f16l0) [0, 1, 5] = F at ih ⊢
    by_cases hb : xs.getD i [] = t
    · subst hb
      refine ⟨?_, ?_, ?_⟩
      rotate_left
      · simp [-List.getD_eq_getElem?_getD, -List.map_map, evBody, evCode, evOps, evOper, evOp, opd, Env.get, Env.put, Env.keep, zipEnv, V.ok, V.sto, V.cells, D.cells, V.isAgg, binD, binInt, binStr, shInt, unD, eqOf, asI, leave, resOf, mapO, fzV, tupOf, view, view1, isData, hand, flatV, flatD, allD, mkAgg, mkVal, beq_lit, IntKind.bits, htake_self, htake_push, hget_hpush_self, hset_push, rowOf_self, okIn, lowIn, lowIn1, fzC_d, fzC_row, f16l0, h0, h1, h5, txts, c, c', g, seek, isAt, p38]
        rfl
      · intro j hj
        simp [seek, isAt, -List.getD_eq_getElem?_getD] at hj
        try subst hj
        simp [-List.getD_eq_getElem?_getD, -List.map_map, evBody, evCode, evOps, evOper, evOp, opd, Env.get, Env.put, Env.keep, zipEnv, V.ok, V.sto, V.cells, D.cells, V.isAgg, binD, binInt, binStr, shInt, unD, eqOf, asI, leave, resOf, mapO, fzV, tupOf, view, view1, isData, hand, flatV, flatD, allD, mkAgg, mkVal, beq_lit, IntKind.bits, htake_self, htake_push, hget_hpush_self, hset_push, rowOf_self, okIn, lowIn, lowIn1, fzC_d, fzC_row]
    · skip
      have hs : seek (isAt t xs) (n + 1) i = seek (isAt t xs) n (i + 1) := by simp [seek, isAt, hb, -List.getD_eq_getElem?_getD]
      rw [hs]
      simp [-List.getD_eq_getElem?_getD, -List.map_map, evBody, evCode, evOps, evOper, evOp, opd, Env.get, Env.put, Env.keep, zipEnv, V.ok, V.sto, V.cells, D.cells, V.isAgg, binD, binInt, binStr, shInt, unD, eqOf, asI, leave, resOf, mapO, fzV, tupOf, view, view1, isData, hand, flatV, flatD, allD, mkAgg, mkVal, beq_lit, IntKind.bits, htake_self, htake_push, hget_hpush_self, hset_push, rowOf_self, okIn, lowIn, lowIn1, fzC_d, fzC_row, f16l0, h0, h1, h5, txts, c, c', g, w1, hb, p38]
      refine ih _ (by omega) ?_ ?_ ?_ <;> rfl
/-- The first place of a text. -/
def placeOf (xs : List Txt) (t : Txt) : Int := if okTexts xs = true then (match seek (isAt t xs) xs.length 0 with | some j => (j : Int) | none => -1) else -1
theorem e16 (H : Hp) (xs : List Txt) (t : Txt) (hx : xs.length ≤ 9223372036854775807) : ev R 16 [.d (txts xs), .d (.str t)] H = some (.d (.int .i64 (placeOf xs t)), H) := by
  refine ev_fn (fn := f16) rfl rfl ?_
  cases ok : okTexts xs with
  | true =>
    obtain ⟨e', he, h1⟩ := l16 (hlen H) xs hx t ok H xs.length 0 [(0, .d (txts xs)), (1, .d (.str t)), (5, .d (.int .i64 0))] (by omega) rfl rfl rfl
    cases hr : seek (isAt t xs) xs.length 0 with
    | some j =>
      simp only [hr] at he
      simp [-List.getD_eq_getElem?_getD, -List.map_map, evBody, evCode, evOps, evOper, evOp, opd, Env.get, Env.put, Env.keep, zipEnv, V.ok, V.sto, V.cells, D.cells, V.isAgg, binD, binInt, binStr, shInt, unD, eqOf, asI, leave, resOf, mapO, fzV, tupOf, view, view1, isData, hand, flatV, flatD, allD, mkAgg, mkVal, beq_lit, IntKind.bits, htake_self, htake_push, hget_hpush_self, hset_push, rowOf_self, okIn, lowIn, lowIn1, fzC_d, fzC_row, f16, he, h1 j hr, placeOf, ok, hr]
    | none =>
      simp only [hr] at he
      simp [-List.getD_eq_getElem?_getD, -List.map_map, evBody, evCode, evOps, evOper, evOp, opd, Env.get, Env.put, Env.keep, zipEnv, V.ok, V.sto, V.cells, D.cells, V.isAgg, binD, binInt, binStr, shInt, unD, eqOf, asI, leave, resOf, mapO, fzV, tupOf, view, view1, isData, hand, flatV, flatD, allD, mkAgg, mkVal, beq_lit, IntKind.bits, htake_self, htake_push, hget_hpush_self, hset_push, rowOf_self, okIn, lowIn, lowIn1, fzC_d, fzC_row, f16, he, placeOf, ok, hr]
  | false =>
    have p38 : pureCall (ev R) 38 [.d (.vals 1 (xs.map .str))] = some (.d (.bool false)) := pureCall_eq fun H => ok ▸ e38 H xs hx
    have he : ∃ e', evLoop (evCode (ev R) R.glob (hlen H) evLoop f16l0) [0, 1, 5] ⟨[(0, .d (txts xs)), (1, .d (.str t)), (5, .d (.int .i64 0))], H⟩ = some (.exit 0, ⟨e', H⟩) := by
      rw [evLoop_eq]
      generalize evLoop (evCode (ev R) R.glob (hlen H) evLoop f16l0) [0, 1, 5] = F
      by_cases h0 : (0 : Int) < (xs.length : Int)
      · refine ⟨?_, ?_⟩
        rotate_left
        · have h0' : 0 < xs.length := by omega
          simp [-List.getD_eq_getElem?_getD, -List.map_map, evBody, evCode, evOps, evOper, evOp, opd, Env.get, Env.put, Env.keep, zipEnv, V.ok, V.sto, V.cells, D.cells, V.isAgg, binD, binInt, binStr, shInt, unD, eqOf, asI, leave, resOf, mapO, fzV, tupOf, view, view1, isData, hand, flatV, flatD, allD, mkAgg, mkVal, beq_lit, IntKind.bits, htake_self, htake_push, hget_hpush_self, hset_push, rowOf_self, okIn, lowIn, lowIn1, fzC_d, fzC_row, f16l0, h0, h0', txts, p38]
          rfl
      · refine ⟨?_, ?_⟩
        rotate_left
        · have h0' : xs = [] := List.eq_nil_of_length_eq_zero (by omega)
          subst h0'
          simp [-List.getD_eq_getElem?_getD, -List.map_map, evBody, evCode, evOps, evOper, evOp, opd, Env.get, Env.put, Env.keep, zipEnv, V.ok, V.sto, V.cells, D.cells, V.isAgg, binD, binInt, binStr, shInt, unD, eqOf, asI, leave, resOf, mapO, fzV, tupOf, view, view1, isData, hand, flatV, flatD, allD, mkAgg, mkVal, beq_lit, IntKind.bits, htake_self, htake_push, hget_hpush_self, hset_push, rowOf_self, okIn, lowIn, lowIn1, fzC_d, fzC_row, f16l0, txts]
          rfl
    obtain ⟨e', he⟩ := he
    simp [-List.getD_eq_getElem?_getD, -List.map_map, evBody, evCode, evOps, evOper, evOp, opd, Env.get, Env.put, Env.keep, zipEnv, V.ok, V.sto, V.cells, D.cells, V.isAgg, binD, binInt, binStr, shInt, unD, eqOf, asI, leave, resOf, mapO, fzV, tupOf, view, view1, isData, hand, flatV, flatD, allD, mkAgg, mkVal, beq_lit, IntKind.bits, htake_self, htake_push, hget_hpush_self, hset_push, rowOf_self, okIn, lowIn, lowIn1, fzC_d, fzC_row, f16, he, placeOf, ok]
theorem e63 (H : Hp) (xs : List Txt) (hx : xs.length ≤ 9223372036854775807) : ev R 63 [.d (txts xs), .d (.int .i64 16)] H = some (.d (.bool (okTexts xs)), H) := by
  refine ev_fn (fn := f63) rfl rfl ?_
  obtain ⟨e', he, h1, h2⟩ := l63 (hlen H) xs hx 16 H xs.length 0 [(0, .d (txts xs)), (1, .d (.int .i64 16)), (7, .d (txts xs)), (8, .d (.int .i64 xs.length)), (9, .d (.int .i64 0))] (by omega) rfl rfl rfl rfl rfl
  cases hr : seek (long xs) xs.length 0 with
  | some j =>
    simp only [hr] at he
    simp [-List.getD_eq_getElem?_getD, -List.map_map, evBody, evCode, evOps, evOper, evOp, opd, Env.get, Env.put, Env.keep, zipEnv, V.ok, V.sto, V.cells, D.cells, V.isAgg, binD, binInt, binStr, shInt, unD, eqOf, asI, leave, resOf, mapO, fzV, tupOf, view, view1, isData, hand, flatV, flatD, allD, mkAgg, mkVal, beq_lit, IntKind.bits, htake_self, htake_push, hget_hpush_self, hset_push, rowOf_self, okIn, lowIn, lowIn1, fzC_d, fzC_row, f63, he, h1 j hr, okTexts, hr]
  | none =>
    simp only [hr] at he
    obtain ⟨h3, h4⟩ := h2 hr
    simp [-List.getD_eq_getElem?_getD, -List.map_map, evBody, evCode, evOps, evOper, evOp, opd, Env.get, Env.put, Env.keep, zipEnv, V.ok, V.sto, V.cells, D.cells, V.isAgg, binD, binInt, binStr, shInt, unD, eqOf, asI, leave, resOf, mapO, fzV, tupOf, view, view1, isData, hand, flatV, flatD, allD, mkAgg, mkVal, beq_lit, IntKind.bits, htake_self, htake_push, hget_hpush_self, hset_push, rowOf_self, okIn, lowIn, lowIn1, fzC_d, fzC_row, f63, he, h3, h4, okTexts, hr, txts]
    omega
theorem e39 (H : Hp) (xs : List Txt) (hx : xs.length ≤ 9223372036854775807) : ev R 39 [.d (txts xs)] H = some (.d (.bool (okTexts xs)), H) := by
  refine ev_fn (fn := f39) rfl rfl ?_
  have p63 : pureCall (ev R) 63 [.d (txts xs), .d (.int .i64 16)] = some (.d (.bool (okTexts xs))) := pureCall_eq fun H => e63 H xs hx
  simp [-List.getD_eq_getElem?_getD, -List.map_map, evBody, evCode, evOps, evOper, evOp, opd, Env.get, Env.put, Env.keep, zipEnv, V.ok, V.sto, V.cells, D.cells, V.isAgg, binD, binInt, binStr, shInt, unD, eqOf, asI, leave, resOf, mapO, fzV, tupOf, view, view1, isData, hand, flatV, flatD, allD, mkAgg, mkVal, beq_lit, IntKind.bits, htake_self, htake_push, hget_hpush_self, hset_push, rowOf_self, okIn, lowIn, lowIn1, fzC_d, fzC_row, f39, p63]
theorem e40 (H : Hp) (xs : List Txt) (t : Txt) (hx : xs.length ≤ 9223372036854775807) : ev R 40 [.d (txts xs), .d (.str t)] H = some (.d (.int .i64 (match seek (isAt t xs) xs.length 0 with | some j => (j : Int) | none => -1)), H) := by
  refine ev_fn (fn := f40) rfl rfl ?_
  obtain ⟨e', he, h1⟩ := l40 (hlen H) xs hx t H xs.length 0 [(0, .d (txts xs)), (1, .d (.str t)), (7, .d (.int .i64 xs.length)), (8, .d (.int .i64 0))] (by omega) rfl rfl rfl rfl
  cases hr : seek (isAt t xs) xs.length 0 with
  | some j =>
    simp only [hr] at he
    simp [-List.getD_eq_getElem?_getD, -List.map_map, evBody, evCode, evOps, evOper, evOp, opd, Env.get, Env.put, Env.keep, zipEnv, V.ok, V.sto, V.cells, D.cells, V.isAgg, binD, binInt, binStr, shInt, unD, eqOf, asI, leave, resOf, mapO, fzV, tupOf, view, view1, isData, hand, flatV, flatD, allD, mkAgg, mkVal, beq_lit, IntKind.bits, htake_self, htake_push, hget_hpush_self, hset_push, rowOf_self, okIn, lowIn, lowIn1, fzC_d, fzC_row, f40, he, h1 j hr, hr]
  | none =>
    simp only [hr] at he
    simp [-List.getD_eq_getElem?_getD, -List.map_map, evBody, evCode, evOps, evOper, evOp, opd, Env.get, Env.put, Env.keep, zipEnv, V.ok, V.sto, V.cells, D.cells, V.isAgg, binD, binInt, binStr, shInt, unD, eqOf, asI, leave, resOf, mapO, fzV, tupOf, view, view1, isData, hand, flatV, flatD, allD, mkAgg, mkVal, beq_lit, IntKind.bits, htake_self, htake_push, hget_hpush_self, hset_push, rowOf_self, okIn, lowIn, lowIn1, fzC_d, fzC_row, f40, he, hr]
theorem e18 (H : Hp) (xs : List Txt) (t : Txt) (hx : xs.length ≤ 9223372036854775807) : ev R 18 [.d (txts xs), .d (.str t)] H = some (.d (.int .i64 (placeOf xs t)), H) := by
  refine ev_fn (fn := f18) rfl rfl ?_
  have p39 : pureCall (ev R) 39 [.d (txts xs)] = some (.d (.bool (okTexts xs))) := pureCall_eq fun H => e39 H xs hx
  have p40 := pureCall_eq (cl := ev R) fun H => e40 H xs t hx
  cases ok : okTexts xs with
  | true =>
    rw [ok] at p39
    simp [-List.getD_eq_getElem?_getD, -List.map_map, evBody, evCode, evOps, evOper, evOp, opd, Env.get, Env.put, Env.keep, zipEnv, V.ok, V.sto, V.cells, D.cells, V.isAgg, binD, binInt, binStr, shInt, unD, eqOf, asI, leave, resOf, mapO, fzV, tupOf, view, view1, isData, hand, flatV, flatD, allD, mkAgg, mkVal, beq_lit, IntKind.bits, htake_self, htake_push, hget_hpush_self, hset_push, rowOf_self, okIn, lowIn, lowIn1, fzC_d, fzC_row, f18, p39, p40, placeOf, ok]
  | false =>
    rw [ok] at p39
    simp [-List.getD_eq_getElem?_getD, -List.map_map, evBody, evCode, evOps, evOper, evOp, opd, Env.get, Env.put, Env.keep, zipEnv, V.ok, V.sto, V.cells, D.cells, V.isAgg, binD, binInt, binStr, shInt, unD, eqOf, asI, leave, resOf, mapO, fzV, tupOf, view, view1, isData, hand, flatV, flatD, allD, mkAgg, mkVal, beq_lit, IntKind.bits, htake_self, htake_push, hget_hpush_self, hset_push, rowOf_self, okIn, lowIn, lowIn1, fzC_d, fzC_row, f18, p39, placeOf, ok]
/-- A copy. -/
theorem l17 (n0 : Nat) (xs : List Txt) (hx : xs.length ≤ 9223372036854775807) (H : Hp) : ∀ (n i : Nat) (e : Env), i + n = xs.length → e.get 0 = .d (txts xs) → e.get 3 = .slc (hlen H) 0 0 xs.length → e.get 4 = .d (.int .i64 i) →
    ∃ e', evLoop (evCode (ev R) R.glob n0 evLoop f17l0) [0, 3, 4] ⟨e, hpush H (.row 0 1 (filled xs i))⟩ = some (.exit 0, ⟨e', hpush H (.row 0 1 ((xs.map D.str).map V.d))⟩) ∧ e'.get 3 = .slc (hlen H) 0 0 xs.length
  | 0, i, e, hn, h0, h3, h4 => by
    have c : ¬ (i : Int) < (xs.length : Int) := by omega
    have c' : ¬ i < xs.length := by omega
    have hi : i = xs.length := by omega
    rw [← filled_all, evLoop_eq]
    refine ⟨?_, ?_, ?_⟩
    rotate_left
    · simp [-List.getD_eq_getElem?_getD, -List.map_map, evBody, evCode, evOps, evOper, evOp, opd, Env.get, Env.put, Env.keep, zipEnv, V.ok, V.sto, V.cells, D.cells, V.isAgg, binD, binInt, binStr, shInt, unD, eqOf, asI, leave, resOf, mapO, fzV, tupOf, view, view1, isData, hand, flatV, flatD, allD, mkAgg, mkVal, beq_lit, IntKind.bits, htake_self, htake_push, hget_hpush_self, hset_push, rowOf_self, okIn, lowIn, lowIn1, fzC_d, fzC_row, f17l0, h0, h3, h4, txts, c, c', hi]
      rfl
    · simp [-List.getD_eq_getElem?_getD, -List.map_map, evBody, evCode, evOps, evOper, evOp, opd, Env.get, Env.put, Env.keep, zipEnv, V.ok, V.sto, V.cells, D.cells, V.isAgg, binD, binInt, binStr, shInt, unD, eqOf, asI, leave, resOf, mapO, fzV, tupOf, view, view1, isData, hand, flatV, flatD, allD, mkAgg, mkVal, beq_lit, IntKind.bits, htake_self, htake_push, hget_hpush_self, hset_push, rowOf_self, okIn, lowIn, lowIn1, fzC_d, fzC_row, h3]
  | n + 1, i, e, hn, h0, h3, h4 => by
    have c : (i : Int) < (xs.length : Int) := by omega
    have c' : i < xs.length := by omega
    have g := txts_get xs i c'
    have w1 : IntKind.i64.wrap ((i : Int) + 1) = ((i + 1 : Nat) : Int) := by rw [IntWalk.i64_in _ (by omega)]; rfl
    have st := filled_store H xs i c'
    have ih := l17 n0 xs hx H n (i + 1)
    rw [evLoop_eq]
    generalize evLoop (evCode (ev R) R.glob n0 evLoop f17l0) [0, 3, 4] = F at ih ⊢
    simp [-List.getD_eq_getElem?_getD, -List.map_map, evBody, evCode, evOps, evOper, evOp, opd, Env.get, Env.put, Env.keep, zipEnv, V.ok, V.sto, V.cells, D.cells, V.isAgg, binD, binInt, binStr, shInt, unD, eqOf, asI, leave, resOf, mapO, fzV, tupOf, view, view1, isData, hand, flatV, flatD, allD, mkAgg, mkVal, beq_lit, IntKind.bits, htake_self, htake_push, hget_hpush_self, hset_push, rowOf_self, okIn, lowIn, lowIn1, fzC_d, fzC_row, f17l0, h0, h3, h4, txts, c, c', g, w1, st]
    refine ih _ (by omega) ?_ ?_ ?_ <;> rfl
theorem e17 (H : Hp) (xs : List Txt) (hx : (xs.length : Int) * 16 ≤ 140737488355328) : ev R 17 [.d (txts xs)] H = some (.d (txts xs), H) := by
  refine ev_fn (fn := f17) rfl rfl ?_
  obtain ⟨e', he, h3⟩ := l17 (hlen H) xs (by omega) H xs.length 0 [(0, .d (txts xs)), (3, .slc (hlen H) 0 0 xs.length), (4, .d (.int .i64 0))] (by omega) rfl rfl rfl
  rw [filled_zero] at he
  have r : (xs.length : Int) * 16 ≤ (room : Int) := hx
  simp [-List.getD_eq_getElem?_getD, -List.map_map, evBody, evCode, evOps, evOper, evOp, opd, Env.get, Env.put, Env.keep, zipEnv, V.ok, V.sto, V.cells, D.cells, V.isAgg, binD, binInt, binStr, shInt, unD, eqOf, asI, leave, resOf, mapO, fzV, tupOf, view, view1, isData, hand, flatV, flatD, allD, mkAgg, mkVal, beq_lit, IntKind.bits, htake_self, htake_push, hget_hpush_self, hset_push, rowOf_self, okIn, lowIn, lowIn1, fzC_d, fzC_row, f17, he, h3, r, txts]
def differ (xs ys : List Txt) (i : Nat) : Bool := decide (¬ xs.getD i [] = ys.getD i [])
theorem l19 (n0 : Nat) (xs : List Txt) (hx : xs.length ≤ 9223372036854775807) (ys : List Txt) (hy : ys.length = xs.length) (H : Hp) : ∀ (n i : Nat) (e : Env), i + n = xs.length → e.get 0 = .d (txts xs) → e.get 1 = .d (txts ys) → e.get 5 = .d (.int .i64 i) →
    ∃ e', evLoop (evCode (ev R) R.glob n0 evLoop f19l0) [0, 1, 5] ⟨e, H⟩ = some ((match seek (differ xs ys) n i with | some _ => .ret | none => .exit 0), ⟨e', H⟩) ∧
      (∀ j, seek (differ xs ys) n i = some j → e'.get 4 = .d (.bool false))
  | 0, i, e, hn, h0, h1, h5 => by
    have c : ¬ (i : Int) < (xs.length : Int) := by omega
    have c' : ¬ i < xs.length := by omega
    have gy : i < ys.length → (ys.map D.str).getD i .nilp = .str (ys.getD i []) := fun h => txts_get ys i h
    rw [evLoop_eq]
    refine ⟨?_, ?_, ?_⟩
    rotate_left
    · simp [-List.getD_eq_getElem?_getD, -List.map_map, evBody, evCode, evOps, evOper, evOp, opd, Env.get, Env.put, Env.keep, zipEnv, V.ok, V.sto, V.cells, D.cells, V.isAgg, binD, binInt, binStr, shInt, unD, eqOf, asI, leave, resOf, mapO, fzV, tupOf, view, view1, isData, hand, flatV, flatD, allD, mkAgg, mkVal, beq_lit, IntKind.bits, htake_self, htake_push, hget_hpush_self, hset_push, rowOf_self, okIn, lowIn, lowIn1, fzC_d, fzC_row, f19l0, h0, h1, h5, txts, c, c', seek, hy, gy]
      rfl
    · intro j hj; simp [seek] at hj
  | n + 1, i, e, hn, h0, h1, h5 => by
    have c : (i : Int) < (xs.length : Int) := by omega
    have c' : i < xs.length := by omega
    have g := txts_get xs i c'
    have w1 : IntKind.i64.wrap ((i : Int) + 1) = ((i + 1 : Nat) : Int) := by rw [IntWalk.i64_in _ (by omega)]; rfl
    have gy : i < ys.length → (ys.map D.str).getD i .nilp = .str (ys.getD i []) := fun h => txts_get ys i h
    have ih := l19 n0 xs hx ys hy H n (i + 1)
    rw [evLoop_eq]
    generalize evLoop (evCode (ev R) R.glob n0 evLoop f19l0) [0, 1, 5] = F at ih ⊢
    by_cases hb : ¬ xs.getD i [] = ys.getD i []
    · skip
      refine ⟨?_, ?_, ?_⟩
      rotate_left
      · simp [-List.getD_eq_getElem?_getD, -List.map_map, evBody, evCode, evOps, evOper, evOp, opd, Env.get, Env.put, Env.keep, zipEnv, V.ok, V.sto, V.cells, D.cells, V.isAgg, binD, binInt, binStr, shInt, unD, eqOf, asI, leave, resOf, mapO, fzV, tupOf, view, view1, isData, hand, flatV, flatD, allD, mkAgg, mkVal, beq_lit, IntKind.bits, htake_self, htake_push, hget_hpush_self, hset_push, rowOf_self, okIn, lowIn, lowIn1, fzC_d, fzC_row, f19l0, h0, h1, h5, txts, c, c', g, seek, differ, hb, hy, gy]
        rfl
      · intro j hj
        simp [seek, differ, hb, -List.getD_eq_getElem?_getD] at hj
        try subst hj
        simp [-List.getD_eq_getElem?_getD, -List.map_map, evBody, evCode, evOps, evOper, evOp, opd, Env.get, Env.put, Env.keep, zipEnv, V.ok, V.sto, V.cells, D.cells, V.isAgg, binD, binInt, binStr, shInt, unD, eqOf, asI, leave, resOf, mapO, fzV, tupOf, view, view1, isData, hand, flatV, flatD, allD, mkAgg, mkVal, beq_lit, IntKind.bits, htake_self, htake_push, hget_hpush_self, hset_push, rowOf_self, okIn, lowIn, lowIn1, fzC_d, fzC_row]
    · rw [Classical.not_not] at hb
      have hs : seek (differ xs ys) (n + 1) i = seek (differ xs ys) n (i + 1) := by simp [seek, differ, hb, -List.getD_eq_getElem?_getD]
      rw [hs]
      simp [-List.getD_eq_getElem?_getD, -List.map_map, evBody, evCode, evOps, evOper, evOp, opd, Env.get, Env.put, Env.keep, zipEnv, V.ok, V.sto, V.cells, D.cells, V.isAgg, binD, binInt, binStr, shInt, unD, eqOf, asI, leave, resOf, mapO, fzV, tupOf, view, view1, isData, hand, flatV, flatD, allD, mkAgg, mkVal, beq_lit, IntKind.bits, htake_self, htake_push, hget_hpush_self, hset_push, rowOf_self, okIn, lowIn, lowIn1, fzC_d, fzC_row, f19l0, h0, h1, h5, txts, c, c', g, w1, hb, hy, gy]
      refine ih _ (by omega) ?_ ?_ ?_ <;> rfl
end Go.Proofs.Ytpmphmpaeooeeaa.Code

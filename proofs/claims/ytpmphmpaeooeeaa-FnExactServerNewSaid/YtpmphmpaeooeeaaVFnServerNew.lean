/- What FnExactServerNew answers, whole. -/
import Derived.Test.YtpmphmpaeooeeaaVServerNew
namespace Go.Proofs.Ytpmphmpaeooeeaa.Code
open Go Go.Ev Go.Proofs
set_option maxRecDepth 100000
set_option linter.unusedSimpArgs false
set_option linter.unusedVariables false
theorem e28_0 (n : Int) (hn : n < 1 ∨ 3 < n) : ev R 28 [.d (.int .i64 n)] [] = some (.d (.agg [.int .i64 0, .vals 7 [], .str [], .vals 6 []]), []) := by
  refine ev_fn (fn := f28) rfl rfl ?_
  have p := p37 n 1 3
  have p' : (decide (n ≥ 1) && decide (n ≤ 3)) = false := by
    simp only [Bool.and_eq_false_iff, decide_eq_false_iff_not]; omega
  rw [p'] at p
  have L : ∃ e', evLoop (evCode (ev R) R.glob 0 evLoop f28l0) [0, 2, 3, 4] ⟨[(0, .d (.int .i64 n)), (2, .ptr 0 0 0 0), (3, .ptr 1 0 0 0), (4, .d (.int .i64 0))], [.row 0 4 [.agg [.d (.int .i64 0), .nils 7, .d (.str []), .nils 6]], .row 0 4 [.agg [.d (.int .i64 0), .nils 7, .d (.str []), .nils 6]]]⟩ = some (.exit 0, ⟨e', [.row 0 4 [.agg [.d (.int .i64 0), .nils 7, .d (.str []), .nils 6]], .row 0 4 [.agg [.d (.int .i64 0), .nils 7, .d (.str []), .nils 6]]]⟩) ∧ e'.get 2 = .ptr 0 0 0 0 ∧ e'.get 3 = .ptr 1 0 0 0 := by
    rw [evLoop_eq]
    refine ⟨?_, ?_, ?_, ?_⟩
    rotate_left
    · by_cases c : 0 < n
      · simp [-List.getD_eq_getElem?_getD, -List.map_map, evBody, evCode, evOps, evOper, evOp, opd, Env.get, Env.put, Env.keep, zipEnv, V.ok, V.sto, V.cells, D.cells, V.isAgg, binD, binInt, binStr, shInt, unD, eqOf, asI, leave, resOf, mapO, fzV, fzC, tupOf, htake, hlen, view, view1, isData, hand, flatV, flatD, allD, mkAgg, mkVal, beq_lit, IntKind.bits, f28l0, okIn, lowIn, lowIn1, hload, rowOf, hget, hstore, hset, reCell, hpush, fills, setAt, p, c]
        try rfl
      · simp [-List.getD_eq_getElem?_getD, -List.map_map, evBody, evCode, evOps, evOper, evOp, opd, Env.get, Env.put, Env.keep, zipEnv, V.ok, V.sto, V.cells, D.cells, V.isAgg, binD, binInt, binStr, shInt, unD, eqOf, asI, leave, resOf, mapO, fzV, fzC, tupOf, htake, hlen, view, view1, isData, hand, flatV, flatD, allD, mkAgg, mkVal, beq_lit, IntKind.bits, f28l0, okIn, lowIn, lowIn1, hload, rowOf, hget, hstore, hset, reCell, hpush, fills, setAt, p, c]
        try rfl
    · simp [-List.getD_eq_getElem?_getD, -List.map_map, evBody, evCode, evOps, evOper, evOp, opd, Env.get, Env.put, Env.keep, zipEnv, V.ok, V.sto, V.cells, D.cells, V.isAgg, binD, binInt, binStr, shInt, unD, eqOf, asI, leave, resOf, mapO, fzV, fzC, tupOf, htake, hlen, view, view1, isData, hand, flatV, flatD, allD, mkAgg, mkVal, beq_lit, IntKind.bits]
    · simp [-List.getD_eq_getElem?_getD, -List.map_map, evBody, evCode, evOps, evOper, evOp, opd, Env.get, Env.put, Env.keep, zipEnv, V.ok, V.sto, V.cells, D.cells, V.isAgg, binD, binInt, binStr, shInt, unD, eqOf, asI, leave, resOf, mapO, fzV, fzC, tupOf, htake, hlen, view, view1, isData, hand, flatV, flatD, allD, mkAgg, mkVal, beq_lit, IntKind.bits]
  obtain ⟨e', he, g2, g3⟩ := L
  simp [-List.getD_eq_getElem?_getD, -List.map_map, evBody, evCode, evOps, evOper, evOp, opd, Env.get, Env.put, Env.keep, zipEnv, V.ok, V.sto, V.cells, D.cells, V.isAgg, binD, binInt, binStr, shInt, unD, eqOf, asI, leave, resOf, mapO, fzV, fzC, tupOf, htake, hlen, view, view1, isData, hand, flatV, flatD, allD, mkAgg, mkVal, beq_lit, IntKind.bits, f28, okIn, lowIn, lowIn1, hload, rowOf, hget, hstore, hset, reCell, hpush, fills, setAt, he, g2, g3, fz, deep]
theorem e29_0 (H : Hp) (n : Int) (hn : n < 1 ∨ 3 < n) : ev R 29 [.d (.int .i64 n)] H = some (.agg [.d (.int .i64 0), .nils 7, .d (.str []), .nils 6], H) := by
  refine ev_fn (fn := f29) rfl rfl ?_
  have p := p35 n 1 3
  have p' : (decide (n ≥ 1) && decide (n ≤ 3)) = false := by
    simp only [Bool.and_eq_false_iff, decide_eq_false_iff_not]; omega
  rw [p'] at p
  have st : hstore (hpush H (.row 0 4 [.agg [.d (.int .i64 0), .nils 7, .d (.str []), .nils 6]])) (hlen H) 0 0 0 [.d (.int .i64 0), .nils 7, .d (.str []), .nils 6] = some (hpush H (.row 0 4 [.agg [.d (.int .i64 0), .nils 7, .d (.str []), .nils 6]])) := by
    simp [hstore, rowOf_self, V.cells, reCell, V.isAgg, mkAgg, allD, hset_push]
  simp [-List.getD_eq_getElem?_getD, -List.map_map, evBody, evCode, evOps, evOper, evOp, opd, Env.get, Env.put, Env.keep, zipEnv, V.ok, V.sto, V.cells, D.cells, V.isAgg, binD, binInt, binStr, shInt, unD, eqOf, asI, leave, resOf, mapO, fzV, tupOf, view, view1, isData, hand, flatV, flatD, allD, mkAgg, mkVal, beq_lit, IntKind.bits, htake_self, htake_push, hget_hpush_self, hset_push, rowOf_self, okIn, lowIn, lowIn1, fzC_d, fzC_row, f29, fills, setAt, p, st, hload_box, ownL, ownCs, own1, ownEs, ownEl, layer]
theorem e10_1 : ev R 10 [.d (.int .i64 1)] [] = some (.d (.bool true), []) := by
  refine ev_fn (fn := f10) rfl rfl ?_
  have p28 := e28_1
  have p29a := fun A => e29a_1 A
  have p29b := fun A C B => e29b_1 A C B
  have p30 : pureCall (ev R) 30 [.d (.agg [.int .i64 0, .vals 7 [], .str [], .vals 6 [zc]]), .d (.agg [.int .i64 0, .vals 7 [], .str [], .vals 6 [zc]])] = some (.d (.bool true)) := pureCall_eq fun H => e30z H 1 (by omega)
  have p31 := fun A B => e31_1 A B
  have p32 : pureCall (ev R) 32 [.d (.agg [.int .i64 0, .vals 7 [], .str [], .vals 6 [zm]]), .d (.int .i64 1)] = some (.d (.int .i64 4)) := pureCall_eq fun H => e32z H 1 (by omega)
  simp [-List.getD_eq_getElem?_getD, -List.map_map, evBody, evCode, evOps, evOper, evOp, opd, Env.get, Env.put, Env.keep, zipEnv, V.ok, V.sto, V.cells, D.cells, V.isAgg, binD, binInt, binStr, shInt, unD, eqOf, asI, leave, resOf, mapO, fzV, fzC, tupOf, htake, hlen, view, view1, isData, hand, flatV, flatD, allD, mkAgg, mkVal, beq_lit, IntKind.bits, f10, okIn, lowIn, lowIn1, hload, rowOf, hget, hstore, hset, reCell, hpush, fills, setAt, p28, p29a, p29b, p30, p31, p32]
theorem e10_2 : ev R 10 [.d (.int .i64 2)] [] = some (.d (.bool true), []) := by
  refine ev_fn (fn := f10) rfl rfl ?_
  have p28 := e28_2
  have p29a := fun A => e29a_2 A
  have p29b := fun A C B => e29b_2 A C B
  have p30 : pureCall (ev R) 30 [.d (.agg [.int .i64 0, .vals 7 [], .str [], .vals 6 [zc, zc]]), .d (.agg [.int .i64 0, .vals 7 [], .str [], .vals 6 [zc, zc]])] = some (.d (.bool true)) := pureCall_eq fun H => e30z H 2 (by omega)
  have p31 := fun A B => e31_2 A B
  have p32 : pureCall (ev R) 32 [.d (.agg [.int .i64 0, .vals 7 [], .str [], .vals 6 [zm, zm]]), .d (.int .i64 1)] = some (.d (.int .i64 7)) := pureCall_eq fun H => e32z H 2 (by omega)
  simp [-List.getD_eq_getElem?_getD, -List.map_map, evBody, evCode, evOps, evOper, evOp, opd, Env.get, Env.put, Env.keep, zipEnv, V.ok, V.sto, V.cells, D.cells, V.isAgg, binD, binInt, binStr, shInt, unD, eqOf, asI, leave, resOf, mapO, fzV, fzC, tupOf, htake, hlen, view, view1, isData, hand, flatV, flatD, allD, mkAgg, mkVal, beq_lit, IntKind.bits, f10, okIn, lowIn, lowIn1, hload, rowOf, hget, hstore, hset, reCell, hpush, fills, setAt, p28, p29a, p29b, p30, p31, p32]
theorem e10_3 : ev R 10 [.d (.int .i64 3)] [] = some (.d (.bool true), []) := by
  refine ev_fn (fn := f10) rfl rfl ?_
  have p28 := e28_3
  have p29a := fun A => e29a_3 A
  have p29b := fun A C B => e29b_3 A C B
  have p30 : pureCall (ev R) 30 [.d (.agg [.int .i64 0, .vals 7 [], .str [], .vals 6 [zc, zc, zc]]), .d (.agg [.int .i64 0, .vals 7 [], .str [], .vals 6 [zc, zc, zc]])] = some (.d (.bool true)) := pureCall_eq fun H => e30z H 3 (by omega)
  have p31 := fun A B => e31_3 A B
  have p32 : pureCall (ev R) 32 [.d (.agg [.int .i64 0, .vals 7 [], .str [], .vals 6 [zm, zm, zm]]), .d (.int .i64 1)] = some (.d (.int .i64 10)) := pureCall_eq fun H => e32z H 3 (by omega)
  simp [-List.getD_eq_getElem?_getD, -List.map_map, evBody, evCode, evOps, evOper, evOp, opd, Env.get, Env.put, Env.keep, zipEnv, V.ok, V.sto, V.cells, D.cells, V.isAgg, binD, binInt, binStr, shInt, unD, eqOf, asI, leave, resOf, mapO, fzV, fzC, tupOf, htake, hlen, view, view1, isData, hand, flatV, flatD, allD, mkAgg, mkVal, beq_lit, IntKind.bits, f10, okIn, lowIn, lowIn1, hload, rowOf, hget, hstore, hset, reCell, hpush, fills, setAt, p28, p29a, p29b, p30, p31, p32]
theorem e10_0 (n : Int) (hn : n < 1 ∨ 3 < n) : ev R 10 [.d (.int .i64 n)] [] = some (.d (.bool true), []) := by
  refine ev_fn (fn := f10) rfl rfl ?_
  have p28 := e28_0 n hn
  have p29 := fun H => e29_0 H n hn
  have p30 : pureCall (ev R) 30 [.d (.agg [.int .i64 0, .vals 7 [], .str [], .vals 6 []]), .d (.agg [.int .i64 0, .vals 7 [], .str [], .vals 6 []])] = some (.d (.bool true)) := pureCall_eq fun H => e30z H 0 (by omega)
  have p31 := fun H => e31n H 1
  have p32 : pureCall (ev R) 32 [.d (.agg [.int .i64 0, .vals 7 [], .str [], .vals 6 []]), .d (.int .i64 1)] = some (.d (.int .i64 1)) := pureCall_eq fun H => e32z H 0 (by omega)
  simp [-List.getD_eq_getElem?_getD, -List.map_map, evBody, evCode, evOps, evOper, evOp, opd, Env.get, Env.put, Env.keep, zipEnv, V.ok, V.sto, V.cells, D.cells, V.isAgg, binD, binInt, binStr, shInt, unD, eqOf, asI, leave, resOf, mapO, fzV, fzC, tupOf, htake, hlen, view, view1, isData, hand, flatV, flatD, allD, mkAgg, mkVal, beq_lit, IntKind.bits, f10, okIn, lowIn, lowIn1, hload, rowOf, hget, hstore, hset, reCell, hpush, fills, setAt, p28, p29, p30, p31, p32]
theorem e10 (n : Int) : ev R 10 [.d (.int .i64 n)] [] = some (.d (.bool true), []) := by
  by_cases h1 : n = 1
  · rw [h1]; exact e10_1
  · by_cases h2 : n = 2
    · rw [h2]; exact e10_2
    · by_cases h3 : n = 3
      · rw [h3]; exact e10_3
      · exact e10_0 n (by omega)
namespace fnExactServerNew
theorem answers (n : Int) (w : World) (_ : (Lit.int IntKind.i64 n).wf = true) : Calls Try.prog 10 #[.int .i64 n] w fun e w' => e = .returned (.bool true) ∧ RowKit.Below w.heap.size w w' := by
  refine calls_bool prg_ok (xs := [.int .i64 n]) (e10 n) gr_tab rfl fun j hj => ?_
  match j, hj with
  | 0, _ => exact rd_int w .i64 n
end fnExactServerNew
end Go.Proofs.Ytpmphmpaeooeeaa.Code

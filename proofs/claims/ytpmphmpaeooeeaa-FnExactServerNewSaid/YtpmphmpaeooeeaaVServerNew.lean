/- What FnExactServerNew answers. -/
import Derived.Test.YtpmphmpaeooeeaaVServer
namespace Go.Proofs.Ytpmphmpaeooeeaa.Code
open Go Go.Ev Go.Proofs
set_option maxRecDepth 100000
set_option linter.unusedSimpArgs false
set_option linter.unusedVariables false
abbrev zcV : V := .agg [.d (.bool false), .d (.bool false), .nils 1, .nils 1, .d (.bool false), .nils 1]
theorem e56z (H : Hp) : ev R 56 [] H = some (.d zc, H) := by
  refine ev_fn (fn := f56) rfl rfl ?_
  have st : hstore (hpush H (.row 0 6 [zcV])) (hlen H) 0 0 0 [.d (.bool false), .d (.bool false), .d (.vals 1 []), .d (.vals 1 []), .d (.bool false), .d (.vals 1 [])] = some (hpush H (.row 0 6 [.d zc])) := by
    simp [hstore, rowOf_self, V.cells, reCell, V.isAgg, mkAgg, allD, hset_push]
  simp [-List.getD_eq_getElem?_getD, -List.map_map, evBody, evCode, evOps, evOper, evOp, opd, Env.get, Env.put, Env.keep, zipEnv, V.ok, V.sto, V.cells, D.cells, V.isAgg, binD, binInt, binStr, shInt, unD, eqOf, asI, leave, resOf, mapO, fzV, tupOf, view, view1, isData, hand, flatV, flatD, allD, mkAgg, mkVal, beq_lit, IntKind.bits, htake_self, htake_push, hget_hpush_self, hset_push, rowOf_self, okIn, lowIn, lowIn1, fzC_d, fzC_row, f56, fills, setAt, st, hload_box]
theorem e31n (H : Hp) (k : Int) : ev R 31 [.agg [.d (.int .i64 0), .nils 7, .d (.str []), .nils 6], .d (.int .i64 k)] H = some (.d (.int .i64 k), H) := by
  refine ev_fn (fn := f31) rfl rfl ?_
  have p59 : ∀ X : Hp, ev R 59 [.agg [.d (.int .i64 0), .nils 7], .d (.int .i64 k)] X = some (.d (.int .i64 k), X) := fun X => by
    refine ev_fn (fn := f59) rfl rfl ?_
    have p := fun Y => e75en Y k
    simp [-List.getD_eq_getElem?_getD, -List.map_map, evBody, evCode, evOps, evOper, evOp, opd, Env.get, Env.put, Env.keep, zipEnv, V.ok, V.sto, V.cells, D.cells, V.isAgg, binD, binInt, binStr, shInt, unD, eqOf, asI, leave, resOf, mapO, fzV, tupOf, view, view1, isData, hand, flatV, flatD, allD, mkAgg, mkVal, beq_lit, IntKind.bits, htake_self, htake_push, hget_hpush_self, hset_push, rowOf_self, okIn, lowIn, lowIn1, fzC_d, fzC_row, f59, p, hload_box]
  have p60 := fun X => e60e X k
  simp [-List.getD_eq_getElem?_getD, -List.map_map, evBody, evCode, evOps, evOper, evOp, opd, Env.get, Env.put, Env.keep, zipEnv, V.ok, V.sto, V.cells, D.cells, V.isAgg, binD, binInt, binStr, shInt, unD, eqOf, asI, leave, resOf, mapO, fzV, tupOf, view, view1, isData, hand, flatV, flatD, allD, mkAgg, mkVal, beq_lit, IntKind.bits, htake_self, htake_push, hget_hpush_self, hset_push, rowOf_self, okIn, lowIn, lowIn1, fzC_d, fzC_row, f31, p59, p60, hload_box]
theorem e59z (X : Hp) (k : Int) : ev R 59 [.d (.agg [.int .i64 0, .vals 7 []]), .d (.int .i64 k)] X = some (.d (.int .i64 k), X) := by
  refine ev_fn (fn := f59) rfl rfl ?_
  have p := fun Y => e75e Y k
  simp [-List.getD_eq_getElem?_getD, -List.map_map, evBody, evCode, evOps, evOper, evOp, opd, Env.get, Env.put, Env.keep, zipEnv, V.ok, V.sto, V.cells, D.cells, V.isAgg, binD, binInt, binStr, shInt, unD, eqOf, asI, leave, resOf, mapO, fzV, tupOf, view, view1, isData, hand, flatV, flatD, allD, mkAgg, mkVal, beq_lit, IntKind.bits, htake_self, htake_push, hget_hpush_self, hset_push, rowOf_self, okIn, lowIn, lowIn1, fzC_d, fzC_row, f59, p, hload_box]
theorem e60_1 (A B X : Ev.Obj) : ev R 60 [.slc 1 0 0 1, .d (.int .i64 1)] [A, .row 0 6 [.d zc], B, X] = some (.d (.int .i64 4), [A, .row 0 6 [.d zm], B, X]) := by
  refine ev_fn (fn := f60) rfl rfl ?_
  have p76 := fun Y k => e76e Y k
  have p77 := fun Y k => e77e Y k
  have w1 : IntKind.i64.wrap 1 = 1 := IntWalk.i64_in _ (by omega)
  have w2 : IntKind.i64.wrap 2 = 2 := IntWalk.i64_in _ (by omega)
  have w3 : IntKind.i64.wrap 3 = 3 := IntWalk.i64_in _ (by omega)
  have w4 : IntKind.i64.wrap 4 = 4 := IntWalk.i64_in _ (by omega)
  have L : ∃ e', evLoop (evCode (ev R) R.glob 4 evLoop f60l0) [0, 1, 5] ⟨[(0, .slc 1 0 0 1), (1, .d (.int .i64 1)), (5, .d (.int .i64 0))], [A, .row 0 6 [.d zc], B, X]⟩ = some (.exit 0, ⟨e', [A, .row 0 6 [.d zm], B, X]⟩) ∧ e'.get 1 = .d (.int .i64 4) := by
    rw [evLoop_eq]
    generalize hF0 : evLoop (evCode (ev R) R.glob 4 evLoop f60l0) [0, 1, 5] = F
    simp [-List.getD_eq_getElem?_getD, -List.map_map, evBody, evCode, evOps, evOper, evOp, opd, Env.get, Env.put, Env.keep, zipEnv, V.ok, V.sto, V.cells, D.cells, V.isAgg, binD, binInt, binStr, shInt, unD, eqOf, asI, leave, resOf, mapO, fzV, fzC, tupOf, htake, hlen, view, view1, isData, hand, flatV, flatD, allD, mkAgg, mkVal, beq_lit, IntKind.bits, f60l0, okIn, lowIn, lowIn1, hload, rowOf, hget, hstore, hset, reCell, hpush, fills, setAt, p76, p77, w1, w2, w3, w4]
    subst hF0
    rw [evLoop_eq]
    refine ⟨?_, ?_, ?_⟩
    rotate_left
    · simp [-List.getD_eq_getElem?_getD, -List.map_map, evBody, evCode, evOps, evOper, evOp, opd, Env.get, Env.put, Env.keep, zipEnv, V.ok, V.sto, V.cells, D.cells, V.isAgg, binD, binInt, binStr, shInt, unD, eqOf, asI, leave, resOf, mapO, fzV, fzC, tupOf, htake, hlen, view, view1, isData, hand, flatV, flatD, allD, mkAgg, mkVal, beq_lit, IntKind.bits, f60l0, okIn, lowIn, lowIn1, hload, rowOf, hget, hstore, hset, reCell, hpush, fills, setAt, p76, p77, w1, w2, w3, w4]
      try rfl
    · simp [-List.getD_eq_getElem?_getD, -List.map_map, evBody, evCode, evOps, evOper, evOp, opd, Env.get, Env.put, Env.keep, zipEnv, V.ok, V.sto, V.cells, D.cells, V.isAgg, binD, binInt, binStr, shInt, unD, eqOf, asI, leave, resOf, mapO, fzV, fzC, tupOf, htake, hlen, view, view1, isData, hand, flatV, flatD, allD, mkAgg, mkVal, beq_lit, IntKind.bits]
  obtain ⟨e', he, g1⟩ := L
  simp [-List.getD_eq_getElem?_getD, -List.map_map, evBody, evCode, evOps, evOper, evOp, opd, Env.get, Env.put, Env.keep, zipEnv, V.ok, V.sto, V.cells, D.cells, V.isAgg, binD, binInt, binStr, shInt, unD, eqOf, asI, leave, resOf, mapO, fzV, fzC, tupOf, htake, hlen, view, view1, isData, hand, flatV, flatD, allD, mkAgg, mkVal, beq_lit, IntKind.bits, f60, he, g1]
theorem e31_1 (A B : Ev.Obj) : ev R 31 [.agg [.d (.int .i64 0), .d (.vals 7 []), .d (.str []), .slc 1 0 0 1], .d (.int .i64 1)] [A, .row 0 6 [.d zc], B] = some (.d (.int .i64 4), [A, .row 0 6 [.d zm], B]) := by
  refine ev_fn (fn := f31) rfl rfl ?_
  have p59 := fun X => e59z X 1
  have p60 := fun X => e60_1 A B X
  simp [-List.getD_eq_getElem?_getD, -List.map_map, evBody, evCode, evOps, evOper, evOp, opd, Env.get, Env.put, Env.keep, zipEnv, V.ok, V.sto, V.cells, D.cells, V.isAgg, binD, binInt, binStr, shInt, unD, eqOf, asI, leave, resOf, mapO, fzV, fzC, tupOf, htake, hlen, view, view1, isData, hand, flatV, flatD, allD, mkAgg, mkVal, beq_lit, IntKind.bits, f31, okIn, lowIn, lowIn1, hload, rowOf, hget, hstore, hset, reCell, hpush, fills, setAt, p59, p60]
theorem e28_1 : ev R 28 [.d (.int .i64 1)] [] = some (.d (.agg [.int .i64 0, .vals 7 [], .str [], .vals 6 [zc]]), []) := by
  refine ev_fn (fn := f28) rfl rfl ?_
  have p := p37 1 1 3
  have p' : (decide ((1 : Int) ≥ 1) && decide ((1 : Int) ≤ 3)) = true := by decide
  rw [p'] at p
  have w1 : IntKind.i64.wrap 1 = 1 := IntWalk.i64_in _ (by omega)
  have rm1 : 1 * 88 ≤ room := by unfold room; omega
  have rm0 : 88 ≤ room := by unfold room; omega
  have L : ∃ e', evLoop (evCode (ev R) R.glob 0 evLoop f28l0) [0, 2, 3, 4] ⟨[(0, .d (.int .i64 1)), (2, .ptr 0 0 0 0), (3, .ptr 1 0 0 0), (4, .d (.int .i64 0))], [.row 0 4 [.agg [.d (.int .i64 0), .nils 7, .d (.str []), .nils 6]], .row 0 4 [.agg [.d (.int .i64 0), .nils 7, .d (.str []), .nils 6]]]⟩ = some (.exit 0, ⟨e', [.row 0 4 [.agg [.d (.int .i64 0), .nils 7, .d (.str []), .nils 6]], .row 0 4 [.agg [.d (.int .i64 0), .nils 7, .d (.str []), .slc 3 0 0 1]], .row 0 6 [zcV], .row 0 6 [zcV]]⟩) ∧ e'.get 2 = .ptr 0 0 0 0 ∧ e'.get 3 = .ptr 1 0 0 0 := by
    rw [evLoop_eq]
    generalize hF0 : evLoop (evCode (ev R) R.glob 0 evLoop f28l0) [0, 2, 3, 4] = F
    simp [-List.getD_eq_getElem?_getD, -List.map_map, evBody, evCode, evOps, evOper, evOp, opd, Env.get, Env.put, Env.keep, zipEnv, V.ok, V.sto, V.cells, D.cells, V.isAgg, binD, binInt, binStr, shInt, unD, eqOf, asI, leave, resOf, mapO, fzV, fzC, tupOf, htake, hlen, view, view1, isData, hand, flatV, flatD, allD, mkAgg, mkVal, beq_lit, IntKind.bits, f28l0, okIn, lowIn, lowIn1, hload, rowOf, hget, hstore, hset, reCell, hpush, fills, setAt, src, okIn, p, w1, rm0, rm1]
    subst hF0
    rw [evLoop_eq]
    refine ⟨?_, ?_, ?_, ?_⟩
    rotate_left
    · simp [-List.getD_eq_getElem?_getD, -List.map_map, evBody, evCode, evOps, evOper, evOp, opd, Env.get, Env.put, Env.keep, zipEnv, V.ok, V.sto, V.cells, D.cells, V.isAgg, binD, binInt, binStr, shInt, unD, eqOf, asI, leave, resOf, mapO, fzV, fzC, tupOf, htake, hlen, view, view1, isData, hand, flatV, flatD, allD, mkAgg, mkVal, beq_lit, IntKind.bits, f28l0, okIn, lowIn, lowIn1, hload, rowOf, hget, hstore, hset, reCell, hpush, fills, setAt, p, w1]
      try rfl
    · simp [-List.getD_eq_getElem?_getD, -List.map_map, evBody, evCode, evOps, evOper, evOp, opd, Env.get, Env.put, Env.keep, zipEnv, V.ok, V.sto, V.cells, D.cells, V.isAgg, binD, binInt, binStr, shInt, unD, eqOf, asI, leave, resOf, mapO, fzV, fzC, tupOf, htake, hlen, view, view1, isData, hand, flatV, flatD, allD, mkAgg, mkVal, beq_lit, IntKind.bits]
    · simp [-List.getD_eq_getElem?_getD, -List.map_map, evBody, evCode, evOps, evOper, evOp, opd, Env.get, Env.put, Env.keep, zipEnv, V.ok, V.sto, V.cells, D.cells, V.isAgg, binD, binInt, binStr, shInt, unD, eqOf, asI, leave, resOf, mapO, fzV, fzC, tupOf, htake, hlen, view, view1, isData, hand, flatV, flatD, allD, mkAgg, mkVal, beq_lit, IntKind.bits]
  obtain ⟨e', he, g2, g3⟩ := L
  simp [-List.getD_eq_getElem?_getD, -List.map_map, evBody, evCode, evOps, evOper, evOp, opd, Env.get, Env.put, Env.keep, zipEnv, V.ok, V.sto, V.cells, D.cells, V.isAgg, binD, binInt, binStr, shInt, unD, eqOf, asI, leave, resOf, mapO, fzV, fzC, tupOf, htake, hlen, view, view1, isData, hand, flatV, flatD, allD, mkAgg, mkVal, beq_lit, IntKind.bits, f28, okIn, lowIn, lowIn1, hload, rowOf, hget, hstore, hset, reCell, hpush, fills, setAt, okIn, he, g2, g3, fz, deep]
theorem e29a_1 (A : Ev.Obj) : ev R 29 [.d (.int .i64 1)] [A] = some (.agg [.d (.int .i64 0), .d (.vals 7 []), .d (.str []), .slc 1 0 0 1], [A, .row 0 6 [.d zc]]) := by
  refine ev_fn (fn := f29) rfl rfl ?_
  have p := p35 1 1 3
  have p' : (decide ((1 : Int) ≥ 1) && decide ((1 : Int) ≤ 3)) = true := by decide
  rw [p'] at p
  have q := pureCall_eq (cl := ev R) fun H => e56z H
  have w1 : IntKind.i64.wrap 1 = 1 := IntWalk.i64_in _ (by omega)
  have rm1 : 1 * 88 ≤ room := by unfold room; omega
  have rm0 : 88 ≤ room := by unfold room; omega
  have L : ∃ e', evLoop (evCode (ev R) R.glob 1 evLoop f29l0) [2, 3, 12, 13] ⟨[(2, .ptr 1 0 0 0), (3, .ptr 3 0 0 0), (12, .d (.int .i64 1)), (13, .d (.int .i64 0))], [A, .row 0 4 [.agg [.d (.int .i64 0), .nils 7, .d (.str []), .nils 6]], .row 0 6 [], .row 0 4 [.agg [.d (.int .i64 0), .d (.vals 7 []), .d (.str []), .slc 2 0 0 0]]]⟩ = some (.exit 0, ⟨e', [A, .row 0 4 [.agg [.d (.int .i64 0), .nils 7, .d (.str []), .nils 6]], .row 1 6 [.d zc], .row 0 4 [.agg [.d (.int .i64 0), .d (.vals 7 []), .d (.str []), .slc 2 1 0 1]]]⟩) ∧ e'.get 2 = .ptr 1 0 0 0 ∧ e'.get 3 = .ptr 3 0 0 0 := by
    rw [evLoop_eq]
    generalize hF0 : evLoop (evCode (ev R) R.glob 1 evLoop f29l0) [2, 3, 12, 13] = F
    simp [-List.getD_eq_getElem?_getD, -List.map_map, evBody, evCode, evOps, evOper, evOp, opd, Env.get, Env.put, Env.keep, zipEnv, V.ok, V.sto, V.cells, D.cells, V.isAgg, binD, binInt, binStr, shInt, unD, eqOf, asI, leave, resOf, mapO, fzV, fzC, tupOf, htake, hlen, view, view1, isData, hand, flatV, flatD, allD, mkAgg, mkVal, beq_lit, IntKind.bits, f29l0, okIn, lowIn, lowIn1, hload, rowOf, hget, hstore, hset, reCell, hpush, fills, setAt, src, okIn, q, w1, rm0, rm1]
    subst hF0
    rw [evLoop_eq]
    refine ⟨?_, ?_, ?_, ?_⟩
    rotate_left
    · simp [-List.getD_eq_getElem?_getD, -List.map_map, evBody, evCode, evOps, evOper, evOp, opd, Env.get, Env.put, Env.keep, zipEnv, V.ok, V.sto, V.cells, D.cells, V.isAgg, binD, binInt, binStr, shInt, unD, eqOf, asI, leave, resOf, mapO, fzV, fzC, tupOf, htake, hlen, view, view1, isData, hand, flatV, flatD, allD, mkAgg, mkVal, beq_lit, IntKind.bits, f29l0, okIn, lowIn, lowIn1, hload, rowOf, hget, hstore, hset, reCell, hpush, fills, setAt, w1]
      try rfl
    · simp [-List.getD_eq_getElem?_getD, -List.map_map, evBody, evCode, evOps, evOper, evOp, opd, Env.get, Env.put, Env.keep, zipEnv, V.ok, V.sto, V.cells, D.cells, V.isAgg, binD, binInt, binStr, shInt, unD, eqOf, asI, leave, resOf, mapO, fzV, fzC, tupOf, htake, hlen, view, view1, isData, hand, flatV, flatD, allD, mkAgg, mkVal, beq_lit, IntKind.bits]
    · simp [-List.getD_eq_getElem?_getD, -List.map_map, evBody, evCode, evOps, evOper, evOp, opd, Env.get, Env.put, Env.keep, zipEnv, V.ok, V.sto, V.cells, D.cells, V.isAgg, binD, binInt, binStr, shInt, unD, eqOf, asI, leave, resOf, mapO, fzV, fzC, tupOf, htake, hlen, view, view1, isData, hand, flatV, flatD, allD, mkAgg, mkVal, beq_lit, IntKind.bits]
  obtain ⟨e', he, g2, g3⟩ := L
  simp [-List.getD_eq_getElem?_getD, -List.map_map, evBody, evCode, evOps, evOper, evOp, opd, Env.get, Env.put, Env.keep, zipEnv, V.ok, V.sto, V.cells, D.cells, V.isAgg, binD, binInt, binStr, shInt, unD, eqOf, asI, leave, resOf, mapO, fzV, fzC, tupOf, htake, hlen, view, view1, isData, hand, flatV, flatD, allD, mkAgg, mkVal, beq_lit, IntKind.bits, f29, okIn, lowIn, lowIn1, hload, rowOf, hget, hstore, hset, reCell, hpush, fills, setAt, okIn, lowIn, lowIn1, p, he, g2, g3, ownL, ownCs, own1, ownEs, ownEl, layer]
theorem e29b_1 (A C B : Ev.Obj) : ev R 29 [.d (.int .i64 1)] [A, C, B] = some (.agg [.d (.int .i64 0), .d (.vals 7 []), .d (.str []), .slc 3 0 0 1], [A, C, B, .row 0 6 [.d zc]]) := by
  refine ev_fn (fn := f29) rfl rfl ?_
  have p := p35 1 1 3
  have p' : (decide ((1 : Int) ≥ 1) && decide ((1 : Int) ≤ 3)) = true := by decide
  rw [p'] at p
  have q := pureCall_eq (cl := ev R) fun H => e56z H
  have w1 : IntKind.i64.wrap 1 = 1 := IntWalk.i64_in _ (by omega)
  have rm1 : 1 * 88 ≤ room := by unfold room; omega
  have rm0 : 88 ≤ room := by unfold room; omega
  have L : ∃ e', evLoop (evCode (ev R) R.glob 3 evLoop f29l0) [2, 3, 12, 13] ⟨[(2, .ptr 3 0 0 0), (3, .ptr 5 0 0 0), (12, .d (.int .i64 1)), (13, .d (.int .i64 0))], [A, C, B, .row 0 4 [.agg [.d (.int .i64 0), .nils 7, .d (.str []), .nils 6]], .row 0 6 [], .row 0 4 [.agg [.d (.int .i64 0), .d (.vals 7 []), .d (.str []), .slc 4 0 0 0]]]⟩ = some (.exit 0, ⟨e', [A, C, B, .row 0 4 [.agg [.d (.int .i64 0), .nils 7, .d (.str []), .nils 6]], .row 1 6 [.d zc], .row 0 4 [.agg [.d (.int .i64 0), .d (.vals 7 []), .d (.str []), .slc 4 1 0 1]]]⟩) ∧ e'.get 2 = .ptr 3 0 0 0 ∧ e'.get 3 = .ptr 5 0 0 0 := by
    rw [evLoop_eq]
    generalize hF0 : evLoop (evCode (ev R) R.glob 3 evLoop f29l0) [2, 3, 12, 13] = F
    simp [-List.getD_eq_getElem?_getD, -List.map_map, evBody, evCode, evOps, evOper, evOp, opd, Env.get, Env.put, Env.keep, zipEnv, V.ok, V.sto, V.cells, D.cells, V.isAgg, binD, binInt, binStr, shInt, unD, eqOf, asI, leave, resOf, mapO, fzV, fzC, tupOf, htake, hlen, view, view1, isData, hand, flatV, flatD, allD, mkAgg, mkVal, beq_lit, IntKind.bits, f29l0, okIn, lowIn, lowIn1, hload, rowOf, hget, hstore, hset, reCell, hpush, fills, setAt, src, okIn, q, w1, rm0, rm1]
    subst hF0
    rw [evLoop_eq]
    refine ⟨?_, ?_, ?_, ?_⟩
    rotate_left
    · simp [-List.getD_eq_getElem?_getD, -List.map_map, evBody, evCode, evOps, evOper, evOp, opd, Env.get, Env.put, Env.keep, zipEnv, V.ok, V.sto, V.cells, D.cells, V.isAgg, binD, binInt, binStr, shInt, unD, eqOf, asI, leave, resOf, mapO, fzV, fzC, tupOf, htake, hlen, view, view1, isData, hand, flatV, flatD, allD, mkAgg, mkVal, beq_lit, IntKind.bits, f29l0, okIn, lowIn, lowIn1, hload, rowOf, hget, hstore, hset, reCell, hpush, fills, setAt, w1]
      try rfl
    · simp [-List.getD_eq_getElem?_getD, -List.map_map, evBody, evCode, evOps, evOper, evOp, opd, Env.get, Env.put, Env.keep, zipEnv, V.ok, V.sto, V.cells, D.cells, V.isAgg, binD, binInt, binStr, shInt, unD, eqOf, asI, leave, resOf, mapO, fzV, fzC, tupOf, htake, hlen, view, view1, isData, hand, flatV, flatD, allD, mkAgg, mkVal, beq_lit, IntKind.bits]
    · simp [-List.getD_eq_getElem?_getD, -List.map_map, evBody, evCode, evOps, evOper, evOp, opd, Env.get, Env.put, Env.keep, zipEnv, V.ok, V.sto, V.cells, D.cells, V.isAgg, binD, binInt, binStr, shInt, unD, eqOf, asI, leave, resOf, mapO, fzV, fzC, tupOf, htake, hlen, view, view1, isData, hand, flatV, flatD, allD, mkAgg, mkVal, beq_lit, IntKind.bits]
  obtain ⟨e', he, g2, g3⟩ := L
  simp [-List.getD_eq_getElem?_getD, -List.map_map, evBody, evCode, evOps, evOper, evOp, opd, Env.get, Env.put, Env.keep, zipEnv, V.ok, V.sto, V.cells, D.cells, V.isAgg, binD, binInt, binStr, shInt, unD, eqOf, asI, leave, resOf, mapO, fzV, fzC, tupOf, htake, hlen, view, view1, isData, hand, flatV, flatD, allD, mkAgg, mkVal, beq_lit, IntKind.bits, f29, okIn, lowIn, lowIn1, hload, rowOf, hget, hstore, hset, reCell, hpush, fills, setAt, okIn, lowIn, lowIn1, p, he, g2, g3, ownL, ownCs, own1, ownEs, ownEl, layer]
theorem e60_2 (A B X : Ev.Obj) : ev R 60 [.slc 1 0 0 2, .d (.int .i64 1)] [A, .row 0 6 [.d zc, .d zc], B, X] = some (.d (.int .i64 7), [A, .row 0 6 [.d zm, .d zm], B, X]) := by
  refine ev_fn (fn := f60) rfl rfl ?_
  have p76 := fun Y k => e76e Y k
  have p77 := fun Y k => e77e Y k
  have w1 : IntKind.i64.wrap 1 = 1 := IntWalk.i64_in _ (by omega)
  have w2 : IntKind.i64.wrap 2 = 2 := IntWalk.i64_in _ (by omega)
  have w3 : IntKind.i64.wrap 3 = 3 := IntWalk.i64_in _ (by omega)
  have w4 : IntKind.i64.wrap 4 = 4 := IntWalk.i64_in _ (by omega)
  have w5 : IntKind.i64.wrap 5 = 5 := IntWalk.i64_in _ (by omega)
  have w6 : IntKind.i64.wrap 6 = 6 := IntWalk.i64_in _ (by omega)
  have w7 : IntKind.i64.wrap 7 = 7 := IntWalk.i64_in _ (by omega)
  have L : ∃ e', evLoop (evCode (ev R) R.glob 4 evLoop f60l0) [0, 1, 5] ⟨[(0, .slc 1 0 0 2), (1, .d (.int .i64 1)), (5, .d (.int .i64 0))], [A, .row 0 6 [.d zc, .d zc], B, X]⟩ = some (.exit 0, ⟨e', [A, .row 0 6 [.d zm, .d zm], B, X]⟩) ∧ e'.get 1 = .d (.int .i64 7) := by
    rw [evLoop_eq]
    generalize hF0 : evLoop (evCode (ev R) R.glob 4 evLoop f60l0) [0, 1, 5] = F
    simp [-List.getD_eq_getElem?_getD, -List.map_map, evBody, evCode, evOps, evOper, evOp, opd, Env.get, Env.put, Env.keep, zipEnv, V.ok, V.sto, V.cells, D.cells, V.isAgg, binD, binInt, binStr, shInt, unD, eqOf, asI, leave, resOf, mapO, fzV, fzC, tupOf, htake, hlen, view, view1, isData, hand, flatV, flatD, allD, mkAgg, mkVal, beq_lit, IntKind.bits, f60l0, okIn, lowIn, lowIn1, hload, rowOf, hget, hstore, hset, reCell, hpush, fills, setAt, p76, p77, w1, w2, w3, w4, w5, w6, w7]
    subst hF0
    rw [evLoop_eq]
    generalize hF1 : evLoop (evCode (ev R) R.glob 4 evLoop f60l0) [0, 1, 5] = F
    simp [-List.getD_eq_getElem?_getD, -List.map_map, evBody, evCode, evOps, evOper, evOp, opd, Env.get, Env.put, Env.keep, zipEnv, V.ok, V.sto, V.cells, D.cells, V.isAgg, binD, binInt, binStr, shInt, unD, eqOf, asI, leave, resOf, mapO, fzV, fzC, tupOf, htake, hlen, view, view1, isData, hand, flatV, flatD, allD, mkAgg, mkVal, beq_lit, IntKind.bits, f60l0, okIn, lowIn, lowIn1, hload, rowOf, hget, hstore, hset, reCell, hpush, fills, setAt, p76, p77, w1, w2, w3, w4, w5, w6, w7]
    subst hF1
    rw [evLoop_eq]
    refine ⟨?_, ?_, ?_⟩
    rotate_left
    · simp [-List.getD_eq_getElem?_getD, -List.map_map, evBody, evCode, evOps, evOper, evOp, opd, Env.get, Env.put, Env.keep, zipEnv, V.ok, V.sto, V.cells, D.cells, V.isAgg, binD, binInt, binStr, shInt, unD, eqOf, asI, leave, resOf, mapO, fzV, fzC, tupOf, htake, hlen, view, view1, isData, hand, flatV, flatD, allD, mkAgg, mkVal, beq_lit, IntKind.bits, f60l0, okIn, lowIn, lowIn1, hload, rowOf, hget, hstore, hset, reCell, hpush, fills, setAt, p76, p77, w1, w2, w3, w4, w5, w6, w7]
      try rfl
    · simp [-List.getD_eq_getElem?_getD, -List.map_map, evBody, evCode, evOps, evOper, evOp, opd, Env.get, Env.put, Env.keep, zipEnv, V.ok, V.sto, V.cells, D.cells, V.isAgg, binD, binInt, binStr, shInt, unD, eqOf, asI, leave, resOf, mapO, fzV, fzC, tupOf, htake, hlen, view, view1, isData, hand, flatV, flatD, allD, mkAgg, mkVal, beq_lit, IntKind.bits]
  obtain ⟨e', he, g1⟩ := L
  simp [-List.getD_eq_getElem?_getD, -List.map_map, evBody, evCode, evOps, evOper, evOp, opd, Env.get, Env.put, Env.keep, zipEnv, V.ok, V.sto, V.cells, D.cells, V.isAgg, binD, binInt, binStr, shInt, unD, eqOf, asI, leave, resOf, mapO, fzV, fzC, tupOf, htake, hlen, view, view1, isData, hand, flatV, flatD, allD, mkAgg, mkVal, beq_lit, IntKind.bits, f60, he, g1]
theorem e31_2 (A B : Ev.Obj) : ev R 31 [.agg [.d (.int .i64 0), .d (.vals 7 []), .d (.str []), .slc 1 0 0 2], .d (.int .i64 1)] [A, .row 0 6 [.d zc, .d zc], B] = some (.d (.int .i64 7), [A, .row 0 6 [.d zm, .d zm], B]) := by
  refine ev_fn (fn := f31) rfl rfl ?_
  have p59 := fun X => e59z X 1
  have p60 := fun X => e60_2 A B X
  simp [-List.getD_eq_getElem?_getD, -List.map_map, evBody, evCode, evOps, evOper, evOp, opd, Env.get, Env.put, Env.keep, zipEnv, V.ok, V.sto, V.cells, D.cells, V.isAgg, binD, binInt, binStr, shInt, unD, eqOf, asI, leave, resOf, mapO, fzV, fzC, tupOf, htake, hlen, view, view1, isData, hand, flatV, flatD, allD, mkAgg, mkVal, beq_lit, IntKind.bits, f31, okIn, lowIn, lowIn1, hload, rowOf, hget, hstore, hset, reCell, hpush, fills, setAt, p59, p60]
theorem e28_2 : ev R 28 [.d (.int .i64 2)] [] = some (.d (.agg [.int .i64 0, .vals 7 [], .str [], .vals 6 [zc, zc]]), []) := by
  refine ev_fn (fn := f28) rfl rfl ?_
  have p := p37 2 1 3
  have p' : (decide ((2 : Int) ≥ 1) && decide ((2 : Int) ≤ 3)) = true := by decide
  rw [p'] at p
  have w1 : IntKind.i64.wrap 1 = 1 := IntWalk.i64_in _ (by omega)
  have w2 : IntKind.i64.wrap 2 = 2 := IntWalk.i64_in _ (by omega)
  have rm1 : 1 * 88 ≤ room := by unfold room; omega
  have rm2 : 2 * 88 ≤ room := by unfold room; omega
  have rm0 : 88 ≤ room := by unfold room; omega
  have L : ∃ e', evLoop (evCode (ev R) R.glob 0 evLoop f28l0) [0, 2, 3, 4] ⟨[(0, .d (.int .i64 2)), (2, .ptr 0 0 0 0), (3, .ptr 1 0 0 0), (4, .d (.int .i64 0))], [.row 0 4 [.agg [.d (.int .i64 0), .nils 7, .d (.str []), .nils 6]], .row 0 4 [.agg [.d (.int .i64 0), .nils 7, .d (.str []), .nils 6]]]⟩ = some (.exit 0, ⟨e', [.row 0 4 [.agg [.d (.int .i64 0), .nils 7, .d (.str []), .nils 6]], .row 0 4 [.agg [.d (.int .i64 0), .nils 7, .d (.str []), .slc 3 1 0 2]], .row 0 6 [zcV], .row 1 6 [zcV, zcV], .row 0 6 [zcV]]⟩) ∧ e'.get 2 = .ptr 0 0 0 0 ∧ e'.get 3 = .ptr 1 0 0 0 := by
    rw [evLoop_eq]
    generalize hF0 : evLoop (evCode (ev R) R.glob 0 evLoop f28l0) [0, 2, 3, 4] = F
    simp [-List.getD_eq_getElem?_getD, -List.map_map, evBody, evCode, evOps, evOper, evOp, opd, Env.get, Env.put, Env.keep, zipEnv, V.ok, V.sto, V.cells, D.cells, V.isAgg, binD, binInt, binStr, shInt, unD, eqOf, asI, leave, resOf, mapO, fzV, fzC, tupOf, htake, hlen, view, view1, isData, hand, flatV, flatD, allD, mkAgg, mkVal, beq_lit, IntKind.bits, f28l0, okIn, lowIn, lowIn1, hload, rowOf, hget, hstore, hset, reCell, hpush, fills, setAt, src, okIn, p, w1, w2, rm0, rm1, rm2]
    subst hF0
    rw [evLoop_eq]
    generalize hF1 : evLoop (evCode (ev R) R.glob 0 evLoop f28l0) [0, 2, 3, 4] = F
    simp [-List.getD_eq_getElem?_getD, -List.map_map, evBody, evCode, evOps, evOper, evOp, opd, Env.get, Env.put, Env.keep, zipEnv, V.ok, V.sto, V.cells, D.cells, V.isAgg, binD, binInt, binStr, shInt, unD, eqOf, asI, leave, resOf, mapO, fzV, fzC, tupOf, htake, hlen, view, view1, isData, hand, flatV, flatD, allD, mkAgg, mkVal, beq_lit, IntKind.bits, f28l0, okIn, lowIn, lowIn1, hload, rowOf, hget, hstore, hset, reCell, hpush, fills, setAt, src, okIn, p, w1, w2, rm0, rm1, rm2]
    subst hF1
    rw [evLoop_eq]
    refine ⟨?_, ?_, ?_, ?_⟩
    rotate_left
    · simp [-List.getD_eq_getElem?_getD, -List.map_map, evBody, evCode, evOps, evOper, evOp, opd, Env.get, Env.put, Env.keep, zipEnv, V.ok, V.sto, V.cells, D.cells, V.isAgg, binD, binInt, binStr, shInt, unD, eqOf, asI, leave, resOf, mapO, fzV, fzC, tupOf, htake, hlen, view, view1, isData, hand, flatV, flatD, allD, mkAgg, mkVal, beq_lit, IntKind.bits, f28l0, okIn, lowIn, lowIn1, hload, rowOf, hget, hstore, hset, reCell, hpush, fills, setAt, p, w1, w2]
      try rfl
    · simp [-List.getD_eq_getElem?_getD, -List.map_map, evBody, evCode, evOps, evOper, evOp, opd, Env.get, Env.put, Env.keep, zipEnv, V.ok, V.sto, V.cells, D.cells, V.isAgg, binD, binInt, binStr, shInt, unD, eqOf, asI, leave, resOf, mapO, fzV, fzC, tupOf, htake, hlen, view, view1, isData, hand, flatV, flatD, allD, mkAgg, mkVal, beq_lit, IntKind.bits]
    · simp [-List.getD_eq_getElem?_getD, -List.map_map, evBody, evCode, evOps, evOper, evOp, opd, Env.get, Env.put, Env.keep, zipEnv, V.ok, V.sto, V.cells, D.cells, V.isAgg, binD, binInt, binStr, shInt, unD, eqOf, asI, leave, resOf, mapO, fzV, fzC, tupOf, htake, hlen, view, view1, isData, hand, flatV, flatD, allD, mkAgg, mkVal, beq_lit, IntKind.bits]
  obtain ⟨e', he, g2, g3⟩ := L
  simp [-List.getD_eq_getElem?_getD, -List.map_map, evBody, evCode, evOps, evOper, evOp, opd, Env.get, Env.put, Env.keep, zipEnv, V.ok, V.sto, V.cells, D.cells, V.isAgg, binD, binInt, binStr, shInt, unD, eqOf, asI, leave, resOf, mapO, fzV, fzC, tupOf, htake, hlen, view, view1, isData, hand, flatV, flatD, allD, mkAgg, mkVal, beq_lit, IntKind.bits, f28, okIn, lowIn, lowIn1, hload, rowOf, hget, hstore, hset, reCell, hpush, fills, setAt, okIn, he, g2, g3, fz, deep]
theorem e29a_2 (A : Ev.Obj) : ev R 29 [.d (.int .i64 2)] [A] = some (.agg [.d (.int .i64 0), .d (.vals 7 []), .d (.str []), .slc 1 0 0 2], [A, .row 0 6 [.d zc, .d zc]]) := by
  refine ev_fn (fn := f29) rfl rfl ?_
  have p := p35 2 1 3
  have p' : (decide ((2 : Int) ≥ 1) && decide ((2 : Int) ≤ 3)) = true := by decide
  rw [p'] at p
  have q := pureCall_eq (cl := ev R) fun H => e56z H
  have w1 : IntKind.i64.wrap 1 = 1 := IntWalk.i64_in _ (by omega)
  have w2 : IntKind.i64.wrap 2 = 2 := IntWalk.i64_in _ (by omega)
  have rm1 : 1 * 88 ≤ room := by unfold room; omega
  have rm2 : 2 * 88 ≤ room := by unfold room; omega
  have rm0 : 88 ≤ room := by unfold room; omega
  have L : ∃ e', evLoop (evCode (ev R) R.glob 1 evLoop f29l0) [2, 3, 12, 13] ⟨[(2, .ptr 1 0 0 0), (3, .ptr 3 0 0 0), (12, .d (.int .i64 2)), (13, .d (.int .i64 0))], [A, .row 0 4 [.agg [.d (.int .i64 0), .nils 7, .d (.str []), .nils 6]], .row 0 6 [], .row 0 4 [.agg [.d (.int .i64 0), .d (.vals 7 []), .d (.str []), .slc 2 0 0 0]]]⟩ = some (.exit 0, ⟨e', [A, .row 0 4 [.agg [.d (.int .i64 0), .nils 7, .d (.str []), .nils 6]], .row 2 6 [.d zc, .d zc], .row 0 4 [.agg [.d (.int .i64 0), .d (.vals 7 []), .d (.str []), .slc 2 2 0 2]]]⟩) ∧ e'.get 2 = .ptr 1 0 0 0 ∧ e'.get 3 = .ptr 3 0 0 0 := by
    rw [evLoop_eq]
    generalize hF0 : evLoop (evCode (ev R) R.glob 1 evLoop f29l0) [2, 3, 12, 13] = F
    simp [-List.getD_eq_getElem?_getD, -List.map_map, evBody, evCode, evOps, evOper, evOp, opd, Env.get, Env.put, Env.keep, zipEnv, V.ok, V.sto, V.cells, D.cells, V.isAgg, binD, binInt, binStr, shInt, unD, eqOf, asI, leave, resOf, mapO, fzV, fzC, tupOf, htake, hlen, view, view1, isData, hand, flatV, flatD, allD, mkAgg, mkVal, beq_lit, IntKind.bits, f29l0, okIn, lowIn, lowIn1, hload, rowOf, hget, hstore, hset, reCell, hpush, fills, setAt, src, okIn, q, w1, w2, rm0, rm1, rm2]
    subst hF0
    rw [evLoop_eq]
    generalize hF1 : evLoop (evCode (ev R) R.glob 1 evLoop f29l0) [2, 3, 12, 13] = F
    simp [-List.getD_eq_getElem?_getD, -List.map_map, evBody, evCode, evOps, evOper, evOp, opd, Env.get, Env.put, Env.keep, zipEnv, V.ok, V.sto, V.cells, D.cells, V.isAgg, binD, binInt, binStr, shInt, unD, eqOf, asI, leave, resOf, mapO, fzV, fzC, tupOf, htake, hlen, view, view1, isData, hand, flatV, flatD, allD, mkAgg, mkVal, beq_lit, IntKind.bits, f29l0, okIn, lowIn, lowIn1, hload, rowOf, hget, hstore, hset, reCell, hpush, fills, setAt, src, okIn, q, w1, w2, rm0, rm1, rm2]
    subst hF1
    rw [evLoop_eq]
    refine ⟨?_, ?_, ?_, ?_⟩
    rotate_left
    · simp [-List.getD_eq_getElem?_getD, -List.map_map, evBody, evCode, evOps, evOper, evOp, opd, Env.get, Env.put, Env.keep, zipEnv, V.ok, V.sto, V.cells, D.cells, V.isAgg, binD, binInt, binStr, shInt, unD, eqOf, asI, leave, resOf, mapO, fzV, fzC, tupOf, htake, hlen, view, view1, isData, hand, flatV, flatD, allD, mkAgg, mkVal, beq_lit, IntKind.bits, f29l0, okIn, lowIn, lowIn1, hload, rowOf, hget, hstore, hset, reCell, hpush, fills, setAt, w1, w2]
      try rfl
    · simp [-List.getD_eq_getElem?_getD, -List.map_map, evBody, evCode, evOps, evOper, evOp, opd, Env.get, Env.put, Env.keep, zipEnv, V.ok, V.sto, V.cells, D.cells, V.isAgg, binD, binInt, binStr, shInt, unD, eqOf, asI, leave, resOf, mapO, fzV, fzC, tupOf, htake, hlen, view, view1, isData, hand, flatV, flatD, allD, mkAgg, mkVal, beq_lit, IntKind.bits]
    · simp [-List.getD_eq_getElem?_getD, -List.map_map, evBody, evCode, evOps, evOper, evOp, opd, Env.get, Env.put, Env.keep, zipEnv, V.ok, V.sto, V.cells, D.cells, V.isAgg, binD, binInt, binStr, shInt, unD, eqOf, asI, leave, resOf, mapO, fzV, fzC, tupOf, htake, hlen, view, view1, isData, hand, flatV, flatD, allD, mkAgg, mkVal, beq_lit, IntKind.bits]
  obtain ⟨e', he, g2, g3⟩ := L
  simp [-List.getD_eq_getElem?_getD, -List.map_map, evBody, evCode, evOps, evOper, evOp, opd, Env.get, Env.put, Env.keep, zipEnv, V.ok, V.sto, V.cells, D.cells, V.isAgg, binD, binInt, binStr, shInt, unD, eqOf, asI, leave, resOf, mapO, fzV, fzC, tupOf, htake, hlen, view, view1, isData, hand, flatV, flatD, allD, mkAgg, mkVal, beq_lit, IntKind.bits, f29, okIn, lowIn, lowIn1, hload, rowOf, hget, hstore, hset, reCell, hpush, fills, setAt, okIn, lowIn, lowIn1, p, he, g2, g3, ownL, ownCs, own1, ownEs, ownEl, layer]
theorem e29b_2 (A C B : Ev.Obj) : ev R 29 [.d (.int .i64 2)] [A, C, B] = some (.agg [.d (.int .i64 0), .d (.vals 7 []), .d (.str []), .slc 3 0 0 2], [A, C, B, .row 0 6 [.d zc, .d zc]]) := by
  refine ev_fn (fn := f29) rfl rfl ?_
  have p := p35 2 1 3
  have p' : (decide ((2 : Int) ≥ 1) && decide ((2 : Int) ≤ 3)) = true := by decide
  rw [p'] at p
  have q := pureCall_eq (cl := ev R) fun H => e56z H
  have w1 : IntKind.i64.wrap 1 = 1 := IntWalk.i64_in _ (by omega)
  have w2 : IntKind.i64.wrap 2 = 2 := IntWalk.i64_in _ (by omega)
  have rm1 : 1 * 88 ≤ room := by unfold room; omega
  have rm2 : 2 * 88 ≤ room := by unfold room; omega
  have rm0 : 88 ≤ room := by unfold room; omega
  have L : ∃ e', evLoop (evCode (ev R) R.glob 3 evLoop f29l0) [2, 3, 12, 13] ⟨[(2, .ptr 3 0 0 0), (3, .ptr 5 0 0 0), (12, .d (.int .i64 2)), (13, .d (.int .i64 0))], [A, C, B, .row 0 4 [.agg [.d (.int .i64 0), .nils 7, .d (.str []), .nils 6]], .row 0 6 [], .row 0 4 [.agg [.d (.int .i64 0), .d (.vals 7 []), .d (.str []), .slc 4 0 0 0]]]⟩ = some (.exit 0, ⟨e', [A, C, B, .row 0 4 [.agg [.d (.int .i64 0), .nils 7, .d (.str []), .nils 6]], .row 2 6 [.d zc, .d zc], .row 0 4 [.agg [.d (.int .i64 0), .d (.vals 7 []), .d (.str []), .slc 4 2 0 2]]]⟩) ∧ e'.get 2 = .ptr 3 0 0 0 ∧ e'.get 3 = .ptr 5 0 0 0 := by
    rw [evLoop_eq]
    generalize hF0 : evLoop (evCode (ev R) R.glob 3 evLoop f29l0) [2, 3, 12, 13] = F
    simp [-List.getD_eq_getElem?_getD, -List.map_map, evBody, evCode, evOps, evOper, evOp, opd, Env.get, Env.put, Env.keep, zipEnv, V.ok, V.sto, V.cells, D.cells, V.isAgg, binD, binInt, binStr, shInt, unD, eqOf, asI, leave, resOf, mapO, fzV, fzC, tupOf, htake, hlen, view, view1, isData, hand, flatV, flatD, allD, mkAgg, mkVal, beq_lit, IntKind.bits, f29l0, okIn, lowIn, lowIn1, hload, rowOf, hget, hstore, hset, reCell, hpush, fills, setAt, src, okIn, q, w1, w2, rm0, rm1, rm2]
    subst hF0
    rw [evLoop_eq]
    generalize hF1 : evLoop (evCode (ev R) R.glob 3 evLoop f29l0) [2, 3, 12, 13] = F
    simp [-List.getD_eq_getElem?_getD, -List.map_map, evBody, evCode, evOps, evOper, evOp, opd, Env.get, Env.put, Env.keep, zipEnv, V.ok, V.sto, V.cells, D.cells, V.isAgg, binD, binInt, binStr, shInt, unD, eqOf, asI, leave, resOf, mapO, fzV, fzC, tupOf, htake, hlen, view, view1, isData, hand, flatV, flatD, allD, mkAgg, mkVal, beq_lit, IntKind.bits, f29l0, okIn, lowIn, lowIn1, hload, rowOf, hget, hstore, hset, reCell, hpush, fills, setAt, src, okIn, q, w1, w2, rm0, rm1, rm2]
    subst hF1
    rw [evLoop_eq]
    refine ⟨?_, ?_, ?_, ?_⟩
    rotate_left
    · simp [-List.getD_eq_getElem?_getD, -List.map_map, evBody, evCode, evOps, evOper, evOp, opd, Env.get, Env.put, Env.keep, zipEnv, V.ok, V.sto, V.cells, D.cells, V.isAgg, binD, binInt, binStr, shInt, unD, eqOf, asI, leave, resOf, mapO, fzV, fzC, tupOf, htake, hlen, view, view1, isData, hand, flatV, flatD, allD, mkAgg, mkVal, beq_lit, IntKind.bits, f29l0, okIn, lowIn, lowIn1, hload, rowOf, hget, hstore, hset, reCell, hpush, fills, setAt, w1, w2]
      try rfl
    · simp [-List.getD_eq_getElem?_getD, -List.map_map, evBody, evCode, evOps, evOper, evOp, opd, Env.get, Env.put, Env.keep, zipEnv, V.ok, V.sto, V.cells, D.cells, V.isAgg, binD, binInt, binStr, shInt, unD, eqOf, asI, leave, resOf, mapO, fzV, fzC, tupOf, htake, hlen, view, view1, isData, hand, flatV, flatD, allD, mkAgg, mkVal, beq_lit, IntKind.bits]
    · simp [-List.getD_eq_getElem?_getD, -List.map_map, evBody, evCode, evOps, evOper, evOp, opd, Env.get, Env.put, Env.keep, zipEnv, V.ok, V.sto, V.cells, D.cells, V.isAgg, binD, binInt, binStr, shInt, unD, eqOf, asI, leave, resOf, mapO, fzV, fzC, tupOf, htake, hlen, view, view1, isData, hand, flatV, flatD, allD, mkAgg, mkVal, beq_lit, IntKind.bits]
  obtain ⟨e', he, g2, g3⟩ := L
  simp [-List.getD_eq_getElem?_getD, -List.map_map, evBody, evCode, evOps, evOper, evOp, opd, Env.get, Env.put, Env.keep, zipEnv, V.ok, V.sto, V.cells, D.cells, V.isAgg, binD, binInt, binStr, shInt, unD, eqOf, asI, leave, resOf, mapO, fzV, fzC, tupOf, htake, hlen, view, view1, isData, hand, flatV, flatD, allD, mkAgg, mkVal, beq_lit, IntKind.bits, f29, okIn, lowIn, lowIn1, hload, rowOf, hget, hstore, hset, reCell, hpush, fills, setAt, okIn, lowIn, lowIn1, p, he, g2, g3, ownL, ownCs, own1, ownEs, ownEl, layer]
theorem e60_3 (A B X : Ev.Obj) : ev R 60 [.slc 1 0 0 3, .d (.int .i64 1)] [A, .row 0 6 [.d zc, .d zc, .d zc], B, X] = some (.d (.int .i64 10), [A, .row 0 6 [.d zm, .d zm, .d zm], B, X]) := by
  refine ev_fn (fn := f60) rfl rfl ?_
  have p76 := fun Y k => e76e Y k
  have p77 := fun Y k => e77e Y k
  have w1 : IntKind.i64.wrap 1 = 1 := IntWalk.i64_in _ (by omega)
  have w2 : IntKind.i64.wrap 2 = 2 := IntWalk.i64_in _ (by omega)
  have w3 : IntKind.i64.wrap 3 = 3 := IntWalk.i64_in _ (by omega)
  have w4 : IntKind.i64.wrap 4 = 4 := IntWalk.i64_in _ (by omega)
  have w5 : IntKind.i64.wrap 5 = 5 := IntWalk.i64_in _ (by omega)
  have w6 : IntKind.i64.wrap 6 = 6 := IntWalk.i64_in _ (by omega)
  have w7 : IntKind.i64.wrap 7 = 7 := IntWalk.i64_in _ (by omega)
  have w8 : IntKind.i64.wrap 8 = 8 := IntWalk.i64_in _ (by omega)
  have w9 : IntKind.i64.wrap 9 = 9 := IntWalk.i64_in _ (by omega)
  have w10 : IntKind.i64.wrap 10 = 10 := IntWalk.i64_in _ (by omega)
  have L : ∃ e', evLoop (evCode (ev R) R.glob 4 evLoop f60l0) [0, 1, 5] ⟨[(0, .slc 1 0 0 3), (1, .d (.int .i64 1)), (5, .d (.int .i64 0))], [A, .row 0 6 [.d zc, .d zc, .d zc], B, X]⟩ = some (.exit 0, ⟨e', [A, .row 0 6 [.d zm, .d zm, .d zm], B, X]⟩) ∧ e'.get 1 = .d (.int .i64 10) := by
    rw [evLoop_eq]
    generalize hF0 : evLoop (evCode (ev R) R.glob 4 evLoop f60l0) [0, 1, 5] = F
    simp [-List.getD_eq_getElem?_getD, -List.map_map, evBody, evCode, evOps, evOper, evOp, opd, Env.get, Env.put, Env.keep, zipEnv, V.ok, V.sto, V.cells, D.cells, V.isAgg, binD, binInt, binStr, shInt, unD, eqOf, asI, leave, resOf, mapO, fzV, fzC, tupOf, htake, hlen, view, view1, isData, hand, flatV, flatD, allD, mkAgg, mkVal, beq_lit, IntKind.bits, f60l0, okIn, lowIn, lowIn1, hload, rowOf, hget, hstore, hset, reCell, hpush, fills, setAt, p76, p77, w1, w2, w3, w4, w5, w6, w7, w8, w9, w10]
    subst hF0
    rw [evLoop_eq]
    generalize hF1 : evLoop (evCode (ev R) R.glob 4 evLoop f60l0) [0, 1, 5] = F
    simp [-List.getD_eq_getElem?_getD, -List.map_map, evBody, evCode, evOps, evOper, evOp, opd, Env.get, Env.put, Env.keep, zipEnv, V.ok, V.sto, V.cells, D.cells, V.isAgg, binD, binInt, binStr, shInt, unD, eqOf, asI, leave, resOf, mapO, fzV, fzC, tupOf, htake, hlen, view, view1, isData, hand, flatV, flatD, allD, mkAgg, mkVal, beq_lit, IntKind.bits, f60l0, okIn, lowIn, lowIn1, hload, rowOf, hget, hstore, hset, reCell, hpush, fills, setAt, p76, p77, w1, w2, w3, w4, w5, w6, w7, w8, w9, w10]
    subst hF1
    rw [evLoop_eq]
    generalize hF2 : evLoop (evCode (ev R) R.glob 4 evLoop f60l0) [0, 1, 5] = F
    simp [-List.getD_eq_getElem?_getD, -List.map_map, evBody, evCode, evOps, evOper, evOp, opd, Env.get, Env.put, Env.keep, zipEnv, V.ok, V.sto, V.cells, D.cells, V.isAgg, binD, binInt, binStr, shInt, unD, eqOf, asI, leave, resOf, mapO, fzV, fzC, tupOf, htake, hlen, view, view1, isData, hand, flatV, flatD, allD, mkAgg, mkVal, beq_lit, IntKind.bits, f60l0, okIn, lowIn, lowIn1, hload, rowOf, hget, hstore, hset, reCell, hpush, fills, setAt, p76, p77, w1, w2, w3, w4, w5, w6, w7, w8, w9, w10]
    subst hF2
    rw [evLoop_eq]
    refine ⟨?_, ?_, ?_⟩
    rotate_left
    · simp [-List.getD_eq_getElem?_getD, -List.map_map, evBody, evCode, evOps, evOper, evOp, opd, Env.get, Env.put, Env.keep, zipEnv, V.ok, V.sto, V.cells, D.cells, V.isAgg, binD, binInt, binStr, shInt, unD, eqOf, asI, leave, resOf, mapO, fzV, fzC, tupOf, htake, hlen, view, view1, isData, hand, flatV, flatD, allD, mkAgg, mkVal, beq_lit, IntKind.bits, f60l0, okIn, lowIn, lowIn1, hload, rowOf, hget, hstore, hset, reCell, hpush, fills, setAt, p76, p77, w1, w2, w3, w4, w5, w6, w7, w8, w9, w10]
      try rfl
    · simp [-List.getD_eq_getElem?_getD, -List.map_map, evBody, evCode, evOps, evOper, evOp, opd, Env.get, Env.put, Env.keep, zipEnv, V.ok, V.sto, V.cells, D.cells, V.isAgg, binD, binInt, binStr, shInt, unD, eqOf, asI, leave, resOf, mapO, fzV, fzC, tupOf, htake, hlen, view, view1, isData, hand, flatV, flatD, allD, mkAgg, mkVal, beq_lit, IntKind.bits]
  obtain ⟨e', he, g1⟩ := L
  simp [-List.getD_eq_getElem?_getD, -List.map_map, evBody, evCode, evOps, evOper, evOp, opd, Env.get, Env.put, Env.keep, zipEnv, V.ok, V.sto, V.cells, D.cells, V.isAgg, binD, binInt, binStr, shInt, unD, eqOf, asI, leave, resOf, mapO, fzV, fzC, tupOf, htake, hlen, view, view1, isData, hand, flatV, flatD, allD, mkAgg, mkVal, beq_lit, IntKind.bits, f60, he, g1]
theorem e31_3 (A B : Ev.Obj) : ev R 31 [.agg [.d (.int .i64 0), .d (.vals 7 []), .d (.str []), .slc 1 0 0 3], .d (.int .i64 1)] [A, .row 0 6 [.d zc, .d zc, .d zc], B] = some (.d (.int .i64 10), [A, .row 0 6 [.d zm, .d zm, .d zm], B]) := by
  refine ev_fn (fn := f31) rfl rfl ?_
  have p59 := fun X => e59z X 1
  have p60 := fun X => e60_3 A B X
  simp [-List.getD_eq_getElem?_getD, -List.map_map, evBody, evCode, evOps, evOper, evOp, opd, Env.get, Env.put, Env.keep, zipEnv, V.ok, V.sto, V.cells, D.cells, V.isAgg, binD, binInt, binStr, shInt, unD, eqOf, asI, leave, resOf, mapO, fzV, fzC, tupOf, htake, hlen, view, view1, isData, hand, flatV, flatD, allD, mkAgg, mkVal, beq_lit, IntKind.bits, f31, okIn, lowIn, lowIn1, hload, rowOf, hget, hstore, hset, reCell, hpush, fills, setAt, p59, p60]
theorem e28_3 : ev R 28 [.d (.int .i64 3)] [] = some (.d (.agg [.int .i64 0, .vals 7 [], .str [], .vals 6 [zc, zc, zc]]), []) := by
  refine ev_fn (fn := f28) rfl rfl ?_
  have p := p37 3 1 3
  have p' : (decide ((3 : Int) ≥ 1) && decide ((3 : Int) ≤ 3)) = true := by decide
  rw [p'] at p
  have w1 : IntKind.i64.wrap 1 = 1 := IntWalk.i64_in _ (by omega)
  have w2 : IntKind.i64.wrap 2 = 2 := IntWalk.i64_in _ (by omega)
  have w3 : IntKind.i64.wrap 3 = 3 := IntWalk.i64_in _ (by omega)
  have rm1 : 1 * 88 ≤ room := by unfold room; omega
  have rm2 : 2 * 88 ≤ room := by unfold room; omega
  have rm3 : 3 * 88 ≤ room := by unfold room; omega
  have rm0 : 88 ≤ room := by unfold room; omega
  have L : ∃ e', evLoop (evCode (ev R) R.glob 0 evLoop f28l0) [0, 2, 3, 4] ⟨[(0, .d (.int .i64 3)), (2, .ptr 0 0 0 0), (3, .ptr 1 0 0 0), (4, .d (.int .i64 0))], [.row 0 4 [.agg [.d (.int .i64 0), .nils 7, .d (.str []), .nils 6]], .row 0 4 [.agg [.d (.int .i64 0), .nils 7, .d (.str []), .nils 6]]]⟩ = some (.exit 0, ⟨e', [.row 0 4 [.agg [.d (.int .i64 0), .nils 7, .d (.str []), .nils 6]], .row 0 4 [.agg [.d (.int .i64 0), .nils 7, .d (.str []), .slc 3 2 0 3]], .row 0 6 [zcV], .row 2 6 [zcV, zcV, zcV], .row 0 6 [zcV], .row 0 6 [zcV]]⟩) ∧ e'.get 2 = .ptr 0 0 0 0 ∧ e'.get 3 = .ptr 1 0 0 0 := by
    rw [evLoop_eq]
    generalize hF0 : evLoop (evCode (ev R) R.glob 0 evLoop f28l0) [0, 2, 3, 4] = F
    simp [-List.getD_eq_getElem?_getD, -List.map_map, evBody, evCode, evOps, evOper, evOp, opd, Env.get, Env.put, Env.keep, zipEnv, V.ok, V.sto, V.cells, D.cells, V.isAgg, binD, binInt, binStr, shInt, unD, eqOf, asI, leave, resOf, mapO, fzV, fzC, tupOf, htake, hlen, view, view1, isData, hand, flatV, flatD, allD, mkAgg, mkVal, beq_lit, IntKind.bits, f28l0, okIn, lowIn, lowIn1, hload, rowOf, hget, hstore, hset, reCell, hpush, fills, setAt, src, okIn, p, w1, w2, w3, rm0, rm1, rm2, rm3]
    subst hF0
    rw [evLoop_eq]
    generalize hF1 : evLoop (evCode (ev R) R.glob 0 evLoop f28l0) [0, 2, 3, 4] = F
    simp [-List.getD_eq_getElem?_getD, -List.map_map, evBody, evCode, evOps, evOper, evOp, opd, Env.get, Env.put, Env.keep, zipEnv, V.ok, V.sto, V.cells, D.cells, V.isAgg, binD, binInt, binStr, shInt, unD, eqOf, asI, leave, resOf, mapO, fzV, fzC, tupOf, htake, hlen, view, view1, isData, hand, flatV, flatD, allD, mkAgg, mkVal, beq_lit, IntKind.bits, f28l0, okIn, lowIn, lowIn1, hload, rowOf, hget, hstore, hset, reCell, hpush, fills, setAt, src, okIn, p, w1, w2, w3, rm0, rm1, rm2, rm3]
    subst hF1
    rw [evLoop_eq]
    generalize hF2 : evLoop (evCode (ev R) R.glob 0 evLoop f28l0) [0, 2, 3, 4] = F
    simp [-List.getD_eq_getElem?_getD, -List.map_map, evBody, evCode, evOps, evOper, evOp, opd, Env.get, Env.put, Env.keep, zipEnv, V.ok, V.sto, V.cells, D.cells, V.isAgg, binD, binInt, binStr, shInt, unD, eqOf, asI, leave, resOf, mapO, fzV, fzC, tupOf, htake, hlen, view, view1, isData, hand, flatV, flatD, allD, mkAgg, mkVal, beq_lit, IntKind.bits, f28l0, okIn, lowIn, lowIn1, hload, rowOf, hget, hstore, hset, reCell, hpush, fills, setAt, src, okIn, p, w1, w2, w3, rm0, rm1, rm2, rm3]
    subst hF2
    rw [evLoop_eq]
    refine ⟨?_, ?_, ?_, ?_⟩
    rotate_left
    · simp [-List.getD_eq_getElem?_getD, -List.map_map, evBody, evCode, evOps, evOper, evOp, opd, Env.get, Env.put, Env.keep, zipEnv, V.ok, V.sto, V.cells, D.cells, V.isAgg, binD, binInt, binStr, shInt, unD, eqOf, asI, leave, resOf, mapO, fzV, fzC, tupOf, htake, hlen, view, view1, isData, hand, flatV, flatD, allD, mkAgg, mkVal, beq_lit, IntKind.bits, f28l0, okIn, lowIn, lowIn1, hload, rowOf, hget, hstore, hset, reCell, hpush, fills, setAt, p, w1, w2, w3]
      try rfl
    · simp [-List.getD_eq_getElem?_getD, -List.map_map, evBody, evCode, evOps, evOper, evOp, opd, Env.get, Env.put, Env.keep, zipEnv, V.ok, V.sto, V.cells, D.cells, V.isAgg, binD, binInt, binStr, shInt, unD, eqOf, asI, leave, resOf, mapO, fzV, fzC, tupOf, htake, hlen, view, view1, isData, hand, flatV, flatD, allD, mkAgg, mkVal, beq_lit, IntKind.bits]
    · simp [-List.getD_eq_getElem?_getD, -List.map_map, evBody, evCode, evOps, evOper, evOp, opd, Env.get, Env.put, Env.keep, zipEnv, V.ok, V.sto, V.cells, D.cells, V.isAgg, binD, binInt, binStr, shInt, unD, eqOf, asI, leave, resOf, mapO, fzV, fzC, tupOf, htake, hlen, view, view1, isData, hand, flatV, flatD, allD, mkAgg, mkVal, beq_lit, IntKind.bits]
  obtain ⟨e', he, g2, g3⟩ := L
  simp [-List.getD_eq_getElem?_getD, -List.map_map, evBody, evCode, evOps, evOper, evOp, opd, Env.get, Env.put, Env.keep, zipEnv, V.ok, V.sto, V.cells, D.cells, V.isAgg, binD, binInt, binStr, shInt, unD, eqOf, asI, leave, resOf, mapO, fzV, fzC, tupOf, htake, hlen, view, view1, isData, hand, flatV, flatD, allD, mkAgg, mkVal, beq_lit, IntKind.bits, f28, okIn, lowIn, lowIn1, hload, rowOf, hget, hstore, hset, reCell, hpush, fills, setAt, okIn, he, g2, g3, fz, deep]
theorem e29a_3 (A : Ev.Obj) : ev R 29 [.d (.int .i64 3)] [A] = some (.agg [.d (.int .i64 0), .d (.vals 7 []), .d (.str []), .slc 1 0 0 3], [A, .row 0 6 [.d zc, .d zc, .d zc]]) := by
  refine ev_fn (fn := f29) rfl rfl ?_
  have p := p35 3 1 3
  have p' : (decide ((3 : Int) ≥ 1) && decide ((3 : Int) ≤ 3)) = true := by decide
  rw [p'] at p
  have q := pureCall_eq (cl := ev R) fun H => e56z H
  have w1 : IntKind.i64.wrap 1 = 1 := IntWalk.i64_in _ (by omega)
  have w2 : IntKind.i64.wrap 2 = 2 := IntWalk.i64_in _ (by omega)
  have w3 : IntKind.i64.wrap 3 = 3 := IntWalk.i64_in _ (by omega)
  have rm1 : 1 * 88 ≤ room := by unfold room; omega
  have rm2 : 2 * 88 ≤ room := by unfold room; omega
  have rm3 : 3 * 88 ≤ room := by unfold room; omega
  have rm0 : 88 ≤ room := by unfold room; omega
  have L : ∃ e', evLoop (evCode (ev R) R.glob 1 evLoop f29l0) [2, 3, 12, 13] ⟨[(2, .ptr 1 0 0 0), (3, .ptr 3 0 0 0), (12, .d (.int .i64 3)), (13, .d (.int .i64 0))], [A, .row 0 4 [.agg [.d (.int .i64 0), .nils 7, .d (.str []), .nils 6]], .row 0 6 [], .row 0 4 [.agg [.d (.int .i64 0), .d (.vals 7 []), .d (.str []), .slc 2 0 0 0]]]⟩ = some (.exit 0, ⟨e', [A, .row 0 4 [.agg [.d (.int .i64 0), .nils 7, .d (.str []), .nils 6]], .row 3 6 [.d zc, .d zc, .d zc], .row 0 4 [.agg [.d (.int .i64 0), .d (.vals 7 []), .d (.str []), .slc 2 3 0 3]]]⟩) ∧ e'.get 2 = .ptr 1 0 0 0 ∧ e'.get 3 = .ptr 3 0 0 0 := by
    rw [evLoop_eq]
    generalize hF0 : evLoop (evCode (ev R) R.glob 1 evLoop f29l0) [2, 3, 12, 13] = F
    simp [-List.getD_eq_getElem?_getD, -List.map_map, evBody, evCode, evOps, evOper, evOp, opd, Env.get, Env.put, Env.keep, zipEnv, V.ok, V.sto, V.cells, D.cells, V.isAgg, binD, binInt, binStr, shInt, unD, eqOf, asI, leave, resOf, mapO, fzV, fzC, tupOf, htake, hlen, view, view1, isData, hand, flatV, flatD, allD, mkAgg, mkVal, beq_lit, IntKind.bits, f29l0, okIn, lowIn, lowIn1, hload, rowOf, hget, hstore, hset, reCell, hpush, fills, setAt, src, okIn, q, w1, w2, w3, rm0, rm1, rm2, rm3]
    subst hF0
    rw [evLoop_eq]
    generalize hF1 : evLoop (evCode (ev R) R.glob 1 evLoop f29l0) [2, 3, 12, 13] = F
    simp [-List.getD_eq_getElem?_getD, -List.map_map, evBody, evCode, evOps, evOper, evOp, opd, Env.get, Env.put, Env.keep, zipEnv, V.ok, V.sto, V.cells, D.cells, V.isAgg, binD, binInt, binStr, shInt, unD, eqOf, asI, leave, resOf, mapO, fzV, fzC, tupOf, htake, hlen, view, view1, isData, hand, flatV, flatD, allD, mkAgg, mkVal, beq_lit, IntKind.bits, f29l0, okIn, lowIn, lowIn1, hload, rowOf, hget, hstore, hset, reCell, hpush, fills, setAt, src, okIn, q, w1, w2, w3, rm0, rm1, rm2, rm3]
    subst hF1
    rw [evLoop_eq]
    generalize hF2 : evLoop (evCode (ev R) R.glob 1 evLoop f29l0) [2, 3, 12, 13] = F
    simp [-List.getD_eq_getElem?_getD, -List.map_map, evBody, evCode, evOps, evOper, evOp, opd, Env.get, Env.put, Env.keep, zipEnv, V.ok, V.sto, V.cells, D.cells, V.isAgg, binD, binInt, binStr, shInt, unD, eqOf, asI, leave, resOf, mapO, fzV, fzC, tupOf, htake, hlen, view, view1, isData, hand, flatV, flatD, allD, mkAgg, mkVal, beq_lit, IntKind.bits, f29l0, okIn, lowIn, lowIn1, hload, rowOf, hget, hstore, hset, reCell, hpush, fills, setAt, src, okIn, q, w1, w2, w3, rm0, rm1, rm2, rm3]
    subst hF2
    rw [evLoop_eq]
    refine ⟨?_, ?_, ?_, ?_⟩
    rotate_left
    · simp [-List.getD_eq_getElem?_getD, -List.map_map, evBody, evCode, evOps, evOper, evOp, opd, Env.get, Env.put, Env.keep, zipEnv, V.ok, V.sto, V.cells, D.cells, V.isAgg, binD, binInt, binStr, shInt, unD, eqOf, asI, leave, resOf, mapO, fzV, fzC, tupOf, htake, hlen, view, view1, isData, hand, flatV, flatD, allD, mkAgg, mkVal, beq_lit, IntKind.bits, f29l0, okIn, lowIn, lowIn1, hload, rowOf, hget, hstore, hset, reCell, hpush, fills, setAt, w1, w2, w3]
      try rfl
    · simp [-List.getD_eq_getElem?_getD, -List.map_map, evBody, evCode, evOps, evOper, evOp, opd, Env.get, Env.put, Env.keep, zipEnv, V.ok, V.sto, V.cells, D.cells, V.isAgg, binD, binInt, binStr, shInt, unD, eqOf, asI, leave, resOf, mapO, fzV, fzC, tupOf, htake, hlen, view, view1, isData, hand, flatV, flatD, allD, mkAgg, mkVal, beq_lit, IntKind.bits]
    · simp [-List.getD_eq_getElem?_getD, -List.map_map, evBody, evCode, evOps, evOper, evOp, opd, Env.get, Env.put, Env.keep, zipEnv, V.ok, V.sto, V.cells, D.cells, V.isAgg, binD, binInt, binStr, shInt, unD, eqOf, asI, leave, resOf, mapO, fzV, fzC, tupOf, htake, hlen, view, view1, isData, hand, flatV, flatD, allD, mkAgg, mkVal, beq_lit, IntKind.bits]
  obtain ⟨e', he, g2, g3⟩ := L
  simp [-List.getD_eq_getElem?_getD, -List.map_map, evBody, evCode, evOps, evOper, evOp, opd, Env.get, Env.put, Env.keep, zipEnv, V.ok, V.sto, V.cells, D.cells, V.isAgg, binD, binInt, binStr, shInt, unD, eqOf, asI, leave, resOf, mapO, fzV, fzC, tupOf, htake, hlen, view, view1, isData, hand, flatV, flatD, allD, mkAgg, mkVal, beq_lit, IntKind.bits, f29, okIn, lowIn, lowIn1, hload, rowOf, hget, hstore, hset, reCell, hpush, fills, setAt, okIn, lowIn, lowIn1, p, he, g2, g3, ownL, ownCs, own1, ownEs, ownEl, layer]
theorem e29b_3 (A C B : Ev.Obj) : ev R 29 [.d (.int .i64 3)] [A, C, B] = some (.agg [.d (.int .i64 0), .d (.vals 7 []), .d (.str []), .slc 3 0 0 3], [A, C, B, .row 0 6 [.d zc, .d zc, .d zc]]) := by
  refine ev_fn (fn := f29) rfl rfl ?_
  have p := p35 3 1 3
  have p' : (decide ((3 : Int) ≥ 1) && decide ((3 : Int) ≤ 3)) = true := by decide
  rw [p'] at p
  have q := pureCall_eq (cl := ev R) fun H => e56z H
  have w1 : IntKind.i64.wrap 1 = 1 := IntWalk.i64_in _ (by omega)
  have w2 : IntKind.i64.wrap 2 = 2 := IntWalk.i64_in _ (by omega)
  have w3 : IntKind.i64.wrap 3 = 3 := IntWalk.i64_in _ (by omega)
  have rm1 : 1 * 88 ≤ room := by unfold room; omega
  have rm2 : 2 * 88 ≤ room := by unfold room; omega
  have rm3 : 3 * 88 ≤ room := by unfold room; omega
  have rm0 : 88 ≤ room := by unfold room; omega
  have L : ∃ e', evLoop (evCode (ev R) R.glob 3 evLoop f29l0) [2, 3, 12, 13] ⟨[(2, .ptr 3 0 0 0), (3, .ptr 5 0 0 0), (12, .d (.int .i64 3)), (13, .d (.int .i64 0))], [A, C, B, .row 0 4 [.agg [.d (.int .i64 0), .nils 7, .d (.str []), .nils 6]], .row 0 6 [], .row 0 4 [.agg [.d (.int .i64 0), .d (.vals 7 []), .d (.str []), .slc 4 0 0 0]]]⟩ = some (.exit 0, ⟨e', [A, C, B, .row 0 4 [.agg [.d (.int .i64 0), .nils 7, .d (.str []), .nils 6]], .row 3 6 [.d zc, .d zc, .d zc], .row 0 4 [.agg [.d (.int .i64 0), .d (.vals 7 []), .d (.str []), .slc 4 3 0 3]]]⟩) ∧ e'.get 2 = .ptr 3 0 0 0 ∧ e'.get 3 = .ptr 5 0 0 0 := by
    rw [evLoop_eq]
    generalize hF0 : evLoop (evCode (ev R) R.glob 3 evLoop f29l0) [2, 3, 12, 13] = F
    simp [-List.getD_eq_getElem?_getD, -List.map_map, evBody, evCode, evOps, evOper, evOp, opd, Env.get, Env.put, Env.keep, zipEnv, V.ok, V.sto, V.cells, D.cells, V.isAgg, binD, binInt, binStr, shInt, unD, eqOf, asI, leave, resOf, mapO, fzV, fzC, tupOf, htake, hlen, view, view1, isData, hand, flatV, flatD, allD, mkAgg, mkVal, beq_lit, IntKind.bits, f29l0, okIn, lowIn, lowIn1, hload, rowOf, hget, hstore, hset, reCell, hpush, fills, setAt, src, okIn, q, w1, w2, w3, rm0, rm1, rm2, rm3]
    subst hF0
    rw [evLoop_eq]
    generalize hF1 : evLoop (evCode (ev R) R.glob 3 evLoop f29l0) [2, 3, 12, 13] = F
    simp [-List.getD_eq_getElem?_getD, -List.map_map, evBody, evCode, evOps, evOper, evOp, opd, Env.get, Env.put, Env.keep, zipEnv, V.ok, V.sto, V.cells, D.cells, V.isAgg, binD, binInt, binStr, shInt, unD, eqOf, asI, leave, resOf, mapO, fzV, fzC, tupOf, htake, hlen, view, view1, isData, hand, flatV, flatD, allD, mkAgg, mkVal, beq_lit, IntKind.bits, f29l0, okIn, lowIn, lowIn1, hload, rowOf, hget, hstore, hset, reCell, hpush, fills, setAt, src, okIn, q, w1, w2, w3, rm0, rm1, rm2, rm3]
    subst hF1
    rw [evLoop_eq]
    generalize hF2 : evLoop (evCode (ev R) R.glob 3 evLoop f29l0) [2, 3, 12, 13] = F
    simp [-List.getD_eq_getElem?_getD, -List.map_map, evBody, evCode, evOps, evOper, evOp, opd, Env.get, Env.put, Env.keep, zipEnv, V.ok, V.sto, V.cells, D.cells, V.isAgg, binD, binInt, binStr, shInt, unD, eqOf, asI, leave, resOf, mapO, fzV, fzC, tupOf, htake, hlen, view, view1, isData, hand, flatV, flatD, allD, mkAgg, mkVal, beq_lit, IntKind.bits, f29l0, okIn, lowIn, lowIn1, hload, rowOf, hget, hstore, hset, reCell, hpush, fills, setAt, src, okIn, q, w1, w2, w3, rm0, rm1, rm2, rm3]
    subst hF2
    rw [evLoop_eq]
    refine ⟨?_, ?_, ?_, ?_⟩
    rotate_left
    · simp [-List.getD_eq_getElem?_getD, -List.map_map, evBody, evCode, evOps, evOper, evOp, opd, Env.get, Env.put, Env.keep, zipEnv, V.ok, V.sto, V.cells, D.cells, V.isAgg, binD, binInt, binStr, shInt, unD, eqOf, asI, leave, resOf, mapO, fzV, fzC, tupOf, htake, hlen, view, view1, isData, hand, flatV, flatD, allD, mkAgg, mkVal, beq_lit, IntKind.bits, f29l0, okIn, lowIn, lowIn1, hload, rowOf, hget, hstore, hset, reCell, hpush, fills, setAt, w1, w2, w3]
      try rfl
    · simp [-List.getD_eq_getElem?_getD, -List.map_map, evBody, evCode, evOps, evOper, evOp, opd, Env.get, Env.put, Env.keep, zipEnv, V.ok, V.sto, V.cells, D.cells, V.isAgg, binD, binInt, binStr, shInt, unD, eqOf, asI, leave, resOf, mapO, fzV, fzC, tupOf, htake, hlen, view, view1, isData, hand, flatV, flatD, allD, mkAgg, mkVal, beq_lit, IntKind.bits]
    · simp [-List.getD_eq_getElem?_getD, -List.map_map, evBody, evCode, evOps, evOper, evOp, opd, Env.get, Env.put, Env.keep, zipEnv, V.ok, V.sto, V.cells, D.cells, V.isAgg, binD, binInt, binStr, shInt, unD, eqOf, asI, leave, resOf, mapO, fzV, fzC, tupOf, htake, hlen, view, view1, isData, hand, flatV, flatD, allD, mkAgg, mkVal, beq_lit, IntKind.bits]
  obtain ⟨e', he, g2, g3⟩ := L
  simp [-List.getD_eq_getElem?_getD, -List.map_map, evBody, evCode, evOps, evOper, evOp, opd, Env.get, Env.put, Env.keep, zipEnv, V.ok, V.sto, V.cells, D.cells, V.isAgg, binD, binInt, binStr, shInt, unD, eqOf, asI, leave, resOf, mapO, fzV, fzC, tupOf, htake, hlen, view, view1, isData, hand, flatV, flatD, allD, mkAgg, mkVal, beq_lit, IntKind.bits, f29, okIn, lowIn, lowIn1, hload, rowOf, hget, hstore, hset, reCell, hpush, fills, setAt, okIn, lowIn, lowIn1, p, he, g2, g3, ownL, ownCs, own1, ownEs, ownEl, layer]
end Go.Proofs.Ytpmphmpaeooeeaa.Code

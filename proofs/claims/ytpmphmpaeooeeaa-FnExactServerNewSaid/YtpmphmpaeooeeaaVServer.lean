/- Servers that are new: how they are compared, marked and held. -/
import Derived.Test.YtpmphmpaeooeeaaVListAt
import Derived.Test.YtpmphmpaeooeeaaVBits
namespace Go.Proofs.Ytpmphmpaeooeeaa.Code
open Go Go.Ev Go.Proofs
set_option maxRecDepth 100000
set_option linter.unusedSimpArgs false
set_option linter.unusedVariables false
theorem hload_box (H : Hp) (e : Nat) (x : V) (j n : Nat) : hload (hpush H (.row 0 e [x])) (hlen H) 0 0 j n = if j + n ≤ x.cells.length then some ((x.cells.drop j).take n) else none := by
  simp [hload, rowOf_self]
theorem hload_box1 (H : Hp) (e : Nat) (x : V) (o : Ev.Obj) (j n : Nat) : hload (hpush (hpush H (.row 0 e [x])) o) (hlen H) 0 0 j n = if j + n ≤ x.cells.length then some ((x.cells.drop j).take n) else none := by
  have : rowOf (hpush (hpush H (.row 0 e [x])) o) (hlen H) 0 = some (e, [x]) := by
    simp only [rowOf, hget_hpush_lt _ (show hlen H < hlen (hpush H (.row 0 e [x])) by rw [hlen_hpush]; omega), hget_hpush_self]
    rfl
  simp [hload, this]
theorem htake_two (H : Hp) (a b : Ev.Obj) : htake (hpush (hpush H a) b) (hlen H) = H := by
  simp [htake, hpush, hlen]
theorem e19e (H : Hp) : ev R 19 [.d (.vals 1 []), .d (.vals 1 [])] H = some (.d (.bool true), H) := e19_same H [] (by simp)
abbrev zc : D := .agg [.bool false, .bool false, .vals 1 [], .vals 1 [], .bool false, .vals 1 []]
abbrev zm : D := .agg [.bool false, .bool false, .vals 1 [], .vals 1 [], .bool true, .vals 1 []]
theorem e83e (H : Hp) : ev R 83 [.d (.vals 1 []), .d (.vals 1 [])] H = some (.d (.bool true), H) := by
  refine ev_fn (fn := f83) rfl rfl ?_
  have L : ∃ e', evLoop (evCode (ev R) R.glob (hlen H) evLoop f83l0) [0, 1, 5] ⟨[(0, .d (.vals 1 [])), (1, .d (.vals 1 [])), (5, .d (.int .i64 0))], H⟩ = some (.exit 0, ⟨e', H⟩) := by
    rw [evLoop_eq]
    refine ⟨?_, ?_⟩
    rotate_left
    · simp [-List.getD_eq_getElem?_getD, -List.map_map, evBody, evCode, evOps, evOper, evOp, opd, Env.get, Env.put, Env.keep, zipEnv, V.ok, V.sto, V.cells, D.cells, V.isAgg, binD, binInt, binStr, shInt, unD, eqOf, asI, leave, resOf, mapO, fzV, tupOf, view, view1, isData, hand, flatV, flatD, allD, mkAgg, mkVal, beq_lit, IntKind.bits, htake_self, htake_push, hget_hpush_self, hset_push, rowOf_self, okIn, lowIn, lowIn1, fzC_d, fzC_row, f83l0]
      try rfl
  obtain ⟨e', he⟩ := L
  simp [-List.getD_eq_getElem?_getD, -List.map_map, evBody, evCode, evOps, evOper, evOp, opd, Env.get, Env.put, Env.keep, zipEnv, V.ok, V.sto, V.cells, D.cells, V.isAgg, binD, binInt, binStr, shInt, unD, eqOf, asI, leave, resOf, mapO, fzV, tupOf, view, view1, isData, hand, flatV, flatD, allD, mkAgg, mkVal, beq_lit, IntKind.bits, htake_self, htake_push, hget_hpush_self, hset_push, rowOf_self, okIn, lowIn, lowIn1, fzC_d, fzC_row, f83, he]
theorem e73e (H : Hp) : ev R 73 [.d (.vals 7 []), .d (.vals 7 [])] H = some (.d (.bool true), H) := by
  refine ev_fn (fn := f73) rfl rfl ?_
  have L : ∃ e', evLoop (evCode (ev R) R.glob (hlen H) evLoop f73l0) [0, 1, 5] ⟨[(0, .d (.vals 7 [])), (1, .d (.vals 7 [])), (5, .d (.int .i64 0))], H⟩ = some (.exit 0, ⟨e', H⟩) := by
    rw [evLoop_eq]
    refine ⟨?_, ?_⟩
    rotate_left
    · simp [-List.getD_eq_getElem?_getD, -List.map_map, evBody, evCode, evOps, evOper, evOp, opd, Env.get, Env.put, Env.keep, zipEnv, V.ok, V.sto, V.cells, D.cells, V.isAgg, binD, binInt, binStr, shInt, unD, eqOf, asI, leave, resOf, mapO, fzV, tupOf, view, view1, isData, hand, flatV, flatD, allD, mkAgg, mkVal, beq_lit, IntKind.bits, htake_self, htake_push, hget_hpush_self, hset_push, rowOf_self, okIn, lowIn, lowIn1, fzC_d, fzC_row, f73l0]
      try rfl
  obtain ⟨e', he⟩ := L
  simp [-List.getD_eq_getElem?_getD, -List.map_map, evBody, evCode, evOps, evOper, evOp, opd, Env.get, Env.put, Env.keep, zipEnv, V.ok, V.sto, V.cells, D.cells, V.isAgg, binD, binInt, binStr, shInt, unD, eqOf, asI, leave, resOf, mapO, fzV, tupOf, view, view1, isData, hand, flatV, flatD, allD, mkAgg, mkVal, beq_lit, IntKind.bits, htake_self, htake_push, hget_hpush_self, hset_push, rowOf_self, okIn, lowIn, lowIn1, fzC_d, fzC_row, f73, he]
theorem e75e (H : Hp) (k : Int) : ev R 75 [.d (.vals 7 []), .d (.int .i64 k)] H = some (.d (.int .i64 k), H) := by
  refine ev_fn (fn := f75) rfl rfl ?_
  have L : ∃ e', evLoop (evCode (ev R) R.glob (hlen H) evLoop f75l0) [0, 1, 5] ⟨[(0, .d (.vals 7 [])), (1, .d (.int .i64 k)), (5, .d (.int .i64 0))], H⟩ = some (.exit 0, ⟨e', H⟩) ∧ e'.get 1 = .d (.int .i64 k) := by
    rw [evLoop_eq]
    refine ⟨?_, ?_, ?_⟩
    rotate_left
    · simp [-List.getD_eq_getElem?_getD, -List.map_map, evBody, evCode, evOps, evOper, evOp, opd, Env.get, Env.put, Env.keep, zipEnv, V.ok, V.sto, V.cells, D.cells, V.isAgg, binD, binInt, binStr, shInt, unD, eqOf, asI, leave, resOf, mapO, fzV, tupOf, view, view1, isData, hand, flatV, flatD, allD, mkAgg, mkVal, beq_lit, IntKind.bits, htake_self, htake_push, hget_hpush_self, hset_push, rowOf_self, okIn, lowIn, lowIn1, fzC_d, fzC_row, f75l0]
      try rfl
    · simp [-List.getD_eq_getElem?_getD, -List.map_map, evBody, evCode, evOps, evOper, evOp, opd, Env.get, Env.put, Env.keep, zipEnv, V.ok, V.sto, V.cells, D.cells, V.isAgg, binD, binInt, binStr, shInt, unD, eqOf, asI, leave, resOf, mapO, fzV, tupOf, view, view1, isData, hand, flatV, flatD, allD, mkAgg, mkVal, beq_lit, IntKind.bits, htake_self, htake_push, hget_hpush_self, hset_push, rowOf_self, okIn, lowIn, lowIn1, fzC_d, fzC_row]
  obtain ⟨e', he, g1⟩ := L
  simp [-List.getD_eq_getElem?_getD, -List.map_map, evBody, evCode, evOps, evOper, evOp, opd, Env.get, Env.put, Env.keep, zipEnv, V.ok, V.sto, V.cells, D.cells, V.isAgg, binD, binInt, binStr, shInt, unD, eqOf, asI, leave, resOf, mapO, fzV, tupOf, view, view1, isData, hand, flatV, flatD, allD, mkAgg, mkVal, beq_lit, IntKind.bits, htake_self, htake_push, hget_hpush_self, hset_push, rowOf_self, okIn, lowIn, lowIn1, fzC_d, fzC_row, f75, he, g1]
theorem e75en (H : Hp) (k : Int) : ev R 75 [.nils 7, .d (.int .i64 k)] H = some (.d (.int .i64 k), H) := by
  refine ev_fn (fn := f75) rfl rfl ?_
  have L : ∃ e', evLoop (evCode (ev R) R.glob (hlen H) evLoop f75l0) [0, 1, 5] ⟨[(0, .nils 7), (1, .d (.int .i64 k)), (5, .d (.int .i64 0))], H⟩ = some (.exit 0, ⟨e', H⟩) ∧ e'.get 1 = .d (.int .i64 k) := by
    rw [evLoop_eq]
    refine ⟨?_, ?_, ?_⟩
    rotate_left
    · simp [-List.getD_eq_getElem?_getD, -List.map_map, evBody, evCode, evOps, evOper, evOp, opd, Env.get, Env.put, Env.keep, zipEnv, V.ok, V.sto, V.cells, D.cells, V.isAgg, binD, binInt, binStr, shInt, unD, eqOf, asI, leave, resOf, mapO, fzV, tupOf, view, view1, isData, hand, flatV, flatD, allD, mkAgg, mkVal, beq_lit, IntKind.bits, htake_self, htake_push, hget_hpush_self, hset_push, rowOf_self, okIn, lowIn, lowIn1, fzC_d, fzC_row, f75l0]
      try rfl
    · simp [-List.getD_eq_getElem?_getD, -List.map_map, evBody, evCode, evOps, evOper, evOp, opd, Env.get, Env.put, Env.keep, zipEnv, V.ok, V.sto, V.cells, D.cells, V.isAgg, binD, binInt, binStr, shInt, unD, eqOf, asI, leave, resOf, mapO, fzV, tupOf, view, view1, isData, hand, flatV, flatD, allD, mkAgg, mkVal, beq_lit, IntKind.bits, htake_self, htake_push, hget_hpush_self, hset_push, rowOf_self, okIn, lowIn, lowIn1, fzC_d, fzC_row]
  obtain ⟨e', he, g1⟩ := L
  simp [-List.getD_eq_getElem?_getD, -List.map_map, evBody, evCode, evOps, evOper, evOp, opd, Env.get, Env.put, Env.keep, zipEnv, V.ok, V.sto, V.cells, D.cells, V.isAgg, binD, binInt, binStr, shInt, unD, eqOf, asI, leave, resOf, mapO, fzV, tupOf, view, view1, isData, hand, flatV, flatD, allD, mkAgg, mkVal, beq_lit, IntKind.bits, htake_self, htake_push, hget_hpush_self, hset_push, rowOf_self, okIn, lowIn, lowIn1, fzC_d, fzC_row, f75, he, g1]
theorem e76e (H : Hp) (k : Int) : ev R 76 [.d (.vals 1 []), .d (.int .i64 k)] H = some (.d (.int .i64 k), H) := by
  refine ev_fn (fn := f76) rfl rfl ?_
  have L : ∃ e', evLoop (evCode (ev R) R.glob (hlen H) evLoop f76l0) [0, 1, 5] ⟨[(0, .d (.vals 1 [])), (1, .d (.int .i64 k)), (5, .d (.int .i64 0))], H⟩ = some (.exit 0, ⟨e', H⟩) ∧ e'.get 1 = .d (.int .i64 k) := by
    rw [evLoop_eq]
    refine ⟨?_, ?_, ?_⟩
    rotate_left
    · simp [-List.getD_eq_getElem?_getD, -List.map_map, evBody, evCode, evOps, evOper, evOp, opd, Env.get, Env.put, Env.keep, zipEnv, V.ok, V.sto, V.cells, D.cells, V.isAgg, binD, binInt, binStr, shInt, unD, eqOf, asI, leave, resOf, mapO, fzV, tupOf, view, view1, isData, hand, flatV, flatD, allD, mkAgg, mkVal, beq_lit, IntKind.bits, htake_self, htake_push, hget_hpush_self, hset_push, rowOf_self, okIn, lowIn, lowIn1, fzC_d, fzC_row, f76l0]
      try rfl
    · simp [-List.getD_eq_getElem?_getD, -List.map_map, evBody, evCode, evOps, evOper, evOp, opd, Env.get, Env.put, Env.keep, zipEnv, V.ok, V.sto, V.cells, D.cells, V.isAgg, binD, binInt, binStr, shInt, unD, eqOf, asI, leave, resOf, mapO, fzV, tupOf, view, view1, isData, hand, flatV, flatD, allD, mkAgg, mkVal, beq_lit, IntKind.bits, htake_self, htake_push, hget_hpush_self, hset_push, rowOf_self, okIn, lowIn, lowIn1, fzC_d, fzC_row]
  obtain ⟨e', he, g1⟩ := L
  simp [-List.getD_eq_getElem?_getD, -List.map_map, evBody, evCode, evOps, evOper, evOp, opd, Env.get, Env.put, Env.keep, zipEnv, V.ok, V.sto, V.cells, D.cells, V.isAgg, binD, binInt, binStr, shInt, unD, eqOf, asI, leave, resOf, mapO, fzV, tupOf, view, view1, isData, hand, flatV, flatD, allD, mkAgg, mkVal, beq_lit, IntKind.bits, htake_self, htake_push, hget_hpush_self, hset_push, rowOf_self, okIn, lowIn, lowIn1, fzC_d, fzC_row, f76, he, g1]
theorem e77e (H : Hp) (k : Int) : ev R 77 [.d (.vals 1 []), .d (.int .i64 k)] H = some (.d (.int .i64 k), H) := by
  refine ev_fn (fn := f77) rfl rfl ?_
  have L : ∃ e', evLoop (evCode (ev R) R.glob (hlen H) evLoop f77l0) [0, 1, 5] ⟨[(0, .d (.vals 1 [])), (1, .d (.int .i64 k)), (5, .d (.int .i64 0))], H⟩ = some (.exit 0, ⟨e', H⟩) ∧ e'.get 1 = .d (.int .i64 k) := by
    rw [evLoop_eq]
    refine ⟨?_, ?_, ?_⟩
    rotate_left
    · simp [-List.getD_eq_getElem?_getD, -List.map_map, evBody, evCode, evOps, evOper, evOp, opd, Env.get, Env.put, Env.keep, zipEnv, V.ok, V.sto, V.cells, D.cells, V.isAgg, binD, binInt, binStr, shInt, unD, eqOf, asI, leave, resOf, mapO, fzV, tupOf, view, view1, isData, hand, flatV, flatD, allD, mkAgg, mkVal, beq_lit, IntKind.bits, htake_self, htake_push, hget_hpush_self, hset_push, rowOf_self, okIn, lowIn, lowIn1, fzC_d, fzC_row, f77l0]
      try rfl
    · simp [-List.getD_eq_getElem?_getD, -List.map_map, evBody, evCode, evOps, evOper, evOp, opd, Env.get, Env.put, Env.keep, zipEnv, V.ok, V.sto, V.cells, D.cells, V.isAgg, binD, binInt, binStr, shInt, unD, eqOf, asI, leave, resOf, mapO, fzV, tupOf, view, view1, isData, hand, flatV, flatD, allD, mkAgg, mkVal, beq_lit, IntKind.bits, htake_self, htake_push, hget_hpush_self, hset_push, rowOf_self, okIn, lowIn, lowIn1, fzC_d, fzC_row]
  obtain ⟨e', he, g1⟩ := L
  simp [-List.getD_eq_getElem?_getD, -List.map_map, evBody, evCode, evOps, evOper, evOp, opd, Env.get, Env.put, Env.keep, zipEnv, V.ok, V.sto, V.cells, D.cells, V.isAgg, binD, binInt, binStr, shInt, unD, eqOf, asI, leave, resOf, mapO, fzV, tupOf, view, view1, isData, hand, flatV, flatD, allD, mkAgg, mkVal, beq_lit, IntKind.bits, htake_self, htake_push, hget_hpush_self, hset_push, rowOf_self, okIn, lowIn, lowIn1, fzC_d, fzC_row, f77, he, g1]
theorem e78e (H : Hp) (k : Int) : ev R 78 [.d (.vals 7 []), .d (.int .i64 k)] H = some (.d (.int .i64 k), H) := by
  refine ev_fn (fn := f78) rfl rfl ?_
  have L : ∃ e', evLoop (evCode (ev R) R.glob (hlen H) evLoop f78l0) [0, 1, 5] ⟨[(0, .d (.vals 7 [])), (1, .d (.int .i64 k)), (5, .d (.int .i64 0))], H⟩ = some (.exit 0, ⟨e', H⟩) ∧ e'.get 1 = .d (.int .i64 k) := by
    rw [evLoop_eq]
    refine ⟨?_, ?_, ?_⟩
    rotate_left
    · simp [-List.getD_eq_getElem?_getD, -List.map_map, evBody, evCode, evOps, evOper, evOp, opd, Env.get, Env.put, Env.keep, zipEnv, V.ok, V.sto, V.cells, D.cells, V.isAgg, binD, binInt, binStr, shInt, unD, eqOf, asI, leave, resOf, mapO, fzV, tupOf, view, view1, isData, hand, flatV, flatD, allD, mkAgg, mkVal, beq_lit, IntKind.bits, htake_self, htake_push, hget_hpush_self, hset_push, rowOf_self, okIn, lowIn, lowIn1, fzC_d, fzC_row, f78l0]
      try rfl
    · simp [-List.getD_eq_getElem?_getD, -List.map_map, evBody, evCode, evOps, evOper, evOp, opd, Env.get, Env.put, Env.keep, zipEnv, V.ok, V.sto, V.cells, D.cells, V.isAgg, binD, binInt, binStr, shInt, unD, eqOf, asI, leave, resOf, mapO, fzV, tupOf, view, view1, isData, hand, flatV, flatD, allD, mkAgg, mkVal, beq_lit, IntKind.bits, htake_self, htake_push, hget_hpush_self, hset_push, rowOf_self, okIn, lowIn, lowIn1, fzC_d, fzC_row]
  obtain ⟨e', he, g1⟩ := L
  simp [-List.getD_eq_getElem?_getD, -List.map_map, evBody, evCode, evOps, evOper, evOp, opd, Env.get, Env.put, Env.keep, zipEnv, V.ok, V.sto, V.cells, D.cells, V.isAgg, binD, binInt, binStr, shInt, unD, eqOf, asI, leave, resOf, mapO, fzV, tupOf, view, view1, isData, hand, flatV, flatD, allD, mkAgg, mkVal, beq_lit, IntKind.bits, htake_self, htake_push, hget_hpush_self, hset_push, rowOf_self, okIn, lowIn, lowIn1, fzC_d, fzC_row, f78, he, g1]
theorem e79e (H : Hp) (k : Int) : ev R 79 [.d (.vals 1 []), .d (.int .i64 k)] H = some (.d (.int .i64 k), H) := by
  refine ev_fn (fn := f79) rfl rfl ?_
  have L : ∃ e', evLoop (evCode (ev R) R.glob (hlen H) evLoop f79l0) [0, 1, 5] ⟨[(0, .d (.vals 1 [])), (1, .d (.int .i64 k)), (5, .d (.int .i64 0))], H⟩ = some (.exit 0, ⟨e', H⟩) ∧ e'.get 1 = .d (.int .i64 k) := by
    rw [evLoop_eq]
    refine ⟨?_, ?_, ?_⟩
    rotate_left
    · simp [-List.getD_eq_getElem?_getD, -List.map_map, evBody, evCode, evOps, evOper, evOp, opd, Env.get, Env.put, Env.keep, zipEnv, V.ok, V.sto, V.cells, D.cells, V.isAgg, binD, binInt, binStr, shInt, unD, eqOf, asI, leave, resOf, mapO, fzV, tupOf, view, view1, isData, hand, flatV, flatD, allD, mkAgg, mkVal, beq_lit, IntKind.bits, htake_self, htake_push, hget_hpush_self, hset_push, rowOf_self, okIn, lowIn, lowIn1, fzC_d, fzC_row, f79l0]
      try rfl
    · simp [-List.getD_eq_getElem?_getD, -List.map_map, evBody, evCode, evOps, evOper, evOp, opd, Env.get, Env.put, Env.keep, zipEnv, V.ok, V.sto, V.cells, D.cells, V.isAgg, binD, binInt, binStr, shInt, unD, eqOf, asI, leave, resOf, mapO, fzV, tupOf, view, view1, isData, hand, flatV, flatD, allD, mkAgg, mkVal, beq_lit, IntKind.bits, htake_self, htake_push, hget_hpush_self, hset_push, rowOf_self, okIn, lowIn, lowIn1, fzC_d, fzC_row]
  obtain ⟨e', he, g1⟩ := L
  simp [-List.getD_eq_getElem?_getD, -List.map_map, evBody, evCode, evOps, evOper, evOp, opd, Env.get, Env.put, Env.keep, zipEnv, V.ok, V.sto, V.cells, D.cells, V.isAgg, binD, binInt, binStr, shInt, unD, eqOf, asI, leave, resOf, mapO, fzV, tupOf, view, view1, isData, hand, flatV, flatD, allD, mkAgg, mkVal, beq_lit, IntKind.bits, htake_self, htake_push, hget_hpush_self, hset_push, rowOf_self, okIn, lowIn, lowIn1, fzC_d, fzC_row, f79, he, g1]
theorem e80e (H : Hp) (k : Int) : ev R 80 [.d (.vals 1 []), .d (.int .i64 k)] H = some (.d (.int .i64 k), H) := by
  refine ev_fn (fn := f80) rfl rfl ?_
  have L : ∃ e', evLoop (evCode (ev R) R.glob (hlen H) evLoop f80l0) [0, 1, 5] ⟨[(0, .d (.vals 1 [])), (1, .d (.int .i64 k)), (5, .d (.int .i64 0))], H⟩ = some (.exit 0, ⟨e', H⟩) ∧ e'.get 1 = .d (.int .i64 k) := by
    rw [evLoop_eq]
    refine ⟨?_, ?_, ?_⟩
    rotate_left
    · simp [-List.getD_eq_getElem?_getD, -List.map_map, evBody, evCode, evOps, evOper, evOp, opd, Env.get, Env.put, Env.keep, zipEnv, V.ok, V.sto, V.cells, D.cells, V.isAgg, binD, binInt, binStr, shInt, unD, eqOf, asI, leave, resOf, mapO, fzV, tupOf, view, view1, isData, hand, flatV, flatD, allD, mkAgg, mkVal, beq_lit, IntKind.bits, htake_self, htake_push, hget_hpush_self, hset_push, rowOf_self, okIn, lowIn, lowIn1, fzC_d, fzC_row, f80l0]
      try rfl
    · simp [-List.getD_eq_getElem?_getD, -List.map_map, evBody, evCode, evOps, evOper, evOp, opd, Env.get, Env.put, Env.keep, zipEnv, V.ok, V.sto, V.cells, D.cells, V.isAgg, binD, binInt, binStr, shInt, unD, eqOf, asI, leave, resOf, mapO, fzV, tupOf, view, view1, isData, hand, flatV, flatD, allD, mkAgg, mkVal, beq_lit, IntKind.bits, htake_self, htake_push, hget_hpush_self, hset_push, rowOf_self, okIn, lowIn, lowIn1, fzC_d, fzC_row]
  obtain ⟨e', he, g1⟩ := L
  simp [-List.getD_eq_getElem?_getD, -List.map_map, evBody, evCode, evOps, evOper, evOp, opd, Env.get, Env.put, Env.keep, zipEnv, V.ok, V.sto, V.cells, D.cells, V.isAgg, binD, binInt, binStr, shInt, unD, eqOf, asI, leave, resOf, mapO, fzV, tupOf, view, view1, isData, hand, flatV, flatD, allD, mkAgg, mkVal, beq_lit, IntKind.bits, htake_self, htake_push, hget_hpush_self, hset_push, rowOf_self, okIn, lowIn, lowIn1, fzC_d, fzC_row, f80, he, g1]
theorem e60e (H : Hp) (k : Int) : ev R 60 [.nils 6, .d (.int .i64 k)] H = some (.d (.int .i64 k), H) := by
  refine ev_fn (fn := f60) rfl rfl ?_
  have L : ∃ e', evLoop (evCode (ev R) R.glob (hlen H) evLoop f60l0) [0, 1, 5] ⟨[(0, .nils 6), (1, .d (.int .i64 k)), (5, .d (.int .i64 0))], H⟩ = some (.exit 0, ⟨e', H⟩) ∧ e'.get 1 = .d (.int .i64 k) := by
    rw [evLoop_eq]
    refine ⟨?_, ?_, ?_⟩
    rotate_left
    · simp [-List.getD_eq_getElem?_getD, -List.map_map, evBody, evCode, evOps, evOper, evOp, opd, Env.get, Env.put, Env.keep, zipEnv, V.ok, V.sto, V.cells, D.cells, V.isAgg, binD, binInt, binStr, shInt, unD, eqOf, asI, leave, resOf, mapO, fzV, tupOf, view, view1, isData, hand, flatV, flatD, allD, mkAgg, mkVal, beq_lit, IntKind.bits, htake_self, htake_push, hget_hpush_self, hset_push, rowOf_self, okIn, lowIn, lowIn1, fzC_d, fzC_row, f60l0]
      try rfl
    · simp [-List.getD_eq_getElem?_getD, -List.map_map, evBody, evCode, evOps, evOper, evOp, opd, Env.get, Env.put, Env.keep, zipEnv, V.ok, V.sto, V.cells, D.cells, V.isAgg, binD, binInt, binStr, shInt, unD, eqOf, asI, leave, resOf, mapO, fzV, tupOf, view, view1, isData, hand, flatV, flatD, allD, mkAgg, mkVal, beq_lit, IntKind.bits, htake_self, htake_push, hget_hpush_self, hset_push, rowOf_self, okIn, lowIn, lowIn1, fzC_d, fzC_row]
  obtain ⟨e', he, g1⟩ := L
  simp [-List.getD_eq_getElem?_getD, -List.map_map, evBody, evCode, evOps, evOper, evOp, opd, Env.get, Env.put, Env.keep, zipEnv, V.ok, V.sto, V.cells, D.cells, V.isAgg, binD, binInt, binStr, shInt, unD, eqOf, asI, leave, resOf, mapO, fzV, tupOf, view, view1, isData, hand, flatV, flatD, allD, mkAgg, mkVal, beq_lit, IntKind.bits, htake_self, htake_push, hget_hpush_self, hset_push, rowOf_self, okIn, lowIn, lowIn1, fzC_d, fzC_row, f60, he, g1]

theorem e57z (H : Hp) : ev R 57 [.d (.agg [.int .i64 0, .vals 7 []]), .d (.agg [.int .i64 0, .vals 7 []])] H = some (.d (.bool true), H) := by
  refine ev_fn (fn := f57) rfl rfl ?_
  have p := pureCall_eq (cl := ev R) fun H => e73e H
  simp [-List.getD_eq_getElem?_getD, -List.map_map, evBody, evCode, evOps, evOper, evOp, opd, Env.get, Env.put, Env.keep, zipEnv, V.ok, V.sto, V.cells, D.cells, V.isAgg, binD, binInt, binStr, shInt, unD, eqOf, asI, leave, resOf, mapO, fzV, tupOf, view, view1, isData, hand, flatV, flatD, allD, mkAgg, mkVal, beq_lit, IntKind.bits, htake_self, htake_push, hget_hpush_self, hset_push, rowOf_self, okIn, lowIn, lowIn1, fzC_d, fzC_row, f57, p, hload_box, hload_box1, htake_two]
theorem e74z (H : Hp) : ev R 74 [.d zc, .d zc] H = some (.d (.bool true), H) := by
  refine ev_fn (fn := f74) rfl rfl ?_
  have p := pureCall_eq (cl := ev R) fun H => e83e H
  have p2 := pureCall_eq (cl := ev R) fun H => e19e H
  simp [-List.getD_eq_getElem?_getD, -List.map_map, evBody, evCode, evOps, evOper, evOp, opd, Env.get, Env.put, Env.keep, zipEnv, V.ok, V.sto, V.cells, D.cells, V.isAgg, binD, binInt, binStr, shInt, unD, eqOf, asI, leave, resOf, mapO, fzV, tupOf, view, view1, isData, hand, flatV, flatD, allD, mkAgg, mkVal, beq_lit, IntKind.bits, htake_self, htake_push, hget_hpush_self, hset_push, rowOf_self, okIn, lowIn, lowIn1, fzC_d, fzC_row, f74, p, p2, hload_box, hload_box1, htake_two]
theorem rep_get (N i : Nat) (z : D) (h : i < N) : (List.replicate N z).getD i .nilp = z := by
  simp [List.getD_eq_getElem?_getD, h]
theorem l58 (n0 : Nat) (N : Nat) (hN : N ≤ 3) (H : Hp) : ∀ (m i : Nat) (e : Env), i + m = N → e.get 0 = .d (.vals 6 (List.replicate N zc)) → e.get 1 = .d (.vals 6 (List.replicate N zc)) → e.get 5 = .d (.int .i64 i) →
    ∃ e', evLoop (evCode (ev R) R.glob n0 evLoop f58l0) [0, 1, 5] ⟨e, H⟩ = some (.exit 0, ⟨e', H⟩)
  | 0, i, e, hi, h0, h1, h5 => by
    have c : ¬ (i : Int) < (N : Int) := by omega
    have c' : ¬ i < N := by omega
    rw [evLoop_eq]
    refine ⟨?_, ?_⟩
    rotate_left
    · simp [-List.getD_eq_getElem?_getD, -List.map_map, evBody, evCode, evOps, evOper, evOp, opd, Env.get, Env.put, Env.keep, zipEnv, V.ok, V.sto, V.cells, D.cells, V.isAgg, binD, binInt, binStr, shInt, unD, eqOf, asI, leave, resOf, mapO, fzV, tupOf, view, view1, isData, hand, flatV, flatD, allD, mkAgg, mkVal, beq_lit, IntKind.bits, htake_self, htake_push, hget_hpush_self, hset_push, rowOf_self, okIn, lowIn, lowIn1, fzC_d, fzC_row, f58l0, h0, h1, h5, c, c']
      try rfl
  | m + 1, i, e, hi, h0, h1, h5 => by
    have c : (i : Int) < (N : Int) := by omega
    have c' : i < N := by omega
    have w1 : IntKind.i64.wrap ((i : Int) + 1) = ((i + 1 : Nat) : Int) := by rw [IntWalk.i64_in _ (by omega)]; rfl
    have g := rep_get N i zc c'
    have p := pureCall_eq (cl := ev R) fun H => e74z H
    have ih := l58 n0 N hN H m (i + 1)
    rw [evLoop_eq]
    generalize evLoop (evCode (ev R) R.glob n0 evLoop f58l0) [0, 1, 5] = F at ih ⊢
    simp [-List.getD_eq_getElem?_getD, -List.map_map, evBody, evCode, evOps, evOper, evOp, opd, Env.get, Env.put, Env.keep, zipEnv, V.ok, V.sto, V.cells, D.cells, V.isAgg, binD, binInt, binStr, shInt, unD, eqOf, asI, leave, resOf, mapO, fzV, tupOf, view, view1, isData, hand, flatV, flatD, allD, mkAgg, mkVal, beq_lit, IntKind.bits, htake_self, htake_push, hget_hpush_self, hset_push, rowOf_self, okIn, lowIn, lowIn1, fzC_d, fzC_row, f58l0, h0, h1, h5, c, c', w1, g, p]
    refine ih _ (by omega) ?_ ?_ ?_ <;> rfl
theorem e58z (H : Hp) (N : Nat) (hN : N ≤ 3) : ev R 58 [.d (.vals 6 (List.replicate N zc)), .d (.vals 6 (List.replicate N zc))] H = some (.d (.bool true), H) := by
  refine ev_fn (fn := f58) rfl rfl ?_
  obtain ⟨e', he⟩ := l58 (hlen H) N hN H N 0 [(0, .d (.vals 6 (List.replicate N zc))), (1, .d (.vals 6 (List.replicate N zc))), (5, .d (.int .i64 0))] (by omega) rfl rfl rfl
  simp [-List.getD_eq_getElem?_getD, -List.map_map, evBody, evCode, evOps, evOper, evOp, opd, Env.get, Env.put, Env.keep, zipEnv, V.ok, V.sto, V.cells, D.cells, V.isAgg, binD, binInt, binStr, shInt, unD, eqOf, asI, leave, resOf, mapO, fzV, tupOf, view, view1, isData, hand, flatV, flatD, allD, mkAgg, mkVal, beq_lit, IntKind.bits, htake_self, htake_push, hget_hpush_self, hset_push, rowOf_self, okIn, lowIn, lowIn1, fzC_d, fzC_row, f58, he]
theorem e30z (H : Hp) (N : Nat) (hN : N ≤ 3) : ev R 30 [.d (.agg [.int .i64 0, .vals 7 [], .str [], .vals 6 (List.replicate N zc)]), .d (.agg [.int .i64 0, .vals 7 [], .str [], .vals 6 (List.replicate N zc)])] H = some (.d (.bool true), H) := by
  refine ev_fn (fn := f30) rfl rfl ?_
  have p := pureCall_eq (cl := ev R) fun H => e57z H
  have p2 := pureCall_eq (cl := ev R) fun H => e58z H N hN
  generalize List.replicate N zc = cs at p2 ⊢
  simp [-List.getD_eq_getElem?_getD, -List.map_map, evBody, evCode, evOps, evOper, evOp, opd, Env.get, Env.put, Env.keep, zipEnv, V.ok, V.sto, V.cells, D.cells, V.isAgg, binD, binInt, binStr, shInt, unD, eqOf, asI, leave, resOf, mapO, fzV, tupOf, view, view1, isData, hand, flatV, flatD, allD, mkAgg, mkVal, beq_lit, IntKind.bits, htake_self, htake_push, hget_hpush_self, hset_push, rowOf_self, okIn, lowIn, lowIn1, fzC_d, fzC_row, f30, p, p2, hload_box, hload_box1, htake_two]
theorem l62 (n0 : Nat) (N : Nat) (hN : N ≤ 3) (H : Hp) : ∀ (m i : Nat) (e : Env), i + m = N → e.get 0 = .d (.vals 6 (List.replicate N zm)) → e.get 1 = .d (.int .i64 (1 + 3 * i)) → e.get 5 = .d (.int .i64 i) →
    ∃ e', evLoop (evCode (ev R) R.glob n0 evLoop f62l0) [0, 1, 5] ⟨e, H⟩ = some (.exit 0, ⟨e', H⟩) ∧ e'.get 1 = .d (.int .i64 (1 + 3 * N))
  | 0, i, e, hi, h0, h1, h5 => by
    have c : ¬ (i : Int) < (N : Int) := by omega
    have c' : ¬ i < N := by omega
    have hi' : i = N := by omega
    rw [hi'] at h1
    rw [evLoop_eq]
    refine ⟨?_, ?_, ?_⟩
    rotate_left
    · simp [-List.getD_eq_getElem?_getD, -List.map_map, evBody, evCode, evOps, evOper, evOp, opd, Env.get, Env.put, Env.keep, zipEnv, V.ok, V.sto, V.cells, D.cells, V.isAgg, binD, binInt, binStr, shInt, unD, eqOf, asI, leave, resOf, mapO, fzV, tupOf, view, view1, isData, hand, flatV, flatD, allD, mkAgg, mkVal, beq_lit, IntKind.bits, htake_self, htake_push, hget_hpush_self, hset_push, rowOf_self, okIn, lowIn, lowIn1, fzC_d, fzC_row, f62l0, h0, h1, h5, c, c']
      try rfl
    · simp [-List.getD_eq_getElem?_getD, -List.map_map, evBody, evCode, evOps, evOper, evOp, opd, Env.get, Env.put, Env.keep, zipEnv, V.ok, V.sto, V.cells, D.cells, V.isAgg, binD, binInt, binStr, shInt, unD, eqOf, asI, leave, resOf, mapO, fzV, tupOf, view, view1, isData, hand, flatV, flatD, allD, mkAgg, mkVal, beq_lit, IntKind.bits, htake_self, htake_push, hget_hpush_self, hset_push, rowOf_self, okIn, lowIn, lowIn1, fzC_d, fzC_row, h1]
  | m + 1, i, e, hi, h0, h1, h5 => by
    have c : (i : Int) < (N : Int) := by omega
    have c' : i < N := by omega
    have w1 : IntKind.i64.wrap ((i : Int) + 1) = ((i + 1 : Nat) : Int) := by rw [IntWalk.i64_in _ (by omega)]; rfl
    have g := rep_get N i zm c'
    obtain ⟨k0, hk0⟩ : ∃ k : Int, 1 + 3 * (i : Int) = k := ⟨_, rfl⟩
    obtain ⟨k1, hk1⟩ : ∃ k : Int, k0 + 1 = k := ⟨_, rfl⟩
    obtain ⟨k2, hk2⟩ : ∃ k : Int, k1 + 1 = k := ⟨_, rfl⟩
    obtain ⟨k3, hk3⟩ : ∃ k : Int, k2 + 1 = k := ⟨_, rfl⟩
    have hk3' : k3 = 1 + 3 * ((i + 1 : Nat) : Int) := by omega
    rw [hk0] at h1
    have v1 : IntKind.i64.wrap (k0 + 1) = k1 := by rw [IntWalk.i64_in _ (by omega)]; exact hk1
    have v2 : IntKind.i64.wrap (k1 + 1) = k2 := by rw [IntWalk.i64_in _ (by omega)]; exact hk2
    have v3 : IntKind.i64.wrap (k2 + 1) = k3 := by rw [IntWalk.i64_in _ (by omega)]; exact hk3
    have m0 : k0.tmod 3 = 1 := by rw [Int.tmod_eq_emod_of_nonneg (by omega)]; omega
    have m1 : k1.tmod 3 = 2 := by rw [Int.tmod_eq_emod_of_nonneg (by omega)]; omega
    have m2 : k2.tmod 3 = 0 := by rw [Int.tmod_eq_emod_of_nonneg (by omega)]; omega
    have n0' : ¬ k2 < 0 := by omega
    have n3' : ¬ k3 < 0 := by omega
    have p79 := fun k => pureCall_eq (cl := ev R) fun H => e79e H k
    have p80 := fun k => pureCall_eq (cl := ev R) fun H => e80e H k
    have ih := l62 n0 N hN H m (i + 1)
    rw [← hk3'] at ih
    rw [evLoop_eq]
    generalize evLoop (evCode (ev R) R.glob n0 evLoop f62l0) [0, 1, 5] = F at ih ⊢
    simp [-List.getD_eq_getElem?_getD, -List.map_map, evBody, evCode, evOps, evOper, evOp, opd, Env.get, Env.put, Env.keep, zipEnv, V.ok, V.sto, V.cells, D.cells, V.isAgg, binD, binInt, binStr, shInt, unD, eqOf, asI, leave, resOf, mapO, fzV, tupOf, view, view1, isData, hand, flatV, flatD, allD, mkAgg, mkVal, beq_lit, IntKind.bits, htake_self, htake_push, hget_hpush_self, hset_push, rowOf_self, okIn, lowIn, lowIn1, fzC_d, fzC_row, f62l0, h0, h1, h5, c, c', w1, g, v1, v2, v3, m0, m1, m2, n0', n3', p79, p80]
    refine ih _ (by omega) ?_ ?_ ?_ <;> rfl
theorem e62z (H : Hp) (N : Nat) (hN : N ≤ 3) : ev R 62 [.d (.vals 6 (List.replicate N zm)), .d (.int .i64 1)] H = some (.d (.int .i64 (1 + 3 * N)), H) := by
  refine ev_fn (fn := f62) rfl rfl ?_
  obtain ⟨e', he, g1⟩ := l62 (hlen H) N hN H N 0 [(0, .d (.vals 6 (List.replicate N zm))), (1, .d (.int .i64 1)), (5, .d (.int .i64 0))] (by omega) rfl rfl rfl
  simp [-List.getD_eq_getElem?_getD, -List.map_map, evBody, evCode, evOps, evOper, evOp, opd, Env.get, Env.put, Env.keep, zipEnv, V.ok, V.sto, V.cells, D.cells, V.isAgg, binD, binInt, binStr, shInt, unD, eqOf, asI, leave, resOf, mapO, fzV, tupOf, view, view1, isData, hand, flatV, flatD, allD, mkAgg, mkVal, beq_lit, IntKind.bits, htake_self, htake_push, hget_hpush_self, hset_push, rowOf_self, okIn, lowIn, lowIn1, fzC_d, fzC_row, f62, he, g1]
theorem e61z (H : Hp) (k : Int) (hk : 0 ≤ k) : ev R 61 [.d (.agg [.int .i64 0, .vals 7 []]), .d (.int .i64 k)] H = some (.d (.int .i64 k), H) := by
  refine ev_fn (fn := f61) rfl rfl ?_
  have p := pureCall_eq (cl := ev R) fun H => e78e H k
  have n : ¬ k < 0 := by omega
  simp [-List.getD_eq_getElem?_getD, -List.map_map, evBody, evCode, evOps, evOper, evOp, opd, Env.get, Env.put, Env.keep, zipEnv, V.ok, V.sto, V.cells, D.cells, V.isAgg, binD, binInt, binStr, shInt, unD, eqOf, asI, leave, resOf, mapO, fzV, tupOf, view, view1, isData, hand, flatV, flatD, allD, mkAgg, mkVal, beq_lit, IntKind.bits, htake_self, htake_push, hget_hpush_self, hset_push, rowOf_self, okIn, lowIn, lowIn1, fzC_d, fzC_row, f61, p, hload_box, hload_box1, htake_two, n]
theorem e32z (H : Hp) (N : Nat) (hN : N ≤ 3) : ev R 32 [.d (.agg [.int .i64 0, .vals 7 [], .str [], .vals 6 (List.replicate N zm)]), .d (.int .i64 1)] H = some (.d (.int .i64 (1 + 3 * N)), H) := by
  refine ev_fn (fn := f32) rfl rfl ?_
  have p := pureCall_eq (cl := ev R) fun H => e61z H 1 (by omega)
  have p2 := pureCall_eq (cl := ev R) fun H => e62z H N hN
  have n : ¬ 1 + 3 * (N : Int) < 0 := by omega
  generalize List.replicate N zm = cs at p2 ⊢
  simp [-List.getD_eq_getElem?_getD, -List.map_map, evBody, evCode, evOps, evOper, evOp, opd, Env.get, Env.put, Env.keep, zipEnv, V.ok, V.sto, V.cells, D.cells, V.isAgg, binD, binInt, binStr, shInt, unD, eqOf, asI, leave, resOf, mapO, fzV, tupOf, view, view1, isData, hand, flatV, flatD, allD, mkAgg, mkVal, beq_lit, IntKind.bits, htake_self, htake_push, hget_hpush_self, hset_push, rowOf_self, okIn, lowIn, lowIn1, fzC_d, fzC_row, f32, p, p2, hload_box, hload_box1, htake_two, n]
end Go.Proofs.Ytpmphmpaeooeeaa.Code

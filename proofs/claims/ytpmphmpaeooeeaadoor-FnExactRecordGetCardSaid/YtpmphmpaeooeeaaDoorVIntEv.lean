/- Numbers read from texts: both readers, as the program runs them. -/
import Derived.Test.YtpmphmpaeooeeaaDoorVInt
import Derived.Test.YtpmphmpaeooeeaaDoorVSpecRead
namespace Go.Proofs.YtpmphmpaeooeeaaDoor.Code
open Go Go.Ev Go.Proofs
set_option maxRecDepth 100000
set_option linter.unusedSimpArgs false
set_option linter.unusedVariables false
theorem e50 (H : Hp) (s : Txt) (hs : s.length ≤ 1000000000000) : ev R 50 [.d (.str s)] H = some (.tup [.d (.int .i64 (intV s).1), .d (.bool (intV s).2)], H) := by
  refine ev_fn (fn := f50) rfl rfl ?_
  have q := p30 (figV s) 0 1000000000
  have q1 := p30 (figV (s.drop 1)) 1 1000000000
  have p := pureCall_eq (cl := ev R) fun H => e74 H s hs
  have p1 := pureCall_eq (cl := ev R) fun H => e74 H (s.drop 1) (by simp; omega)
  rw [List.drop_one] at p1 q1
  unfold intV
  rw [List.drop_one]
  generalize figV s.tail = f1 at q1 p1 ⊢
  generalize figV s = f at q p ⊢
  have tl : s.take s.length = s := List.take_length
  obtain ⟨b, hb⟩ : ∃ b, s.getD 0 0 = b := ⟨_, rfl⟩
  by_cases c : 1 < s.length
  · have c' : (1 : Int) < (s.length : Int) := by omega
    have c0 : (0 : Int) < (s.length : Int) := by omega
    have c1 : (1 : Int) ≤ (s.length : Int) := by omega
    have c2 : 0 < s.length := by omega
    have c3 : 1 ≤ s.length := by omega
    have c4 : s ≠ [] := by rintro rfl; simp at c
    by_cases d : b = 45
    · subst d
      by_cases e1 : 1 ≤ f1
      · by_cases e2 : f1 ≤ 1000000000
        · have w : IntKind.i64.wrap (-f1) = -f1 := IntWalk.i64_in _ (by omega)
          simp [-List.getD_eq_getElem?_getD, -List.map_map, evBody, evCode, evOps, evOper, evOp, opd, Env.get, Env.put, Env.keep, zipEnv, V.ok, V.sto, V.cells, D.cells, V.isAgg, binD, binInt, binStr, shInt, unD, eqOf, asI, leave, resOf, mapO, fzV, tupOf, view, view1, isData, hand, flatV, flatD, allD, mkAgg, mkVal, beq_lit, IntKind.bits, htake_self, htake_push, hget_hpush_self, hset_push, rowOf_self, okIn, lowIn, lowIn1, fzC_d, fzC_row, f50, c, c', c0, c1, c2, c3, c4, hb, bound, q1, p1, e1, e2, w]
        · simp [-List.getD_eq_getElem?_getD, -List.map_map, evBody, evCode, evOps, evOper, evOp, opd, Env.get, Env.put, Env.keep, zipEnv, V.ok, V.sto, V.cells, D.cells, V.isAgg, binD, binInt, binStr, shInt, unD, eqOf, asI, leave, resOf, mapO, fzV, tupOf, view, view1, isData, hand, flatV, flatD, allD, mkAgg, mkVal, beq_lit, IntKind.bits, htake_self, htake_push, hget_hpush_self, hset_push, rowOf_self, okIn, lowIn, lowIn1, fzC_d, fzC_row, f50, c, c', c0, c1, c2, c3, c4, hb, bound, q1, p1, e1, e2]
      · simp [-List.getD_eq_getElem?_getD, -List.map_map, evBody, evCode, evOps, evOper, evOp, opd, Env.get, Env.put, Env.keep, zipEnv, V.ok, V.sto, V.cells, D.cells, V.isAgg, binD, binInt, binStr, shInt, unD, eqOf, asI, leave, resOf, mapO, fzV, tupOf, view, view1, isData, hand, flatV, flatD, allD, mkAgg, mkVal, beq_lit, IntKind.bits, htake_self, htake_push, hget_hpush_self, hset_push, rowOf_self, okIn, lowIn, lowIn1, fzC_d, fzC_row, f50, c, c', c0, c1, c2, c3, c4, hb, bound, q1, p1, e1]
    · have d' : ¬ ((b.toNat : Nat) : Int) = 45 := fun h => d (UInt8.toNat_inj.1 (by rw [show (45 : UInt8).toNat = 45 from rfl]; omega))
      have d'' : ¬ b.toNat = 45 := fun h => d' (by omega)
      by_cases e1 : 0 ≤ f
      · by_cases e2 : f ≤ 1000000000
        · simp [-List.getD_eq_getElem?_getD, -List.map_map, evBody, evCode, evOps, evOper, evOp, opd, Env.get, Env.put, Env.keep, zipEnv, V.ok, V.sto, V.cells, D.cells, V.isAgg, binD, binInt, binStr, shInt, unD, eqOf, asI, leave, resOf, mapO, fzV, tupOf, view, view1, isData, hand, flatV, flatD, allD, mkAgg, mkVal, beq_lit, IntKind.bits, htake_self, htake_push, hget_hpush_self, hset_push, rowOf_self, okIn, lowIn, lowIn1, fzC_d, fzC_row, f50, c, c', c0, c1, c2, c3, c4, hb, bound, q, p, e1, e2, d, d', d'']
        · simp [-List.getD_eq_getElem?_getD, -List.map_map, evBody, evCode, evOps, evOper, evOp, opd, Env.get, Env.put, Env.keep, zipEnv, V.ok, V.sto, V.cells, D.cells, V.isAgg, binD, binInt, binStr, shInt, unD, eqOf, asI, leave, resOf, mapO, fzV, tupOf, view, view1, isData, hand, flatV, flatD, allD, mkAgg, mkVal, beq_lit, IntKind.bits, htake_self, htake_push, hget_hpush_self, hset_push, rowOf_self, okIn, lowIn, lowIn1, fzC_d, fzC_row, f50, c, c', c0, c1, c2, c3, c4, hb, bound, q, p, e1, e2, d, d', d'']
      · simp [-List.getD_eq_getElem?_getD, -List.map_map, evBody, evCode, evOps, evOper, evOp, opd, Env.get, Env.put, Env.keep, zipEnv, V.ok, V.sto, V.cells, D.cells, V.isAgg, binD, binInt, binStr, shInt, unD, eqOf, asI, leave, resOf, mapO, fzV, tupOf, view, view1, isData, hand, flatV, flatD, allD, mkAgg, mkVal, beq_lit, IntKind.bits, htake_self, htake_push, hget_hpush_self, hset_push, rowOf_self, okIn, lowIn, lowIn1, fzC_d, fzC_row, f50, c, c', c0, c1, c2, c3, c4, hb, bound, q, p, e1, d, d', d'']
  · have c' : ¬ (1 : Int) < (s.length : Int) := by omega
    by_cases e1 : 0 ≤ f
    · by_cases e2 : f ≤ 1000000000
      · simp [-List.getD_eq_getElem?_getD, -List.map_map, evBody, evCode, evOps, evOper, evOp, opd, Env.get, Env.put, Env.keep, zipEnv, V.ok, V.sto, V.cells, D.cells, V.isAgg, binD, binInt, binStr, shInt, unD, eqOf, asI, leave, resOf, mapO, fzV, tupOf, view, view1, isData, hand, flatV, flatD, allD, mkAgg, mkVal, beq_lit, IntKind.bits, htake_self, htake_push, hget_hpush_self, hset_push, rowOf_self, okIn, lowIn, lowIn1, fzC_d, fzC_row, f50, c, c', q, p, e1, e2]
      · simp [-List.getD_eq_getElem?_getD, -List.map_map, evBody, evCode, evOps, evOper, evOp, opd, Env.get, Env.put, Env.keep, zipEnv, V.ok, V.sto, V.cells, D.cells, V.isAgg, binD, binInt, binStr, shInt, unD, eqOf, asI, leave, resOf, mapO, fzV, tupOf, view, view1, isData, hand, flatV, flatD, allD, mkAgg, mkVal, beq_lit, IntKind.bits, htake_self, htake_push, hget_hpush_self, hset_push, rowOf_self, okIn, lowIn, lowIn1, fzC_d, fzC_row, f50, c, c', q, p, e1, e2]
    · simp [-List.getD_eq_getElem?_getD, -List.map_map, evBody, evCode, evOps, evOper, evOp, opd, Env.get, Env.put, Env.keep, zipEnv, V.ok, V.sto, V.cells, D.cells, V.isAgg, binD, binInt, binStr, shInt, unD, eqOf, asI, leave, resOf, mapO, fzV, tupOf, view, view1, isData, hand, flatV, flatD, allD, mkAgg, mkVal, beq_lit, IntKind.bits, htake_self, htake_push, hget_hpush_self, hset_push, rowOf_self, okIn, lowIn, lowIn1, fzC_d, fzC_row, f50, c, c', q, p, e1]
theorem e51 (H : Hp) (s : Txt) (hs : s.length ≤ 1000000000000) : ev R 51 [.d (.str s)] H = some (.tup [.d (.int .i64 (intV s).1), .d (.bool (intV s).2)], H) := by
  rw [← int_same]
  refine ev_fn (fn := f51) rfl rfl ?_
  have p := pureCall_eq (cl := ev R) fun H => e75 H s (by omega)
  unfold atoiV at p
  unfold intI
  cases h : Lib.atoiAll s with
  | ok v =>
    rw [h] at p
    have b := Lib.atoiAll_bounds h
    have q := p34 v (-1000000000) 1000000000
    have r := pureCall_eq (cl := ev R) fun H => e40 H v (by omega)
    by_cases e1 : -1000000000 ≤ v
    · by_cases e2 : v ≤ 1000000000
      · by_cases e3 : Lib.itoa v = s
        · simp [-List.getD_eq_getElem?_getD, -List.map_map, evBody, evCode, evOps, evOper, evOp, opd, Env.get, Env.put, Env.keep, zipEnv, V.ok, V.sto, V.cells, D.cells, V.isAgg, binD, binInt, binStr, shInt, unD, eqOf, asI, leave, resOf, mapO, fzV, tupOf, view, view1, isData, hand, flatV, flatD, allD, mkAgg, mkVal, beq_lit, IntKind.bits, htake_self, htake_push, hget_hpush_self, hset_push, rowOf_self, okIn, lowIn, lowIn1, fzC_d, fzC_row, f51, p, q, r, e1, e2, e3]
        · simp [-List.getD_eq_getElem?_getD, -List.map_map, evBody, evCode, evOps, evOper, evOp, opd, Env.get, Env.put, Env.keep, zipEnv, V.ok, V.sto, V.cells, D.cells, V.isAgg, binD, binInt, binStr, shInt, unD, eqOf, asI, leave, resOf, mapO, fzV, tupOf, view, view1, isData, hand, flatV, flatD, allD, mkAgg, mkVal, beq_lit, IntKind.bits, htake_self, htake_push, hget_hpush_self, hset_push, rowOf_self, okIn, lowIn, lowIn1, fzC_d, fzC_row, f51, p, q, r, e1, e2, e3]
      · simp [-List.getD_eq_getElem?_getD, -List.map_map, evBody, evCode, evOps, evOper, evOp, opd, Env.get, Env.put, Env.keep, zipEnv, V.ok, V.sto, V.cells, D.cells, V.isAgg, binD, binInt, binStr, shInt, unD, eqOf, asI, leave, resOf, mapO, fzV, tupOf, view, view1, isData, hand, flatV, flatD, allD, mkAgg, mkVal, beq_lit, IntKind.bits, htake_self, htake_push, hget_hpush_self, hset_push, rowOf_self, okIn, lowIn, lowIn1, fzC_d, fzC_row, f51, p, q, r, e1, e2]
    · simp [-List.getD_eq_getElem?_getD, -List.map_map, evBody, evCode, evOps, evOper, evOp, opd, Env.get, Env.put, Env.keep, zipEnv, V.ok, V.sto, V.cells, D.cells, V.isAgg, binD, binInt, binStr, shInt, unD, eqOf, asI, leave, resOf, mapO, fzV, tupOf, view, view1, isData, hand, flatV, flatD, allD, mkAgg, mkVal, beq_lit, IntKind.bits, htake_self, htake_push, hget_hpush_self, hset_push, rowOf_self, okIn, lowIn, lowIn1, fzC_d, fzC_row, f51, p, q, r, e1]
  | range =>
    rw [h] at p
    simp [-List.getD_eq_getElem?_getD, -List.map_map, evBody, evCode, evOps, evOper, evOp, opd, Env.get, Env.put, Env.keep, zipEnv, V.ok, V.sto, V.cells, D.cells, V.isAgg, binD, binInt, binStr, shInt, unD, eqOf, asI, leave, resOf, mapO, fzV, tupOf, view, view1, isData, hand, flatV, flatD, allD, mkAgg, mkVal, beq_lit, IntKind.bits, htake_self, htake_push, hget_hpush_self, hset_push, rowOf_self, okIn, lowIn, lowIn1, fzC_d, fzC_row, f51, p]
  | _ =>
    rw [h] at p
    simp [-List.getD_eq_getElem?_getD, -List.map_map, evBody, evCode, evOps, evOper, evOp, opd, Env.get, Env.put, Env.keep, zipEnv, V.ok, V.sto, V.cells, D.cells, V.isAgg, binD, binInt, binStr, shInt, unD, eqOf, asI, leave, resOf, mapO, fzV, tupOf, view, view1, isData, hand, flatV, flatD, allD, mkAgg, mkVal, beq_lit, IntKind.bits, htake_self, htake_push, hget_hpush_self, hset_push, rowOf_self, okIn, lowIn, lowIn1, fzC_d, fzC_row, f51, p]
end Go.Proofs.YtpmphmpaeooeeaaDoor.Code

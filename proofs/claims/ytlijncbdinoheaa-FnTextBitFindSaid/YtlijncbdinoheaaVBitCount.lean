/- What FnExactTextBitCount answers. -/
import Derived.Test.YtlijncbdinoheaaVBits
namespace Go.Proofs.Ytlijncbdinoheaa.Code
open Go Go.Ev Go.Proofs
set_option maxRecDepth 100000
set_option linter.unusedSimpArgs false
set_option linter.unusedVariables false
def sumTo (f : Int → Int) : Nat → Int → Int
  | 0, _ => 0
  | n + 1, i => f i + sumTo f n (i + 1)
theorem sumTo_add (f : Int → Int) : ∀ (m n : Nat) (i : Int), sumTo f (m + n) i = sumTo f m i + sumTo f n (i + m)
  | 0, n, i => by simp [sumTo]
  | m + 1, n, i => by
    rw [show m + 1 + n = (m + n) + 1 by omega]
    simp only [sumTo, sumTo_add f m n (i + 1)]
    rw [show i + 1 + (m : Int) = i + ((m + 1 : Nat) : Int) by omega]
    omega
theorem bit_01 (s : List UInt8) (i : Int) : 0 ≤ bit s i ∧ bit s i ≤ 1 := by
  unfold bit
  split <;> omega
/-- The ends of a part, as both say them. -/
def ends (n a b : Int) : Int × Int :=
  let a1 := if a < 0 then a + n else a
  let b1 := if b < 0 then b + n else b
  let a2 := if a1 < 0 then 0 else a1
  let b2 := if b1 ≥ n then n - 1 else b1
  if a2 > b2 then (0, 0) else (a2, b2 + 1)
theorem ends_in (n a b : Int) (hn : 0 ≤ n) : 0 ≤ (ends n a b).1 ∧ (ends n a b).1 ≤ (ends n a b).2 ∧ (ends n a b).2 ≤ n := by
  unfold ends
  simp only
  repeat' split
  all_goals (simp only; omega)
def placeB (i : Int) : Bool := decide (i ≥ -1000000000) && decide (i ≤ 1000000000)
theorem e41 (H : Hp) (i : Int) : ev R 41 [.d (.int .i64 i)] H = some (.d (.bool (placeB i)), H) := by
  refine ev_fn (fn := f41) rfl rfl ?_
  have p := p37 i (-1000000000) 1000000000
  simp [-List.getD_eq_getElem?_getD, -List.map_map, evBody, evCode, evOps, evOper, evOp, opd, Env.get, Env.put, Env.keep, zipEnv, V.ok, V.sto, V.cells, D.cells, V.isAgg, binD, binInt, binStr, shInt, unD, eqOf, asI, leave, resOf, mapO, fzV, fzC, tupOf, htake, hlen, view, view1, isData, hand, flatV, flatD, allD, mkAgg, mkVal, beq_lit, IntKind.bits, f41, p, placeB]
theorem e64 (H : Hp) (i : Int) : ev R 64 [.d (.int .i64 i)] H = some (.d (.bool (placeB i)), H) := by
  refine ev_fn (fn := f64) rfl rfl ?_
  have p := p35 i (-1000000000) 1000000000
  simp [-List.getD_eq_getElem?_getD, -List.map_map, evBody, evCode, evOps, evOper, evOp, opd, Env.get, Env.put, Env.keep, zipEnv, V.ok, V.sto, V.cells, D.cells, V.isAgg, binD, binInt, binStr, shInt, unD, eqOf, asI, leave, resOf, mapO, fzV, fzC, tupOf, htake, hlen, view, view1, isData, hand, flatV, flatD, allD, mkAgg, mkVal, beq_lit, IntKind.bits, f64, p, placeB]
theorem p41 (i : Int) : pureCall (ev R) 41 [.d (.int .i64 i)] = some (.d (.bool (placeB i))) := pureCall_eq fun H => e41 H i
theorem p64 (i : Int) : pureCall (ev R) 64 [.d (.int .i64 i)] = some (.d (.bool (placeB i))) := pureCall_eq fun H => e64 H i
theorem e42 (H : Hp) (n a b : Int) (hn : 0 ≤ n ∧ n ≤ 40) (ha : -1000000000 ≤ a ∧ a ≤ 1000000000) (hb : -1000000000 ≤ b ∧ b ≤ 1000000000) : ev R 42 [.d (.int .i64 n), .d (.int .i64 a), .d (.int .i64 b)] H = some (.tup [.d (.int .i64 (ends n a b).1), .d (.int .i64 (ends n a b).2)], H) := by
  refine ev_fn (fn := f42) rfl rfl ?_
  have w1 : IntKind.i64.wrap (a + n) = a + n := IntWalk.i64_in _ (by omega)
  have w2 : IntKind.i64.wrap (b + n) = b + n := IntWalk.i64_in _ (by omega)
  have w3 : IntKind.i64.wrap (n - 1) = n - 1 := IntWalk.i64_in _ (by omega)
  have w4 : IntKind.i64.wrap n = n := IntWalk.i64_in _ (by omega)
  have w5 : IntKind.i64.wrap (b + 1) = b + 1 := IntWalk.i64_in _ (by omega)
  have w6 : IntKind.i64.wrap (b + n + 1) = b + n + 1 := IntWalk.i64_in _ (by omega)
  by_cases h1 : a < 0
  · skip
    by_cases h2 : b < 0
    · skip
      by_cases h3 : a + n < 0
      · skip
        by_cases h4 : n ≤ b + n
        · skip
          have h6 : (n - 1 < b + n) := by omega
          by_cases h5 : n - 1 < 0
          · skip
            first | (exfalso; omega) | (simp [-List.getD_eq_getElem?_getD, -List.map_map, evBody, evCode, evOps, evOper, evOp, opd, Env.get, Env.put, Env.keep, zipEnv, V.ok, V.sto, V.cells, D.cells, V.isAgg, binD, binInt, binStr, shInt, unD, eqOf, asI, leave, resOf, mapO, fzV, fzC, tupOf, htake, hlen, view, view1, isData, hand, flatV, flatD, allD, mkAgg, mkVal, beq_lit, IntKind.bits, f42, ends, w1, w2, w3, w4, w5, w6, h1, h2, h3, h4, h5, h6])
          · skip
            first | (exfalso; omega) | (simp [-List.getD_eq_getElem?_getD, -List.map_map, evBody, evCode, evOps, evOper, evOp, opd, Env.get, Env.put, Env.keep, zipEnv, V.ok, V.sto, V.cells, D.cells, V.isAgg, binD, binInt, binStr, shInt, unD, eqOf, asI, leave, resOf, mapO, fzV, fzC, tupOf, htake, hlen, view, view1, isData, hand, flatV, flatD, allD, mkAgg, mkVal, beq_lit, IntKind.bits, f42, ends, w1, w2, w3, w4, w5, w6, h1, h2, h3, h4, h5, h6])
        · skip
          have h6 : ¬ (n - 1 < b + n) := by omega
          by_cases h5 : b + n < 0
          · skip
            first | (exfalso; omega) | (simp [-List.getD_eq_getElem?_getD, -List.map_map, evBody, evCode, evOps, evOper, evOp, opd, Env.get, Env.put, Env.keep, zipEnv, V.ok, V.sto, V.cells, D.cells, V.isAgg, binD, binInt, binStr, shInt, unD, eqOf, asI, leave, resOf, mapO, fzV, fzC, tupOf, htake, hlen, view, view1, isData, hand, flatV, flatD, allD, mkAgg, mkVal, beq_lit, IntKind.bits, f42, ends, w1, w2, w3, w4, w5, w6, h1, h2, h3, h4, h5, h6])
          · skip
            first | (exfalso; omega) | (simp [-List.getD_eq_getElem?_getD, -List.map_map, evBody, evCode, evOps, evOper, evOp, opd, Env.get, Env.put, Env.keep, zipEnv, V.ok, V.sto, V.cells, D.cells, V.isAgg, binD, binInt, binStr, shInt, unD, eqOf, asI, leave, resOf, mapO, fzV, fzC, tupOf, htake, hlen, view, view1, isData, hand, flatV, flatD, allD, mkAgg, mkVal, beq_lit, IntKind.bits, f42, ends, w1, w2, w3, w4, w5, w6, h1, h2, h3, h4, h5, h6])
      · skip
        by_cases h4 : n ≤ b + n
        · skip
          have h6 : (n - 1 < b + n) := by omega
          by_cases h5 : n - 1 < a + n
          · skip
            first | (exfalso; omega) | (simp [-List.getD_eq_getElem?_getD, -List.map_map, evBody, evCode, evOps, evOper, evOp, opd, Env.get, Env.put, Env.keep, zipEnv, V.ok, V.sto, V.cells, D.cells, V.isAgg, binD, binInt, binStr, shInt, unD, eqOf, asI, leave, resOf, mapO, fzV, fzC, tupOf, htake, hlen, view, view1, isData, hand, flatV, flatD, allD, mkAgg, mkVal, beq_lit, IntKind.bits, f42, ends, w1, w2, w3, w4, w5, w6, h1, h2, h3, h4, h5, h6])
          · skip
            first | (exfalso; omega) | (simp [-List.getD_eq_getElem?_getD, -List.map_map, evBody, evCode, evOps, evOper, evOp, opd, Env.get, Env.put, Env.keep, zipEnv, V.ok, V.sto, V.cells, D.cells, V.isAgg, binD, binInt, binStr, shInt, unD, eqOf, asI, leave, resOf, mapO, fzV, fzC, tupOf, htake, hlen, view, view1, isData, hand, flatV, flatD, allD, mkAgg, mkVal, beq_lit, IntKind.bits, f42, ends, w1, w2, w3, w4, w5, w6, h1, h2, h3, h4, h5, h6])
        · skip
          have h6 : ¬ (n - 1 < b + n) := by omega
          by_cases h5 : b + n < a + n
          · skip
            first | (exfalso; omega) | (simp [-List.getD_eq_getElem?_getD, -List.map_map, evBody, evCode, evOps, evOper, evOp, opd, Env.get, Env.put, Env.keep, zipEnv, V.ok, V.sto, V.cells, D.cells, V.isAgg, binD, binInt, binStr, shInt, unD, eqOf, asI, leave, resOf, mapO, fzV, fzC, tupOf, htake, hlen, view, view1, isData, hand, flatV, flatD, allD, mkAgg, mkVal, beq_lit, IntKind.bits, f42, ends, w1, w2, w3, w4, w5, w6, h1, h2, h3, h4, h5, h6])
          · skip
            first | (exfalso; omega) | (simp [-List.getD_eq_getElem?_getD, -List.map_map, evBody, evCode, evOps, evOper, evOp, opd, Env.get, Env.put, Env.keep, zipEnv, V.ok, V.sto, V.cells, D.cells, V.isAgg, binD, binInt, binStr, shInt, unD, eqOf, asI, leave, resOf, mapO, fzV, fzC, tupOf, htake, hlen, view, view1, isData, hand, flatV, flatD, allD, mkAgg, mkVal, beq_lit, IntKind.bits, f42, ends, w1, w2, w3, w4, w5, w6, h1, h2, h3, h4, h5, h6])
    · skip
      by_cases h3 : a + n < 0
      · skip
        by_cases h4 : n ≤ b
        · skip
          have h6 : (n - 1 < b) := by omega
          by_cases h5 : n - 1 < 0
          · skip
            first | (exfalso; omega) | (simp [-List.getD_eq_getElem?_getD, -List.map_map, evBody, evCode, evOps, evOper, evOp, opd, Env.get, Env.put, Env.keep, zipEnv, V.ok, V.sto, V.cells, D.cells, V.isAgg, binD, binInt, binStr, shInt, unD, eqOf, asI, leave, resOf, mapO, fzV, fzC, tupOf, htake, hlen, view, view1, isData, hand, flatV, flatD, allD, mkAgg, mkVal, beq_lit, IntKind.bits, f42, ends, w1, w2, w3, w4, w5, w6, h1, h2, h3, h4, h5, h6])
          · skip
            first | (exfalso; omega) | (simp [-List.getD_eq_getElem?_getD, -List.map_map, evBody, evCode, evOps, evOper, evOp, opd, Env.get, Env.put, Env.keep, zipEnv, V.ok, V.sto, V.cells, D.cells, V.isAgg, binD, binInt, binStr, shInt, unD, eqOf, asI, leave, resOf, mapO, fzV, fzC, tupOf, htake, hlen, view, view1, isData, hand, flatV, flatD, allD, mkAgg, mkVal, beq_lit, IntKind.bits, f42, ends, w1, w2, w3, w4, w5, w6, h1, h2, h3, h4, h5, h6])
        · skip
          have h6 : ¬ (n - 1 < b) := by omega
          by_cases h5 : b < 0
          · skip
            first | (exfalso; omega) | (simp [-List.getD_eq_getElem?_getD, -List.map_map, evBody, evCode, evOps, evOper, evOp, opd, Env.get, Env.put, Env.keep, zipEnv, V.ok, V.sto, V.cells, D.cells, V.isAgg, binD, binInt, binStr, shInt, unD, eqOf, asI, leave, resOf, mapO, fzV, fzC, tupOf, htake, hlen, view, view1, isData, hand, flatV, flatD, allD, mkAgg, mkVal, beq_lit, IntKind.bits, f42, ends, w1, w2, w3, w4, w5, w6, h1, h2, h3, h4, h5, h6])
          · skip
            first | (exfalso; omega) | (simp [-List.getD_eq_getElem?_getD, -List.map_map, evBody, evCode, evOps, evOper, evOp, opd, Env.get, Env.put, Env.keep, zipEnv, V.ok, V.sto, V.cells, D.cells, V.isAgg, binD, binInt, binStr, shInt, unD, eqOf, asI, leave, resOf, mapO, fzV, fzC, tupOf, htake, hlen, view, view1, isData, hand, flatV, flatD, allD, mkAgg, mkVal, beq_lit, IntKind.bits, f42, ends, w1, w2, w3, w4, w5, w6, h1, h2, h3, h4, h5, h6])
      · skip
        by_cases h4 : n ≤ b
        · skip
          have h6 : (n - 1 < b) := by omega
          by_cases h5 : n - 1 < a + n
          · skip
            first | (exfalso; omega) | (simp [-List.getD_eq_getElem?_getD, -List.map_map, evBody, evCode, evOps, evOper, evOp, opd, Env.get, Env.put, Env.keep, zipEnv, V.ok, V.sto, V.cells, D.cells, V.isAgg, binD, binInt, binStr, shInt, unD, eqOf, asI, leave, resOf, mapO, fzV, fzC, tupOf, htake, hlen, view, view1, isData, hand, flatV, flatD, allD, mkAgg, mkVal, beq_lit, IntKind.bits, f42, ends, w1, w2, w3, w4, w5, w6, h1, h2, h3, h4, h5, h6])
          · skip
            first | (exfalso; omega) | (simp [-List.getD_eq_getElem?_getD, -List.map_map, evBody, evCode, evOps, evOper, evOp, opd, Env.get, Env.put, Env.keep, zipEnv, V.ok, V.sto, V.cells, D.cells, V.isAgg, binD, binInt, binStr, shInt, unD, eqOf, asI, leave, resOf, mapO, fzV, fzC, tupOf, htake, hlen, view, view1, isData, hand, flatV, flatD, allD, mkAgg, mkVal, beq_lit, IntKind.bits, f42, ends, w1, w2, w3, w4, w5, w6, h1, h2, h3, h4, h5, h6])
        · skip
          have h6 : ¬ (n - 1 < b) := by omega
          by_cases h5 : b < a + n
          · skip
            first | (exfalso; omega) | (simp [-List.getD_eq_getElem?_getD, -List.map_map, evBody, evCode, evOps, evOper, evOp, opd, Env.get, Env.put, Env.keep, zipEnv, V.ok, V.sto, V.cells, D.cells, V.isAgg, binD, binInt, binStr, shInt, unD, eqOf, asI, leave, resOf, mapO, fzV, fzC, tupOf, htake, hlen, view, view1, isData, hand, flatV, flatD, allD, mkAgg, mkVal, beq_lit, IntKind.bits, f42, ends, w1, w2, w3, w4, w5, w6, h1, h2, h3, h4, h5, h6])
          · skip
            first | (exfalso; omega) | (simp [-List.getD_eq_getElem?_getD, -List.map_map, evBody, evCode, evOps, evOper, evOp, opd, Env.get, Env.put, Env.keep, zipEnv, V.ok, V.sto, V.cells, D.cells, V.isAgg, binD, binInt, binStr, shInt, unD, eqOf, asI, leave, resOf, mapO, fzV, fzC, tupOf, htake, hlen, view, view1, isData, hand, flatV, flatD, allD, mkAgg, mkVal, beq_lit, IntKind.bits, f42, ends, w1, w2, w3, w4, w5, w6, h1, h2, h3, h4, h5, h6])
  · skip
    by_cases h2 : b < 0
    · skip
      by_cases h3 : a < 0
      · skip
        by_cases h4 : n ≤ b + n
        · skip
          have h6 : (n - 1 < b + n) := by omega
          by_cases h5 : n - 1 < 0
          · skip
            first | (exfalso; omega) | (simp [-List.getD_eq_getElem?_getD, -List.map_map, evBody, evCode, evOps, evOper, evOp, opd, Env.get, Env.put, Env.keep, zipEnv, V.ok, V.sto, V.cells, D.cells, V.isAgg, binD, binInt, binStr, shInt, unD, eqOf, asI, leave, resOf, mapO, fzV, fzC, tupOf, htake, hlen, view, view1, isData, hand, flatV, flatD, allD, mkAgg, mkVal, beq_lit, IntKind.bits, f42, ends, w1, w2, w3, w4, w5, w6, h1, h2, h3, h4, h5, h6])
          · skip
            first | (exfalso; omega) | (simp [-List.getD_eq_getElem?_getD, -List.map_map, evBody, evCode, evOps, evOper, evOp, opd, Env.get, Env.put, Env.keep, zipEnv, V.ok, V.sto, V.cells, D.cells, V.isAgg, binD, binInt, binStr, shInt, unD, eqOf, asI, leave, resOf, mapO, fzV, fzC, tupOf, htake, hlen, view, view1, isData, hand, flatV, flatD, allD, mkAgg, mkVal, beq_lit, IntKind.bits, f42, ends, w1, w2, w3, w4, w5, w6, h1, h2, h3, h4, h5, h6])
        · skip
          have h6 : ¬ (n - 1 < b + n) := by omega
          by_cases h5 : b + n < 0
          · skip
            first | (exfalso; omega) | (simp [-List.getD_eq_getElem?_getD, -List.map_map, evBody, evCode, evOps, evOper, evOp, opd, Env.get, Env.put, Env.keep, zipEnv, V.ok, V.sto, V.cells, D.cells, V.isAgg, binD, binInt, binStr, shInt, unD, eqOf, asI, leave, resOf, mapO, fzV, fzC, tupOf, htake, hlen, view, view1, isData, hand, flatV, flatD, allD, mkAgg, mkVal, beq_lit, IntKind.bits, f42, ends, w1, w2, w3, w4, w5, w6, h1, h2, h3, h4, h5, h6])
          · skip
            first | (exfalso; omega) | (simp [-List.getD_eq_getElem?_getD, -List.map_map, evBody, evCode, evOps, evOper, evOp, opd, Env.get, Env.put, Env.keep, zipEnv, V.ok, V.sto, V.cells, D.cells, V.isAgg, binD, binInt, binStr, shInt, unD, eqOf, asI, leave, resOf, mapO, fzV, fzC, tupOf, htake, hlen, view, view1, isData, hand, flatV, flatD, allD, mkAgg, mkVal, beq_lit, IntKind.bits, f42, ends, w1, w2, w3, w4, w5, w6, h1, h2, h3, h4, h5, h6])
      · skip
        by_cases h4 : n ≤ b + n
        · skip
          have h6 : (n - 1 < b + n) := by omega
          by_cases h5 : n - 1 < a
          · skip
            first | (exfalso; omega) | (simp [-List.getD_eq_getElem?_getD, -List.map_map, evBody, evCode, evOps, evOper, evOp, opd, Env.get, Env.put, Env.keep, zipEnv, V.ok, V.sto, V.cells, D.cells, V.isAgg, binD, binInt, binStr, shInt, unD, eqOf, asI, leave, resOf, mapO, fzV, fzC, tupOf, htake, hlen, view, view1, isData, hand, flatV, flatD, allD, mkAgg, mkVal, beq_lit, IntKind.bits, f42, ends, w1, w2, w3, w4, w5, w6, h1, h2, h3, h4, h5, h6])
          · skip
            first | (exfalso; omega) | (simp [-List.getD_eq_getElem?_getD, -List.map_map, evBody, evCode, evOps, evOper, evOp, opd, Env.get, Env.put, Env.keep, zipEnv, V.ok, V.sto, V.cells, D.cells, V.isAgg, binD, binInt, binStr, shInt, unD, eqOf, asI, leave, resOf, mapO, fzV, fzC, tupOf, htake, hlen, view, view1, isData, hand, flatV, flatD, allD, mkAgg, mkVal, beq_lit, IntKind.bits, f42, ends, w1, w2, w3, w4, w5, w6, h1, h2, h3, h4, h5, h6])
        · skip
          have h6 : ¬ (n - 1 < b + n) := by omega
          by_cases h5 : b + n < a
          · skip
            first | (exfalso; omega) | (simp [-List.getD_eq_getElem?_getD, -List.map_map, evBody, evCode, evOps, evOper, evOp, opd, Env.get, Env.put, Env.keep, zipEnv, V.ok, V.sto, V.cells, D.cells, V.isAgg, binD, binInt, binStr, shInt, unD, eqOf, asI, leave, resOf, mapO, fzV, fzC, tupOf, htake, hlen, view, view1, isData, hand, flatV, flatD, allD, mkAgg, mkVal, beq_lit, IntKind.bits, f42, ends, w1, w2, w3, w4, w5, w6, h1, h2, h3, h4, h5, h6])
          · skip
            first | (exfalso; omega) | (simp [-List.getD_eq_getElem?_getD, -List.map_map, evBody, evCode, evOps, evOper, evOp, opd, Env.get, Env.put, Env.keep, zipEnv, V.ok, V.sto, V.cells, D.cells, V.isAgg, binD, binInt, binStr, shInt, unD, eqOf, asI, leave, resOf, mapO, fzV, fzC, tupOf, htake, hlen, view, view1, isData, hand, flatV, flatD, allD, mkAgg, mkVal, beq_lit, IntKind.bits, f42, ends, w1, w2, w3, w4, w5, w6, h1, h2, h3, h4, h5, h6])
    · skip
      by_cases h3 : a < 0
      · skip
        by_cases h4 : n ≤ b
        · skip
          have h6 : (n - 1 < b) := by omega
          by_cases h5 : n - 1 < 0
          · skip
            first | (exfalso; omega) | (simp [-List.getD_eq_getElem?_getD, -List.map_map, evBody, evCode, evOps, evOper, evOp, opd, Env.get, Env.put, Env.keep, zipEnv, V.ok, V.sto, V.cells, D.cells, V.isAgg, binD, binInt, binStr, shInt, unD, eqOf, asI, leave, resOf, mapO, fzV, fzC, tupOf, htake, hlen, view, view1, isData, hand, flatV, flatD, allD, mkAgg, mkVal, beq_lit, IntKind.bits, f42, ends, w1, w2, w3, w4, w5, w6, h1, h2, h3, h4, h5, h6])
          · skip
            first | (exfalso; omega) | (simp [-List.getD_eq_getElem?_getD, -List.map_map, evBody, evCode, evOps, evOper, evOp, opd, Env.get, Env.put, Env.keep, zipEnv, V.ok, V.sto, V.cells, D.cells, V.isAgg, binD, binInt, binStr, shInt, unD, eqOf, asI, leave, resOf, mapO, fzV, fzC, tupOf, htake, hlen, view, view1, isData, hand, flatV, flatD, allD, mkAgg, mkVal, beq_lit, IntKind.bits, f42, ends, w1, w2, w3, w4, w5, w6, h1, h2, h3, h4, h5, h6])
        · skip
          have h6 : ¬ (n - 1 < b) := by omega
          by_cases h5 : b < 0
          · skip
            first | (exfalso; omega) | (simp [-List.getD_eq_getElem?_getD, -List.map_map, evBody, evCode, evOps, evOper, evOp, opd, Env.get, Env.put, Env.keep, zipEnv, V.ok, V.sto, V.cells, D.cells, V.isAgg, binD, binInt, binStr, shInt, unD, eqOf, asI, leave, resOf, mapO, fzV, fzC, tupOf, htake, hlen, view, view1, isData, hand, flatV, flatD, allD, mkAgg, mkVal, beq_lit, IntKind.bits, f42, ends, w1, w2, w3, w4, w5, w6, h1, h2, h3, h4, h5, h6])
          · skip
            first | (exfalso; omega) | (simp [-List.getD_eq_getElem?_getD, -List.map_map, evBody, evCode, evOps, evOper, evOp, opd, Env.get, Env.put, Env.keep, zipEnv, V.ok, V.sto, V.cells, D.cells, V.isAgg, binD, binInt, binStr, shInt, unD, eqOf, asI, leave, resOf, mapO, fzV, fzC, tupOf, htake, hlen, view, view1, isData, hand, flatV, flatD, allD, mkAgg, mkVal, beq_lit, IntKind.bits, f42, ends, w1, w2, w3, w4, w5, w6, h1, h2, h3, h4, h5, h6])
      · skip
        by_cases h4 : n ≤ b
        · skip
          have h6 : (n - 1 < b) := by omega
          by_cases h5 : n - 1 < a
          · skip
            first | (exfalso; omega) | (simp [-List.getD_eq_getElem?_getD, -List.map_map, evBody, evCode, evOps, evOper, evOp, opd, Env.get, Env.put, Env.keep, zipEnv, V.ok, V.sto, V.cells, D.cells, V.isAgg, binD, binInt, binStr, shInt, unD, eqOf, asI, leave, resOf, mapO, fzV, fzC, tupOf, htake, hlen, view, view1, isData, hand, flatV, flatD, allD, mkAgg, mkVal, beq_lit, IntKind.bits, f42, ends, w1, w2, w3, w4, w5, w6, h1, h2, h3, h4, h5, h6])
          · skip
            first | (exfalso; omega) | (simp [-List.getD_eq_getElem?_getD, -List.map_map, evBody, evCode, evOps, evOper, evOp, opd, Env.get, Env.put, Env.keep, zipEnv, V.ok, V.sto, V.cells, D.cells, V.isAgg, binD, binInt, binStr, shInt, unD, eqOf, asI, leave, resOf, mapO, fzV, fzC, tupOf, htake, hlen, view, view1, isData, hand, flatV, flatD, allD, mkAgg, mkVal, beq_lit, IntKind.bits, f42, ends, w1, w2, w3, w4, w5, w6, h1, h2, h3, h4, h5, h6])
        · skip
          have h6 : ¬ (n - 1 < b) := by omega
          by_cases h5 : b < a
          · skip
            first | (exfalso; omega) | (simp [-List.getD_eq_getElem?_getD, -List.map_map, evBody, evCode, evOps, evOper, evOp, opd, Env.get, Env.put, Env.keep, zipEnv, V.ok, V.sto, V.cells, D.cells, V.isAgg, binD, binInt, binStr, shInt, unD, eqOf, asI, leave, resOf, mapO, fzV, fzC, tupOf, htake, hlen, view, view1, isData, hand, flatV, flatD, allD, mkAgg, mkVal, beq_lit, IntKind.bits, f42, ends, w1, w2, w3, w4, w5, w6, h1, h2, h3, h4, h5, h6])
          · skip
            first | (exfalso; omega) | (simp [-List.getD_eq_getElem?_getD, -List.map_map, evBody, evCode, evOps, evOper, evOp, opd, Env.get, Env.put, Env.keep, zipEnv, V.ok, V.sto, V.cells, D.cells, V.isAgg, binD, binInt, binStr, shInt, unD, eqOf, asI, leave, resOf, mapO, fzV, fzC, tupOf, htake, hlen, view, view1, isData, hand, flatV, flatD, allD, mkAgg, mkVal, beq_lit, IntKind.bits, f42, ends, w1, w2, w3, w4, w5, w6, h1, h2, h3, h4, h5, h6])
theorem e43 (H : Hp) (n a b : Int) (hn : 0 ≤ n ∧ n ≤ 40) (ha : -1000000000 ≤ a ∧ a ≤ 1000000000) (hb : -1000000000 ≤ b ∧ b ≤ 1000000000) : ev R 43 [.d (.int .i64 n), .d (.int .i64 a), .d (.int .i64 b)] H = some (.tup [.d (.int .i64 (ends n a b).1), .d (.int .i64 (ends n a b).2)], H) := by
  refine ev_fn (fn := f43) rfl rfl ?_
  have q1 := p64 a
  have q2 := p64 b
  have q3 : placeB a = true := by unfold placeB; simp; omega
  have q4 : placeB b = true := by unfold placeB; simp; omega
  rw [q3] at q1
  rw [q4] at q2
  have w1 : IntKind.i64.wrap (a + n) = a + n := IntWalk.i64_in _ (by omega)
  have w2 : IntKind.i64.wrap (b + n) = b + n := IntWalk.i64_in _ (by omega)
  have w3 : IntKind.i64.wrap (n - 1) = n - 1 := IntWalk.i64_in _ (by omega)
  have w4 : IntKind.i64.wrap n = n := IntWalk.i64_in _ (by omega)
  have w5 : IntKind.i64.wrap (b + 1) = b + 1 := IntWalk.i64_in _ (by omega)
  have w6 : IntKind.i64.wrap (b + n + 1) = b + n + 1 := IntWalk.i64_in _ (by omega)
  by_cases h1 : a < 0
  · skip
    by_cases h2 : b < 0
    · skip
      by_cases h3 : a + n < 0
      · skip
        by_cases h4 : n ≤ b + n
        · skip
          have h6 : (n - 1 < b + n) := by omega
          by_cases h5 : n - 1 < 0
          · skip
            first | (exfalso; omega) | (simp [-List.getD_eq_getElem?_getD, -List.map_map, evBody, evCode, evOps, evOper, evOp, opd, Env.get, Env.put, Env.keep, zipEnv, V.ok, V.sto, V.cells, D.cells, V.isAgg, binD, binInt, binStr, shInt, unD, eqOf, asI, leave, resOf, mapO, fzV, fzC, tupOf, htake, hlen, view, view1, isData, hand, flatV, flatD, allD, mkAgg, mkVal, beq_lit, IntKind.bits, f43, ends, mnmxL, mnmx2, q1, q2, w1, w2, w3, w4, w5, w6, h1, h2, h3, h4, h5, h6])
          · skip
            first | (exfalso; omega) | (simp [-List.getD_eq_getElem?_getD, -List.map_map, evBody, evCode, evOps, evOper, evOp, opd, Env.get, Env.put, Env.keep, zipEnv, V.ok, V.sto, V.cells, D.cells, V.isAgg, binD, binInt, binStr, shInt, unD, eqOf, asI, leave, resOf, mapO, fzV, fzC, tupOf, htake, hlen, view, view1, isData, hand, flatV, flatD, allD, mkAgg, mkVal, beq_lit, IntKind.bits, f43, ends, mnmxL, mnmx2, q1, q2, w1, w2, w3, w4, w5, w6, h1, h2, h3, h4, h5, h6])
        · skip
          have h6 : ¬ (n - 1 < b + n) := by omega
          by_cases h5 : b + n < 0
          · skip
            first | (exfalso; omega) | (simp [-List.getD_eq_getElem?_getD, -List.map_map, evBody, evCode, evOps, evOper, evOp, opd, Env.get, Env.put, Env.keep, zipEnv, V.ok, V.sto, V.cells, D.cells, V.isAgg, binD, binInt, binStr, shInt, unD, eqOf, asI, leave, resOf, mapO, fzV, fzC, tupOf, htake, hlen, view, view1, isData, hand, flatV, flatD, allD, mkAgg, mkVal, beq_lit, IntKind.bits, f43, ends, mnmxL, mnmx2, q1, q2, w1, w2, w3, w4, w5, w6, h1, h2, h3, h4, h5, h6])
          · skip
            first | (exfalso; omega) | (simp [-List.getD_eq_getElem?_getD, -List.map_map, evBody, evCode, evOps, evOper, evOp, opd, Env.get, Env.put, Env.keep, zipEnv, V.ok, V.sto, V.cells, D.cells, V.isAgg, binD, binInt, binStr, shInt, unD, eqOf, asI, leave, resOf, mapO, fzV, fzC, tupOf, htake, hlen, view, view1, isData, hand, flatV, flatD, allD, mkAgg, mkVal, beq_lit, IntKind.bits, f43, ends, mnmxL, mnmx2, q1, q2, w1, w2, w3, w4, w5, w6, h1, h2, h3, h4, h5, h6])
      · skip
        by_cases h4 : n ≤ b + n
        · skip
          have h6 : (n - 1 < b + n) := by omega
          by_cases h5 : n - 1 < a + n
          · skip
            first | (exfalso; omega) | (simp [-List.getD_eq_getElem?_getD, -List.map_map, evBody, evCode, evOps, evOper, evOp, opd, Env.get, Env.put, Env.keep, zipEnv, V.ok, V.sto, V.cells, D.cells, V.isAgg, binD, binInt, binStr, shInt, unD, eqOf, asI, leave, resOf, mapO, fzV, fzC, tupOf, htake, hlen, view, view1, isData, hand, flatV, flatD, allD, mkAgg, mkVal, beq_lit, IntKind.bits, f43, ends, mnmxL, mnmx2, q1, q2, w1, w2, w3, w4, w5, w6, h1, h2, h3, h4, h5, h6])
          · skip
            first | (exfalso; omega) | (simp [-List.getD_eq_getElem?_getD, -List.map_map, evBody, evCode, evOps, evOper, evOp, opd, Env.get, Env.put, Env.keep, zipEnv, V.ok, V.sto, V.cells, D.cells, V.isAgg, binD, binInt, binStr, shInt, unD, eqOf, asI, leave, resOf, mapO, fzV, fzC, tupOf, htake, hlen, view, view1, isData, hand, flatV, flatD, allD, mkAgg, mkVal, beq_lit, IntKind.bits, f43, ends, mnmxL, mnmx2, q1, q2, w1, w2, w3, w4, w5, w6, h1, h2, h3, h4, h5, h6])
        · skip
          have h6 : ¬ (n - 1 < b + n) := by omega
          by_cases h5 : b + n < a + n
          · skip
            first | (exfalso; omega) | (simp [-List.getD_eq_getElem?_getD, -List.map_map, evBody, evCode, evOps, evOper, evOp, opd, Env.get, Env.put, Env.keep, zipEnv, V.ok, V.sto, V.cells, D.cells, V.isAgg, binD, binInt, binStr, shInt, unD, eqOf, asI, leave, resOf, mapO, fzV, fzC, tupOf, htake, hlen, view, view1, isData, hand, flatV, flatD, allD, mkAgg, mkVal, beq_lit, IntKind.bits, f43, ends, mnmxL, mnmx2, q1, q2, w1, w2, w3, w4, w5, w6, h1, h2, h3, h4, h5, h6])
          · skip
            first | (exfalso; omega) | (simp [-List.getD_eq_getElem?_getD, -List.map_map, evBody, evCode, evOps, evOper, evOp, opd, Env.get, Env.put, Env.keep, zipEnv, V.ok, V.sto, V.cells, D.cells, V.isAgg, binD, binInt, binStr, shInt, unD, eqOf, asI, leave, resOf, mapO, fzV, fzC, tupOf, htake, hlen, view, view1, isData, hand, flatV, flatD, allD, mkAgg, mkVal, beq_lit, IntKind.bits, f43, ends, mnmxL, mnmx2, q1, q2, w1, w2, w3, w4, w5, w6, h1, h2, h3, h4, h5, h6])
    · skip
      by_cases h3 : a + n < 0
      · skip
        by_cases h4 : n ≤ b
        · skip
          have h6 : (n - 1 < b) := by omega
          by_cases h5 : n - 1 < 0
          · skip
            first | (exfalso; omega) | (simp [-List.getD_eq_getElem?_getD, -List.map_map, evBody, evCode, evOps, evOper, evOp, opd, Env.get, Env.put, Env.keep, zipEnv, V.ok, V.sto, V.cells, D.cells, V.isAgg, binD, binInt, binStr, shInt, unD, eqOf, asI, leave, resOf, mapO, fzV, fzC, tupOf, htake, hlen, view, view1, isData, hand, flatV, flatD, allD, mkAgg, mkVal, beq_lit, IntKind.bits, f43, ends, mnmxL, mnmx2, q1, q2, w1, w2, w3, w4, w5, w6, h1, h2, h3, h4, h5, h6])
          · skip
            first | (exfalso; omega) | (simp [-List.getD_eq_getElem?_getD, -List.map_map, evBody, evCode, evOps, evOper, evOp, opd, Env.get, Env.put, Env.keep, zipEnv, V.ok, V.sto, V.cells, D.cells, V.isAgg, binD, binInt, binStr, shInt, unD, eqOf, asI, leave, resOf, mapO, fzV, fzC, tupOf, htake, hlen, view, view1, isData, hand, flatV, flatD, allD, mkAgg, mkVal, beq_lit, IntKind.bits, f43, ends, mnmxL, mnmx2, q1, q2, w1, w2, w3, w4, w5, w6, h1, h2, h3, h4, h5, h6])
        · skip
          have h6 : ¬ (n - 1 < b) := by omega
          by_cases h5 : b < 0
          · skip
            first | (exfalso; omega) | (simp [-List.getD_eq_getElem?_getD, -List.map_map, evBody, evCode, evOps, evOper, evOp, opd, Env.get, Env.put, Env.keep, zipEnv, V.ok, V.sto, V.cells, D.cells, V.isAgg, binD, binInt, binStr, shInt, unD, eqOf, asI, leave, resOf, mapO, fzV, fzC, tupOf, htake, hlen, view, view1, isData, hand, flatV, flatD, allD, mkAgg, mkVal, beq_lit, IntKind.bits, f43, ends, mnmxL, mnmx2, q1, q2, w1, w2, w3, w4, w5, w6, h1, h2, h3, h4, h5, h6])
          · skip
            first | (exfalso; omega) | (simp [-List.getD_eq_getElem?_getD, -List.map_map, evBody, evCode, evOps, evOper, evOp, opd, Env.get, Env.put, Env.keep, zipEnv, V.ok, V.sto, V.cells, D.cells, V.isAgg, binD, binInt, binStr, shInt, unD, eqOf, asI, leave, resOf, mapO, fzV, fzC, tupOf, htake, hlen, view, view1, isData, hand, flatV, flatD, allD, mkAgg, mkVal, beq_lit, IntKind.bits, f43, ends, mnmxL, mnmx2, q1, q2, w1, w2, w3, w4, w5, w6, h1, h2, h3, h4, h5, h6])
      · skip
        by_cases h4 : n ≤ b
        · skip
          have h6 : (n - 1 < b) := by omega
          by_cases h5 : n - 1 < a + n
          · skip
            first | (exfalso; omega) | (simp [-List.getD_eq_getElem?_getD, -List.map_map, evBody, evCode, evOps, evOper, evOp, opd, Env.get, Env.put, Env.keep, zipEnv, V.ok, V.sto, V.cells, D.cells, V.isAgg, binD, binInt, binStr, shInt, unD, eqOf, asI, leave, resOf, mapO, fzV, fzC, tupOf, htake, hlen, view, view1, isData, hand, flatV, flatD, allD, mkAgg, mkVal, beq_lit, IntKind.bits, f43, ends, mnmxL, mnmx2, q1, q2, w1, w2, w3, w4, w5, w6, h1, h2, h3, h4, h5, h6])
          · skip
            first | (exfalso; omega) | (simp [-List.getD_eq_getElem?_getD, -List.map_map, evBody, evCode, evOps, evOper, evOp, opd, Env.get, Env.put, Env.keep, zipEnv, V.ok, V.sto, V.cells, D.cells, V.isAgg, binD, binInt, binStr, shInt, unD, eqOf, asI, leave, resOf, mapO, fzV, fzC, tupOf, htake, hlen, view, view1, isData, hand, flatV, flatD, allD, mkAgg, mkVal, beq_lit, IntKind.bits, f43, ends, mnmxL, mnmx2, q1, q2, w1, w2, w3, w4, w5, w6, h1, h2, h3, h4, h5, h6])
        · skip
          have h6 : ¬ (n - 1 < b) := by omega
          by_cases h5 : b < a + n
          · skip
            first | (exfalso; omega) | (simp [-List.getD_eq_getElem?_getD, -List.map_map, evBody, evCode, evOps, evOper, evOp, opd, Env.get, Env.put, Env.keep, zipEnv, V.ok, V.sto, V.cells, D.cells, V.isAgg, binD, binInt, binStr, shInt, unD, eqOf, asI, leave, resOf, mapO, fzV, fzC, tupOf, htake, hlen, view, view1, isData, hand, flatV, flatD, allD, mkAgg, mkVal, beq_lit, IntKind.bits, f43, ends, mnmxL, mnmx2, q1, q2, w1, w2, w3, w4, w5, w6, h1, h2, h3, h4, h5, h6])
          · skip
            first | (exfalso; omega) | (simp [-List.getD_eq_getElem?_getD, -List.map_map, evBody, evCode, evOps, evOper, evOp, opd, Env.get, Env.put, Env.keep, zipEnv, V.ok, V.sto, V.cells, D.cells, V.isAgg, binD, binInt, binStr, shInt, unD, eqOf, asI, leave, resOf, mapO, fzV, fzC, tupOf, htake, hlen, view, view1, isData, hand, flatV, flatD, allD, mkAgg, mkVal, beq_lit, IntKind.bits, f43, ends, mnmxL, mnmx2, q1, q2, w1, w2, w3, w4, w5, w6, h1, h2, h3, h4, h5, h6])
  · skip
    by_cases h2 : b < 0
    · skip
      by_cases h3 : a < 0
      · skip
        by_cases h4 : n ≤ b + n
        · skip
          have h6 : (n - 1 < b + n) := by omega
          by_cases h5 : n - 1 < 0
          · skip
            first | (exfalso; omega) | (simp [-List.getD_eq_getElem?_getD, -List.map_map, evBody, evCode, evOps, evOper, evOp, opd, Env.get, Env.put, Env.keep, zipEnv, V.ok, V.sto, V.cells, D.cells, V.isAgg, binD, binInt, binStr, shInt, unD, eqOf, asI, leave, resOf, mapO, fzV, fzC, tupOf, htake, hlen, view, view1, isData, hand, flatV, flatD, allD, mkAgg, mkVal, beq_lit, IntKind.bits, f43, ends, mnmxL, mnmx2, q1, q2, w1, w2, w3, w4, w5, w6, h1, h2, h3, h4, h5, h6])
          · skip
            first | (exfalso; omega) | (simp [-List.getD_eq_getElem?_getD, -List.map_map, evBody, evCode, evOps, evOper, evOp, opd, Env.get, Env.put, Env.keep, zipEnv, V.ok, V.sto, V.cells, D.cells, V.isAgg, binD, binInt, binStr, shInt, unD, eqOf, asI, leave, resOf, mapO, fzV, fzC, tupOf, htake, hlen, view, view1, isData, hand, flatV, flatD, allD, mkAgg, mkVal, beq_lit, IntKind.bits, f43, ends, mnmxL, mnmx2, q1, q2, w1, w2, w3, w4, w5, w6, h1, h2, h3, h4, h5, h6])
        · skip
          have h6 : ¬ (n - 1 < b + n) := by omega
          by_cases h5 : b + n < 0
          · skip
            first | (exfalso; omega) | (simp [-List.getD_eq_getElem?_getD, -List.map_map, evBody, evCode, evOps, evOper, evOp, opd, Env.get, Env.put, Env.keep, zipEnv, V.ok, V.sto, V.cells, D.cells, V.isAgg, binD, binInt, binStr, shInt, unD, eqOf, asI, leave, resOf, mapO, fzV, fzC, tupOf, htake, hlen, view, view1, isData, hand, flatV, flatD, allD, mkAgg, mkVal, beq_lit, IntKind.bits, f43, ends, mnmxL, mnmx2, q1, q2, w1, w2, w3, w4, w5, w6, h1, h2, h3, h4, h5, h6])
          · skip
            first | (exfalso; omega) | (simp [-List.getD_eq_getElem?_getD, -List.map_map, evBody, evCode, evOps, evOper, evOp, opd, Env.get, Env.put, Env.keep, zipEnv, V.ok, V.sto, V.cells, D.cells, V.isAgg, binD, binInt, binStr, shInt, unD, eqOf, asI, leave, resOf, mapO, fzV, fzC, tupOf, htake, hlen, view, view1, isData, hand, flatV, flatD, allD, mkAgg, mkVal, beq_lit, IntKind.bits, f43, ends, mnmxL, mnmx2, q1, q2, w1, w2, w3, w4, w5, w6, h1, h2, h3, h4, h5, h6])
      · skip
        by_cases h4 : n ≤ b + n
        · skip
          have h6 : (n - 1 < b + n) := by omega
          by_cases h5 : n - 1 < a
          · skip
            first | (exfalso; omega) | (simp [-List.getD_eq_getElem?_getD, -List.map_map, evBody, evCode, evOps, evOper, evOp, opd, Env.get, Env.put, Env.keep, zipEnv, V.ok, V.sto, V.cells, D.cells, V.isAgg, binD, binInt, binStr, shInt, unD, eqOf, asI, leave, resOf, mapO, fzV, fzC, tupOf, htake, hlen, view, view1, isData, hand, flatV, flatD, allD, mkAgg, mkVal, beq_lit, IntKind.bits, f43, ends, mnmxL, mnmx2, q1, q2, w1, w2, w3, w4, w5, w6, h1, h2, h3, h4, h5, h6])
          · skip
            first | (exfalso; omega) | (simp [-List.getD_eq_getElem?_getD, -List.map_map, evBody, evCode, evOps, evOper, evOp, opd, Env.get, Env.put, Env.keep, zipEnv, V.ok, V.sto, V.cells, D.cells, V.isAgg, binD, binInt, binStr, shInt, unD, eqOf, asI, leave, resOf, mapO, fzV, fzC, tupOf, htake, hlen, view, view1, isData, hand, flatV, flatD, allD, mkAgg, mkVal, beq_lit, IntKind.bits, f43, ends, mnmxL, mnmx2, q1, q2, w1, w2, w3, w4, w5, w6, h1, h2, h3, h4, h5, h6])
        · skip
          have h6 : ¬ (n - 1 < b + n) := by omega
          by_cases h5 : b + n < a
          · skip
            first | (exfalso; omega) | (simp [-List.getD_eq_getElem?_getD, -List.map_map, evBody, evCode, evOps, evOper, evOp, opd, Env.get, Env.put, Env.keep, zipEnv, V.ok, V.sto, V.cells, D.cells, V.isAgg, binD, binInt, binStr, shInt, unD, eqOf, asI, leave, resOf, mapO, fzV, fzC, tupOf, htake, hlen, view, view1, isData, hand, flatV, flatD, allD, mkAgg, mkVal, beq_lit, IntKind.bits, f43, ends, mnmxL, mnmx2, q1, q2, w1, w2, w3, w4, w5, w6, h1, h2, h3, h4, h5, h6])
          · skip
            first | (exfalso; omega) | (simp [-List.getD_eq_getElem?_getD, -List.map_map, evBody, evCode, evOps, evOper, evOp, opd, Env.get, Env.put, Env.keep, zipEnv, V.ok, V.sto, V.cells, D.cells, V.isAgg, binD, binInt, binStr, shInt, unD, eqOf, asI, leave, resOf, mapO, fzV, fzC, tupOf, htake, hlen, view, view1, isData, hand, flatV, flatD, allD, mkAgg, mkVal, beq_lit, IntKind.bits, f43, ends, mnmxL, mnmx2, q1, q2, w1, w2, w3, w4, w5, w6, h1, h2, h3, h4, h5, h6])
    · skip
      by_cases h3 : a < 0
      · skip
        by_cases h4 : n ≤ b
        · skip
          have h6 : (n - 1 < b) := by omega
          by_cases h5 : n - 1 < 0
          · skip
            first | (exfalso; omega) | (simp [-List.getD_eq_getElem?_getD, -List.map_map, evBody, evCode, evOps, evOper, evOp, opd, Env.get, Env.put, Env.keep, zipEnv, V.ok, V.sto, V.cells, D.cells, V.isAgg, binD, binInt, binStr, shInt, unD, eqOf, asI, leave, resOf, mapO, fzV, fzC, tupOf, htake, hlen, view, view1, isData, hand, flatV, flatD, allD, mkAgg, mkVal, beq_lit, IntKind.bits, f43, ends, mnmxL, mnmx2, q1, q2, w1, w2, w3, w4, w5, w6, h1, h2, h3, h4, h5, h6])
          · skip
            first | (exfalso; omega) | (simp [-List.getD_eq_getElem?_getD, -List.map_map, evBody, evCode, evOps, evOper, evOp, opd, Env.get, Env.put, Env.keep, zipEnv, V.ok, V.sto, V.cells, D.cells, V.isAgg, binD, binInt, binStr, shInt, unD, eqOf, asI, leave, resOf, mapO, fzV, fzC, tupOf, htake, hlen, view, view1, isData, hand, flatV, flatD, allD, mkAgg, mkVal, beq_lit, IntKind.bits, f43, ends, mnmxL, mnmx2, q1, q2, w1, w2, w3, w4, w5, w6, h1, h2, h3, h4, h5, h6])
        · skip
          have h6 : ¬ (n - 1 < b) := by omega
          by_cases h5 : b < 0
          · skip
            first | (exfalso; omega) | (simp [-List.getD_eq_getElem?_getD, -List.map_map, evBody, evCode, evOps, evOper, evOp, opd, Env.get, Env.put, Env.keep, zipEnv, V.ok, V.sto, V.cells, D.cells, V.isAgg, binD, binInt, binStr, shInt, unD, eqOf, asI, leave, resOf, mapO, fzV, fzC, tupOf, htake, hlen, view, view1, isData, hand, flatV, flatD, allD, mkAgg, mkVal, beq_lit, IntKind.bits, f43, ends, mnmxL, mnmx2, q1, q2, w1, w2, w3, w4, w5, w6, h1, h2, h3, h4, h5, h6])
          · skip
            first | (exfalso; omega) | (simp [-List.getD_eq_getElem?_getD, -List.map_map, evBody, evCode, evOps, evOper, evOp, opd, Env.get, Env.put, Env.keep, zipEnv, V.ok, V.sto, V.cells, D.cells, V.isAgg, binD, binInt, binStr, shInt, unD, eqOf, asI, leave, resOf, mapO, fzV, fzC, tupOf, htake, hlen, view, view1, isData, hand, flatV, flatD, allD, mkAgg, mkVal, beq_lit, IntKind.bits, f43, ends, mnmxL, mnmx2, q1, q2, w1, w2, w3, w4, w5, w6, h1, h2, h3, h4, h5, h6])
      · skip
        by_cases h4 : n ≤ b
        · skip
          have h6 : (n - 1 < b) := by omega
          by_cases h5 : n - 1 < a
          · skip
            first | (exfalso; omega) | (simp [-List.getD_eq_getElem?_getD, -List.map_map, evBody, evCode, evOps, evOper, evOp, opd, Env.get, Env.put, Env.keep, zipEnv, V.ok, V.sto, V.cells, D.cells, V.isAgg, binD, binInt, binStr, shInt, unD, eqOf, asI, leave, resOf, mapO, fzV, fzC, tupOf, htake, hlen, view, view1, isData, hand, flatV, flatD, allD, mkAgg, mkVal, beq_lit, IntKind.bits, f43, ends, mnmxL, mnmx2, q1, q2, w1, w2, w3, w4, w5, w6, h1, h2, h3, h4, h5, h6])
          · skip
            first | (exfalso; omega) | (simp [-List.getD_eq_getElem?_getD, -List.map_map, evBody, evCode, evOps, evOper, evOp, opd, Env.get, Env.put, Env.keep, zipEnv, V.ok, V.sto, V.cells, D.cells, V.isAgg, binD, binInt, binStr, shInt, unD, eqOf, asI, leave, resOf, mapO, fzV, fzC, tupOf, htake, hlen, view, view1, isData, hand, flatV, flatD, allD, mkAgg, mkVal, beq_lit, IntKind.bits, f43, ends, mnmxL, mnmx2, q1, q2, w1, w2, w3, w4, w5, w6, h1, h2, h3, h4, h5, h6])
        · skip
          have h6 : ¬ (n - 1 < b) := by omega
          by_cases h5 : b < a
          · skip
            first | (exfalso; omega) | (simp [-List.getD_eq_getElem?_getD, -List.map_map, evBody, evCode, evOps, evOper, evOp, opd, Env.get, Env.put, Env.keep, zipEnv, V.ok, V.sto, V.cells, D.cells, V.isAgg, binD, binInt, binStr, shInt, unD, eqOf, asI, leave, resOf, mapO, fzV, fzC, tupOf, htake, hlen, view, view1, isData, hand, flatV, flatD, allD, mkAgg, mkVal, beq_lit, IntKind.bits, f43, ends, mnmxL, mnmx2, q1, q2, w1, w2, w3, w4, w5, w6, h1, h2, h3, h4, h5, h6])
          · skip
            first | (exfalso; omega) | (simp [-List.getD_eq_getElem?_getD, -List.map_map, evBody, evCode, evOps, evOper, evOp, opd, Env.get, Env.put, Env.keep, zipEnv, V.ok, V.sto, V.cells, D.cells, V.isAgg, binD, binInt, binStr, shInt, unD, eqOf, asI, leave, resOf, mapO, fzV, fzC, tupOf, htake, hlen, view, view1, isData, hand, flatV, flatD, allD, mkAgg, mkVal, beq_lit, IntKind.bits, f43, ends, mnmxL, mnmx2, q1, q2, w1, w2, w3, w4, w5, w6, h1, h2, h3, h4, h5, h6])
theorem e43n (H : Hp) (n a b : Int) (h : (placeB a && placeB b) = false) : ev R 43 [.d (.int .i64 n), .d (.int .i64 a), .d (.int .i64 b)] H = some (.tup [.d (.int .i64 0), .d (.int .i64 0)], H) := by
  refine ev_fn (fn := f43) rfl rfl ?_
  have q1 := p64 a
  have q2 := p64 b
  cases ha : placeB a with
  | false =>
    rw [ha] at q1
    simp [-List.getD_eq_getElem?_getD, -List.map_map, evBody, evCode, evOps, evOper, evOp, opd, Env.get, Env.put, Env.keep, zipEnv, V.ok, V.sto, V.cells, D.cells, V.isAgg, binD, binInt, binStr, shInt, unD, eqOf, asI, leave, resOf, mapO, fzV, fzC, tupOf, htake, hlen, view, view1, isData, hand, flatV, flatD, allD, mkAgg, mkVal, beq_lit, IntKind.bits, f43, q1]
  | true =>
    have hb : placeB b = false := by rw [ha] at h; simpa using h
    rw [ha] at q1
    rw [hb] at q2
    simp [-List.getD_eq_getElem?_getD, -List.map_map, evBody, evCode, evOps, evOper, evOp, opd, Env.get, Env.put, Env.keep, zipEnv, V.ok, V.sto, V.cells, D.cells, V.isAgg, binD, binInt, binStr, shInt, unD, eqOf, asI, leave, resOf, mapO, fzV, fzC, tupOf, htake, hlen, view, view1, isData, hand, flatV, flatD, allD, mkAgg, mkVal, beq_lit, IntKind.bits, f43, q1, q2]
def tbl : List UInt8 := [0, 1, 1, 2, 1, 2, 2, 3, 1, 2, 2, 3, 2, 3, 3, 4, 1, 2, 2, 3, 2, 3, 3, 4, 2, 3, 3, 4, 3, 4, 4, 5, 1, 2, 2, 3, 2, 3, 3, 4, 2, 3, 3, 4, 3, 4, 4, 5, 2, 3, 3, 4, 3, 4, 4, 5, 3, 4, 4, 5, 4, 5, 5, 6, 1, 2, 2, 3, 2, 3, 3, 4, 2, 3, 3, 4, 3, 4, 4, 5, 2, 3, 3, 4, 3, 4, 4, 5, 3, 4, 4, 5, 4, 5, 5, 6, 2, 3, 3, 4, 3, 4, 4, 5, 3, 4, 4, 5, 4, 5, 5, 6, 3, 4, 4, 5, 4, 5, 5, 6, 4, 5, 5, 6, 5, 6, 6, 7, 1, 2, 2, 3, 2, 3, 3, 4, 2, 3, 3, 4, 3, 4, 4, 5, 2, 3, 3, 4, 3, 4, 4, 5, 3, 4, 4, 5, 4, 5, 5, 6, 2, 3, 3, 4, 3, 4, 4, 5, 3, 4, 4, 5, 4, 5, 5, 6, 3, 4, 4, 5, 4, 5, 5, 6, 4, 5, 5, 6, 5, 6, 6, 7, 2, 3, 3, 4, 3, 4, 4, 5, 3, 4, 4, 5, 4, 5, 5, 6, 3, 4, 4, 5, 4, 5, 5, 6, 4, 5, 5, 6, 5, 6, 6, 7, 3, 4, 4, 5, 4, 5, 5, 6, 4, 5, 5, 6, 5, 6, 6, 7, 4, 5, 5, 6, 5, 6, 6, 7, 5, 6, 6, 7, 6, 7, 7, 8]
def popN (n : Nat) : Int := sumTo (fun j => (n : Int) / (2 ^ (7 - j).toNat) % 2) 8 0
theorem tbl_ok (n : Nat) (h : n < 256) : ((tbl.getD n 0).toNat : Int) = popN n ∧ 0 ≤ popN n ∧ popN n ≤ 8 := by
  have hh : (List.range 256).all (fun n => decide (((tbl.getD n 0).toNat : Int) = popN n ∧ 0 ≤ popN n ∧ popN n ≤ 8)) = true := by decide +kernel
  have := List.all_eq_true.1 hh n (List.mem_range.2 h)
  simpa using this
theorem e44 (H : Hp) (x : UInt8) : ev R 44 [.d (.int .u8 x.toNat)] H = some (.d (.int .i64 (popN x.toNat)), H) := by
  refine ev_fn (fn := f44) rfl rfl ?_
  have hx := x.toNat_lt
  have k0 : 0 ≤ (x.toNat : Int) := by omega
  have k1 : (x.toNat : Int) < (tbl.length : Int) := by have : tbl.length = 256 := rfl; omega
  have k2 := tbl_ok x.toNat (by omega)
  have w : IntKind.i64.wrap ((tbl.getD x.toNat 0).toNat : Int) = popN x.toNat := by rw [k2.1]; exact IntWalk.i64_in _ (by omega)
  have hf : f44 = { np := 1, nt := 6, res := [.tmp 2], own := false, body := (.seq (.reg false [⟨some 2, none, .mv (.c (.int .i64 (0)))⟩]) [0] (.seq (.reg false [⟨some 3, none, .mv (.t 0)⟩, ⟨some 4, none, .idx (.c (.str tbl)) (.t 3)⟩, ⟨some 5, none, .cvInt .i64 (.t 4)⟩, ⟨some 2, none, .mv (.t 5)⟩]) [2] (.ret))) } := rfl
  rw [hf]
  simp [-List.getD_eq_getElem?_getD, -List.map_map, evBody, evCode, evOps, evOper, evOp, opd, Env.get, Env.put, Env.keep, zipEnv, V.ok, V.sto, V.cells, D.cells, V.isAgg, binD, binInt, binStr, shInt, unD, eqOf, asI, leave, resOf, mapO, fzV, fzC, tupOf, htake, hlen, view, view1, isData, hand, flatV, flatD, allD, mkAgg, mkVal, beq_lit, IntKind.bits, k0, k1, w]
theorem p44 (x : UInt8) : pureCall (ev R) 44 [.d (.int .u8 x.toNat)] = some (.d (.int .i64 (popN x.toNat))) := pureCall_eq fun H => e44 H x
theorem bit_at (s : List UInt8) (k j : Int) (hk : 0 ≤ k) (hl : k < s.length) (h0 : 0 ≤ j) (h8 : j < 8) : bit s (8 * k + j) = ((s.getD k.toNat 0).toNat : Int) / (2 ^ (7 - j).toNat) % 2 := by
  unfold bit
  have e1 : (8 * k + j) / 8 = k := by omega
  have e2 : (8 * k + j) % 8 = j := by omega
  rw [e1, e2, if_neg (by omega)]
def popAt (s : List UInt8) (k : Int) : Int := popN (s.getD k.toNat 0).toNat
theorem pop_bits (s : List UInt8) (k : Int) (hk : 0 ≤ k) (hl : k < s.length) : sumTo (bit s) 8 (8 * k) = popAt s k := by
  have b := fun j h0 h8 => bit_at s k j hk hl h0 h8
  have b0 := b 0 (by omega) (by omega)
  rw [show 8 * k + 0 = 8 * k by omega] at b0
  simp only [sumTo, popAt, popN, b0]
  rw [show 8 * k + 1 + 1 = 8 * k + 2 by omega, show 8 * k + 2 + 1 = 8 * k + 3 by omega, show 8 * k + 3 + 1 = 8 * k + 4 by omega, show 8 * k + 4 + 1 = 8 * k + 5 by omega, show 8 * k + 5 + 1 = 8 * k + 6 by omega, show 8 * k + 6 + 1 = 8 * k + 7 by omega,
    b 1 (by omega) (by omega), b 2 (by omega) (by omega), b 3 (by omega) (by omega), b 4 (by omega) (by omega), b 5 (by omega) (by omega), b 6 (by omega) (by omega), b 7 (by omega) (by omega)]
  rfl
theorem sums (s : List UInt8) : ∀ (n : Nat) (i : Int), 0 ≤ i → i + n ≤ s.length → sumTo (bit s) (8 * n) (8 * i) = sumTo (popAt s) n i
  | 0, i, _, _ => rfl
  | n + 1, i, h0, hn => by
    rw [show 8 * (n + 1) = 8 + 8 * n by omega, sumTo_add, pop_bits s i h0 (by omega)]
    rw [show 8 * i + ((8 : Nat) : Int) = 8 * (i + 1) by omega, sums s n (i + 1) (by omega) (by omega)]
    rfl
theorem l20 (n0 : Nat) (s : List UInt8) (hs : s.length ≤ 40) (H : Hp) (b : Int) (hb : 0 ≤ b ∧ b ≤ 40) : ∀ (n : Nat) (i acc : Int) (e : Env), 0 ≤ i → i + n = 8 * b → 0 ≤ acc → acc ≤ i → e.get 0 = .d (.str s) → e.get 8 = .d (.int .i64 b) → e.get 9 = .d (.int .i64 acc) → e.get 10 = .d (.int .i64 i) →
    ∃ e', evLoop (evCode (ev R) R.glob n0 evLoop f20l0) [0, 8, 9, 10] ⟨e, H⟩ = some (.exit 0, ⟨e', H⟩) ∧ e'.get 9 = .d (.int .i64 (acc + sumTo (bit s) n i))
  | 0, i, acc, e, hi, hn, ha, hai, h0, h8, h9, h10 => by
    have w : IntKind.i64.wrap (8 * b) = 8 * b := IntWalk.i64_in _ (by omega)
    have c : ¬ i < 8 * b := by omega
    rw [evLoop_eq]
    refine ⟨?_, ?_, ?_⟩
    rotate_left
    · simp [-List.getD_eq_getElem?_getD, -List.map_map, evBody, evCode, evOps, evOper, evOp, opd, Env.get, Env.put, Env.keep, zipEnv, V.ok, V.sto, V.cells, D.cells, V.isAgg, binD, binInt, binStr, shInt, unD, eqOf, asI, leave, resOf, mapO, fzV, fzC, tupOf, htake, hlen, view, view1, isData, hand, flatV, flatD, allD, mkAgg, mkVal, beq_lit, IntKind.bits, f20l0, h0, h8, h9, h10, w, c]
      rfl
    · simp [-List.getD_eq_getElem?_getD, -List.map_map, evBody, evCode, evOps, evOper, evOp, opd, Env.get, Env.put, Env.keep, zipEnv, V.ok, V.sto, V.cells, D.cells, V.isAgg, binD, binInt, binStr, shInt, unD, eqOf, asI, leave, resOf, mapO, fzV, fzC, tupOf, htake, hlen, view, view1, isData, hand, flatV, flatD, allD, mkAgg, mkVal, beq_lit, IntKind.bits, h9, sumTo]
  | n + 1, i, acc, e, hi, hn, ha, hai, h0, h8, h9, h10 => by
    have w : IntKind.i64.wrap (8 * b) = 8 * b := IntWalk.i64_in _ (by omega)
    have w1 : IntKind.i64.wrap (i + 1) = i + 1 := IntWalk.i64_in _ (by omega)
    have c : i < 8 * b := by omega
    have b01 := bit_01 s i
    have w2 : IntKind.i64.wrap (acc + bit s i) = acc + bit s i := IntWalk.i64_in _ (by omega)
    have pb : pureCall (ev R) 34 [.d (.str s), .d (.int .i64 i)] = some (.d (.int .i64 (bit s i))) := pureCall_eq fun H => e34 H s i hi (by omega)
    have ih := l20 n0 s hs H b hb n (i + 1) (acc + bit s i)
    rw [evLoop_eq]
    generalize evLoop (evCode (ev R) R.glob n0 evLoop f20l0) [0, 8, 9, 10] = F at ih ⊢
    simp [-List.getD_eq_getElem?_getD, -List.map_map, evBody, evCode, evOps, evOper, evOp, opd, Env.get, Env.put, Env.keep, zipEnv, V.ok, V.sto, V.cells, D.cells, V.isAgg, binD, binInt, binStr, shInt, unD, eqOf, asI, leave, resOf, mapO, fzV, fzC, tupOf, htake, hlen, view, view1, isData, hand, flatV, flatD, allD, mkAgg, mkVal, beq_lit, IntKind.bits, f20l0, h0, h8, h9, h10, w, w1, w2, c, pb]
    obtain ⟨e', g1, g2⟩ := ih [(10, .d (.int .i64 (i + 1))), (39, .d (.int .i64 (i + 1))), (38, .d (.int .i64 i)), (0, .d (.str s)), (8, .d (.int .i64 b)), (9, .d (.int .i64 (acc + bit s i))), (10, .d (.int .i64 i))] (by omega) (by omega) (by omega) (by omega) rfl rfl rfl rfl
    exact ⟨e', g1, by rw [g2, sumTo, Int.add_assoc]⟩
theorem l21 (n0 : Nat) (s : List UInt8) (hs : s.length ≤ 40) (H : Hp) (b : Int) (hb : 0 ≤ b ∧ b ≤ s.length) : ∀ (n : Nat) (i acc : Int) (e : Env), 0 ≤ i → i + n = b → 0 ≤ acc → acc ≤ 8 * i → e.get 0 = .d (.str s) → e.get 8 = .d (.int .i64 b) → e.get 9 = .d (.int .i64 acc) → e.get 10 = .d (.int .i64 i) →
    ∃ e', evLoop (evCode (ev R) R.glob n0 evLoop f21l0) [0, 8, 9, 10] ⟨e, H⟩ = some (.exit 0, ⟨e', H⟩) ∧ e'.get 9 = .d (.int .i64 (acc + sumTo (popAt s) n i))
  | 0, i, acc, e, hi, hn, ha, hai, h0, h8, h9, h10 => by
    have c : ¬ i < b := by omega
    rw [evLoop_eq]
    refine ⟨?_, ?_, ?_⟩
    rotate_left
    · simp [-List.getD_eq_getElem?_getD, -List.map_map, evBody, evCode, evOps, evOper, evOp, opd, Env.get, Env.put, Env.keep, zipEnv, V.ok, V.sto, V.cells, D.cells, V.isAgg, binD, binInt, binStr, shInt, unD, eqOf, asI, leave, resOf, mapO, fzV, fzC, tupOf, htake, hlen, view, view1, isData, hand, flatV, flatD, allD, mkAgg, mkVal, beq_lit, IntKind.bits, f21l0, h0, h8, h9, h10, c]
      rfl
    · simp [-List.getD_eq_getElem?_getD, -List.map_map, evBody, evCode, evOps, evOper, evOp, opd, Env.get, Env.put, Env.keep, zipEnv, V.ok, V.sto, V.cells, D.cells, V.isAgg, binD, binInt, binStr, shInt, unD, eqOf, asI, leave, resOf, mapO, fzV, fzC, tupOf, htake, hlen, view, view1, isData, hand, flatV, flatD, allD, mkAgg, mkVal, beq_lit, IntKind.bits, h9, sumTo]
  | n + 1, i, acc, e, hi, hn, ha, hai, h0, h8, h9, h10 => by
    have w1 : IntKind.i64.wrap (i + 1) = i + 1 := IntWalk.i64_in _ (by omega)
    have c : i < b := by omega
    have k1 : i < (s.length : Int) := by omega
    have b01 := tbl_ok (s.getD i.toNat 0).toNat (by have := (s.getD i.toNat 0).toNat_lt; omega)
    have w2 : IntKind.i64.wrap (acc + popN (s.getD i.toNat 0).toNat) = acc + popN (s.getD i.toNat 0).toNat := IntWalk.i64_in _ (by omega)
    have ih := l21 n0 s hs H b hb n (i + 1) (acc + popAt s i)
    rw [evLoop_eq]
    generalize evLoop (evCode (ev R) R.glob n0 evLoop f21l0) [0, 8, 9, 10] = F at ih ⊢
    simp [-List.getD_eq_getElem?_getD, -List.map_map, evBody, evCode, evOps, evOper, evOp, opd, Env.get, Env.put, Env.keep, zipEnv, V.ok, V.sto, V.cells, D.cells, V.isAgg, binD, binInt, binStr, shInt, unD, eqOf, asI, leave, resOf, mapO, fzV, fzC, tupOf, htake, hlen, view, view1, isData, hand, flatV, flatD, allD, mkAgg, mkVal, beq_lit, IntKind.bits, f21l0, h0, h8, h9, h10, w1, w2, c, k1, hi, p44]
    obtain ⟨e', g1, g2⟩ := ih [(10, .d (.int .i64 (i + 1))), (27, .d (.int .i64 (i + 1))), (26, .d (.int .i64 i)), (0, .d (.str s)), (8, .d (.int .i64 b)), (9, .d (.int .i64 (acc + popAt s i))), (10, .d (.int .i64 i))] (by omega) (by omega) (by unfold popAt; omega) (by unfold popAt; omega) rfl rfl rfl rfl
    exact ⟨e', g1, by rw [g2, sumTo, Int.add_assoc]⟩
/-- How many bits there are, as both say it. -/
def count (s : List UInt8) (a b : Int) : Int :=
  if s.length ≤ 40 ∧ placeB a = true ∧ placeB b = true then sumTo (popAt s) ((ends s.length a b).2 - (ends s.length a b).1).toNat (ends s.length a b).1 else 0
theorem e20 (H : Hp) (s : List UInt8) (a b : Int) : ev R 20 [.d (.str s), .d (.int .i64 a), .d (.int .i64 b)] H = some (.d (.int .i64 (count s a b)), H) := by
  refine ev_fn (fn := f20) rfl rfl ?_
  have pa := p41 a
  have pb := p41 b
  by_cases h1 : s.length ≤ 40
  · have c1 : ¬ (40 < (s.length : Int)) := by omega
    cases ha : placeB a with
    | false =>
      rw [ha] at pa
      simp [-List.getD_eq_getElem?_getD, -List.map_map, evBody, evCode, evOps, evOper, evOp, opd, Env.get, Env.put, Env.keep, zipEnv, V.ok, V.sto, V.cells, D.cells, V.isAgg, binD, binInt, binStr, shInt, unD, eqOf, asI, leave, resOf, mapO, fzV, fzC, tupOf, htake, hlen, view, view1, isData, hand, flatV, flatD, allD, mkAgg, mkVal, beq_lit, IntKind.bits, f20, c1, pa, count, ha]
    | true =>
      rw [ha] at pa
      cases hb : placeB b with
      | false =>
        rw [hb] at pb
        simp [-List.getD_eq_getElem?_getD, -List.map_map, evBody, evCode, evOps, evOper, evOp, opd, Env.get, Env.put, Env.keep, zipEnv, V.ok, V.sto, V.cells, D.cells, V.isAgg, binD, binInt, binStr, shInt, unD, eqOf, asI, leave, resOf, mapO, fzV, fzC, tupOf, htake, hlen, view, view1, isData, hand, flatV, flatD, allD, mkAgg, mkVal, beq_lit, IntKind.bits, f20, c1, pa, pb, count, ha, hb]
      | true =>
        rw [hb] at pb
        have ra : -1000000000 ≤ a ∧ a ≤ 1000000000 := by unfold placeB at ha; simpa using ha
        have rb : -1000000000 ≤ b ∧ b ≤ 1000000000 := by unfold placeB at hb; simpa using hb
        have pe : pureCall (ev R) 42 [.d (.int .i64 s.length), .d (.int .i64 a), .d (.int .i64 b)] = some (.tup [.d (.int .i64 (ends s.length a b).1), .d (.int .i64 (ends s.length a b).2)]) := pureCall_eq fun H => e42 H s.length a b (by omega) ra rb
        obtain ⟨x0, x1, x2⟩ := ends_in s.length a b (by omega)
        have hc : count s a b = sumTo (popAt s) ((ends s.length a b).2 - (ends s.length a b).1).toNat (ends s.length a b).1 := by simp [count, h1, ha, hb]
        rw [hc]
        generalize (ends s.length a b).1 = p at pe x0 x1 x2 ⊢
        generalize (ends s.length a b).2 = q at pe x0 x1 x2 ⊢
        have w : IntKind.i64.wrap (8 * p) = 8 * p := IntWalk.i64_in _ (by omega)
        obtain ⟨e', g1, g2⟩ := l20 H.length s h1 H q (by omega) (8 * (q - p).toNat) (8 * p) 0 [(0, .d (.str s)), (8, .d (.int .i64 q)), (9, .d (.int .i64 0)), (10, .d (.int .i64 (8 * p)))] (by omega) (by omega) (by omega) (by omega) rfl rfl rfl rfl
        rw [sums s _ p x0 (by omega), Int.zero_add] at g2
        simp [-List.getD_eq_getElem?_getD, -List.map_map, evBody, evCode, evOps, evOper, evOp, opd, Env.get, Env.put, Env.keep, zipEnv, V.ok, V.sto, V.cells, D.cells, V.isAgg, binD, binInt, binStr, shInt, unD, eqOf, asI, leave, resOf, mapO, fzV, fzC, tupOf, htake, hlen, view, view1, isData, hand, flatV, flatD, allD, mkAgg, mkVal, beq_lit, IntKind.bits, f20, c1, pa, pb, pe, w, g1, g2]
  · have c1 : 40 < (s.length : Int) := by omega
    simp [-List.getD_eq_getElem?_getD, -List.map_map, evBody, evCode, evOps, evOper, evOp, opd, Env.get, Env.put, Env.keep, zipEnv, V.ok, V.sto, V.cells, D.cells, V.isAgg, binD, binInt, binStr, shInt, unD, eqOf, asI, leave, resOf, mapO, fzV, fzC, tupOf, htake, hlen, view, view1, isData, hand, flatV, flatD, allD, mkAgg, mkVal, beq_lit, IntKind.bits, f20, c1, count, h1]
theorem e21 (H : Hp) (s : List UInt8) (a b : Int) : ev R 21 [.d (.str s), .d (.int .i64 a), .d (.int .i64 b)] H = some (.d (.int .i64 (count s a b)), H) := by
  refine ev_fn (fn := f21) rfl rfl ?_
  by_cases h1 : s.length ≤ 40
  · have c1 : ¬ (40 < (s.length : Int)) := by omega
    cases hab : (placeB a && placeB b) with
    | false =>
      have pe : pureCall (ev R) 43 [.d (.int .i64 s.length), .d (.int .i64 a), .d (.int .i64 b)] = some (.tup [.d (.int .i64 0), .d (.int .i64 0)]) := pureCall_eq fun H => e43n H s.length a b hab
      have hc : count s a b = 0 := by
        unfold count
        rw [if_neg]
        rintro ⟨_, x, y⟩
        rw [x, y] at hab
        cases hab
      rw [hc]
      obtain ⟨e', g1, g2⟩ := l21 H.length s h1 H 0 (by omega) 0 0 0 [(0, .d (.str s)), (8, .d (.int .i64 0)), (9, .d (.int .i64 0)), (10, .d (.int .i64 0))] (by omega) (by omega) (by omega) (by omega) rfl rfl rfl rfl
      simp only [sumTo, Int.add_zero] at g2
      simp [-List.getD_eq_getElem?_getD, -List.map_map, evBody, evCode, evOps, evOper, evOp, opd, Env.get, Env.put, Env.keep, zipEnv, V.ok, V.sto, V.cells, D.cells, V.isAgg, binD, binInt, binStr, shInt, unD, eqOf, asI, leave, resOf, mapO, fzV, fzC, tupOf, htake, hlen, view, view1, isData, hand, flatV, flatD, allD, mkAgg, mkVal, beq_lit, IntKind.bits, f21, c1, pe, g1, g2]
    | true =>
      rw [Bool.and_eq_true] at hab
      obtain ⟨ha, hb⟩ := hab
      have ra : -1000000000 ≤ a ∧ a ≤ 1000000000 := by unfold placeB at ha; simpa using ha
      have rb : -1000000000 ≤ b ∧ b ≤ 1000000000 := by unfold placeB at hb; simpa using hb
      have pe : pureCall (ev R) 43 [.d (.int .i64 s.length), .d (.int .i64 a), .d (.int .i64 b)] = some (.tup [.d (.int .i64 (ends s.length a b).1), .d (.int .i64 (ends s.length a b).2)]) := pureCall_eq fun H => e43 H s.length a b (by omega) ra rb
      obtain ⟨x0, x1, x2⟩ := ends_in s.length a b (by omega)
      have hc : count s a b = sumTo (popAt s) ((ends s.length a b).2 - (ends s.length a b).1).toNat (ends s.length a b).1 := by simp [count, h1, ha, hb]
      rw [hc]
      generalize (ends s.length a b).1 = p at pe x0 x1 x2 ⊢
      generalize (ends s.length a b).2 = q at pe x0 x1 x2 ⊢
      obtain ⟨e', g1, g2⟩ := l21 H.length s h1 H q (by omega) (q - p).toNat p 0 [(0, .d (.str s)), (8, .d (.int .i64 q)), (9, .d (.int .i64 0)), (10, .d (.int .i64 p))] (by omega) (by omega) (by omega) (by omega) rfl rfl rfl rfl
      rw [Int.zero_add] at g2
      simp [-List.getD_eq_getElem?_getD, -List.map_map, evBody, evCode, evOps, evOper, evOp, opd, Env.get, Env.put, Env.keep, zipEnv, V.ok, V.sto, V.cells, D.cells, V.isAgg, binD, binInt, binStr, shInt, unD, eqOf, asI, leave, resOf, mapO, fzV, fzC, tupOf, htake, hlen, view, view1, isData, hand, flatV, flatD, allD, mkAgg, mkVal, beq_lit, IntKind.bits, f21, c1, pe, g1, g2]
  · have c1 : 40 < (s.length : Int) := by omega
    simp [-List.getD_eq_getElem?_getD, -List.map_map, evBody, evCode, evOps, evOper, evOp, opd, Env.get, Env.put, Env.keep, zipEnv, V.ok, V.sto, V.cells, D.cells, V.isAgg, binD, binInt, binStr, shInt, unD, eqOf, asI, leave, resOf, mapO, fzV, fzC, tupOf, htake, hlen, view, view1, isData, hand, flatV, flatD, allD, mkAgg, mkVal, beq_lit, IntKind.bits, f21, c1, count, h1]
theorem p20 (s : List UInt8) (a b : Int) : pureCall (ev R) 20 [.d (.str s), .d (.int .i64 a), .d (.int .i64 b)] = some (.d (.int .i64 (count s a b))) := pureCall_eq fun H => e20 H s a b
theorem p21 (s : List UInt8) (a b : Int) : pureCall (ev R) 21 [.d (.str s), .d (.int .i64 a), .d (.int .i64 b)] = some (.d (.int .i64 (count s a b))) := pureCall_eq fun H => e21 H s a b
theorem e6 (H : Hp) (s : List UInt8) (a b : Int) : ev R 6 [.d (.str s), .d (.int .i64 a), .d (.int .i64 b)] H = some (.d (.bool true), H) := by
  refine ev_fn (fn := f6) rfl rfl ?_
  by_cases h1 : 1048576 < (s.length : Int)
  · simp [-List.getD_eq_getElem?_getD, -List.map_map, evBody, evCode, evOps, evOper, evOp, opd, Env.get, Env.put, Env.keep, zipEnv, V.ok, V.sto, V.cells, D.cells, V.isAgg, binD, binInt, binStr, shInt, unD, eqOf, asI, leave, resOf, mapO, fzV, fzC, tupOf, htake, hlen, view, view1, isData, hand, flatV, flatD, allD, mkAgg, mkVal, beq_lit, IntKind.bits, f6, h1]
  · simp [-List.getD_eq_getElem?_getD, -List.map_map, evBody, evCode, evOps, evOper, evOp, opd, Env.get, Env.put, Env.keep, zipEnv, V.ok, V.sto, V.cells, D.cells, V.isAgg, binD, binInt, binStr, shInt, unD, eqOf, asI, leave, resOf, mapO, fzV, fzC, tupOf, htake, hlen, view, view1, isData, hand, flatV, flatD, allD, mkAgg, mkVal, beq_lit, IntKind.bits, f6, h1, p20, p21]
namespace fnExactTextBitCount
theorem answers (s : ByteArray) (a b : Int) (w : World) (_ : s.size ≤ 140737488351232) (_ : (Lit.int .i64 a).wf = true) (_ : (Lit.int .i64 b).wf = true) : Calls Try.prog 6 #[.string s, .int .i64 a, .int .i64 b] w fun e w' => e = .returned (.bool true) ∧ RowKit.Below w.heap.size w w' :=
  calls_bool prg_ok (xs := [.str s.data.toList, .int .i64 a, .int .i64 b]) (e6 [] _ _ _) gr_tab rfl fun j hj => by
    match j, hj with
    | 0, _ => exact rd_str w s
    | 1, _ => exact rd_int w .i64 a
    | 2, _ => exact rd_int w .i64 b
end fnExactTextBitCount
end Go.Proofs.Ytlijncbdinoheaa.Code

/- What FnExactTextBitGet answers. -/
import Derived.Test.YtlijncbdinoheaaVBits
namespace Go.Proofs.Ytlijncbdinoheaa.Code
open Go Go.Ev Go.Proofs
set_option maxRecDepth 100000
set_option linter.unusedSimpArgs false
theorem p33 (s : List UInt8) (i : Int) : pureCall (ev R) 33 [.d (.str s), .d (.int .i64 i)] = some (.d (.bool (decide (s.length ≤ 40) && (decide (0 ≤ i) && decide (i ≤ 319))))) := pureCall_eq fun H => e33 H s i
/-- The bit, wherever it is asked for. -/
def bitOr (s : List UInt8) (i : Int) : Int := if s.length ≤ 40 ∧ 0 ≤ i ∧ i ≤ 319 then bit s i else 0
theorem e11 (H : Hp) (s : List UInt8) (i : Int) : ev R 11 [.d (.str s), .d (.int .i64 i)] H = some (.d (.int .i64 (bitOr s i)), H) := by
  refine ev_fn (fn := f11) rfl rfl ?_
  unfold bitOr
  by_cases h : s.length ≤ 40 ∧ 0 ≤ i ∧ i ≤ 319
  · have p34 : pureCall (ev R) 34 [.d (.str s), .d (.int .i64 i)] = some (.d (.int .i64 (bit s i))) := pureCall_eq fun H => e34 H s i h.2.1 h.2.2
    simp [-List.getD_eq_getElem?_getD, -List.map_map, evBody, evCode, evOps, evOper, evOp, opd, Env.get, Env.put, Env.keep, zipEnv, V.ok, V.sto, V.cells, D.cells, V.isAgg, binD, binInt, binStr, shInt, unD, eqOf, asI, leave, resOf, mapO, fzV, fzC, tupOf, htake, hlen, view, view1, isData, hand, flatV, flatD, allD, mkAgg, mkVal, beq_lit, IntKind.bits, f11, p33, p34, h]
  · have hb : (decide (s.length ≤ 40) && (decide (0 ≤ i) && decide (i ≤ 319))) = false := by
      cases hh : (decide (s.length ≤ 40) && (decide (0 ≤ i) && decide (i ≤ 319))) with
      | false => rfl
      | true => simp at hh; exact absurd hh h
    have p := p33 s i
    rw [hb] at p
    simp [-List.getD_eq_getElem?_getD, -List.map_map, evBody, evCode, evOps, evOper, evOp, opd, Env.get, Env.put, Env.keep, zipEnv, V.ok, V.sto, V.cells, D.cells, V.isAgg, binD, binInt, binStr, shInt, unD, eqOf, asI, leave, resOf, mapO, fzV, fzC, tupOf, htake, hlen, view, view1, isData, hand, flatV, flatD, allD, mkAgg, mkVal, beq_lit, IntKind.bits, f11, p, h]
theorem e12 (H : Hp) (s : List UInt8) (i : Int) : ev R 12 [.d (.str s), .d (.int .i64 i)] H = some (.d (.int .i64 (bitOr s i)), H) := by
  refine ev_fn (fn := f12) rfl rfl ?_
  unfold bitOr
  by_cases h1 : s.length ≤ 40
  · have h1' : ¬ (40 < (s.length : Int)) := by omega
    by_cases h2 : 0 ≤ i ∧ i ≤ 319
    · have p36 : pureCall (ev R) 36 [.d (.str s), .d (.int .i64 i)] = some (.d (.int .i64 (bit s i))) := pureCall_eq fun H => e36 H s i h2.1 h2.2
      simp [-List.getD_eq_getElem?_getD, -List.map_map, evBody, evCode, evOps, evOper, evOp, opd, Env.get, Env.put, Env.keep, zipEnv, V.ok, V.sto, V.cells, D.cells, V.isAgg, binD, binInt, binStr, shInt, unD, eqOf, asI, leave, resOf, mapO, fzV, fzC, tupOf, htake, hlen, view, view1, isData, hand, flatV, flatD, allD, mkAgg, mkVal, beq_lit, IntKind.bits, f12, h1, h1', h2, p35, p36]
    · have hb : (decide (i ≥ 0) && decide (i ≤ 319)) = false := by
        cases hh : (decide (i ≥ 0) && decide (i ≤ 319)) with
        | false => rfl
        | true => simp at hh; exact absurd hh h2
      have p := p35 i 0 319
      rw [hb] at p
      simp [-List.getD_eq_getElem?_getD, -List.map_map, evBody, evCode, evOps, evOper, evOp, opd, Env.get, Env.put, Env.keep, zipEnv, V.ok, V.sto, V.cells, D.cells, V.isAgg, binD, binInt, binStr, shInt, unD, eqOf, asI, leave, resOf, mapO, fzV, fzC, tupOf, htake, hlen, view, view1, isData, hand, flatV, flatD, allD, mkAgg, mkVal, beq_lit, IntKind.bits, f12, h1, h1', h2, p]
  · have h1' : 40 < (s.length : Int) := by omega
    simp [-List.getD_eq_getElem?_getD, -List.map_map, evBody, evCode, evOps, evOper, evOp, opd, Env.get, Env.put, Env.keep, zipEnv, V.ok, V.sto, V.cells, D.cells, V.isAgg, binD, binInt, binStr, shInt, unD, eqOf, asI, leave, resOf, mapO, fzV, fzC, tupOf, htake, hlen, view, view1, isData, hand, flatV, flatD, allD, mkAgg, mkVal, beq_lit, IntKind.bits, f12, h1, h1']
theorem p11 (s : List UInt8) (i : Int) : pureCall (ev R) 11 [.d (.str s), .d (.int .i64 i)] = some (.d (.int .i64 (bitOr s i))) := pureCall_eq fun H => e11 H s i
theorem p12 (s : List UInt8) (i : Int) : pureCall (ev R) 12 [.d (.str s), .d (.int .i64 i)] = some (.d (.int .i64 (bitOr s i))) := pureCall_eq fun H => e12 H s i
theorem e3 (H : Hp) (s : List UInt8) (i : Int) : ev R 3 [.d (.str s), .d (.int .i64 i)] H = some (.d (.bool true), H) := by
  refine ev_fn (fn := f3) rfl rfl ?_
  by_cases h1 : 1048576 < (s.length : Int)
  · simp [-List.getD_eq_getElem?_getD, -List.map_map, evBody, evCode, evOps, evOper, evOp, opd, Env.get, Env.put, Env.keep, zipEnv, V.ok, V.sto, V.cells, D.cells, V.isAgg, binD, binInt, binStr, shInt, unD, eqOf, asI, leave, resOf, mapO, fzV, fzC, tupOf, htake, hlen, view, view1, isData, hand, flatV, flatD, allD, mkAgg, mkVal, beq_lit, IntKind.bits, f3, h1]
  · simp [-List.getD_eq_getElem?_getD, -List.map_map, evBody, evCode, evOps, evOper, evOp, opd, Env.get, Env.put, Env.keep, zipEnv, V.ok, V.sto, V.cells, D.cells, V.isAgg, binD, binInt, binStr, shInt, unD, eqOf, asI, leave, resOf, mapO, fzV, fzC, tupOf, htake, hlen, view, view1, isData, hand, flatV, flatD, allD, mkAgg, mkVal, beq_lit, IntKind.bits, f3, h1, p11, p12]
namespace fnExactTextBitGet
theorem answers (s : ByteArray) (i : Int) (w : World) (_ : s.size ≤ 140737488351232) (_ : (Lit.int .i64 i).wf = true) : Calls Try.prog 3 #[.string s, .int .i64 i] w fun e w' => e = .returned (.bool true) ∧ RowKit.Below w.heap.size w w' :=
  calls_bool prg_ok (xs := [.str s.data.toList, .int .i64 i]) (e3 [] _ _) gr_tab rfl fun j hj => by
    match j, hj with
    | 0, _ => exact rd_str w s
    | 1, _ => exact rd_int w .i64 i
end fnExactTextBitGet
end Go.Proofs.Ytlijncbdinoheaa.Code

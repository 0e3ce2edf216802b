/- One bit of a text, in the code under test and in what it is held against. -/
import Derived.Test.YtpmphmpaeooeeaaC
namespace Go.Proofs.Ytpmphmpaeooeeaa.Code
open Go Go.Ev Go.Proofs
set_option maxRecDepth 100000
set_option linter.unusedSimpArgs false
theorem e37 (H : Hp) (a b c : Int) : ev R 37 [.d (.int .i64 a), .d (.int .i64 b), .d (.int .i64 c)] H = some (.d (.bool (decide (a ≥ b) && decide (a ≤ c))), H) := by
  refine ev_fn (fn := f37) rfl rfl ?_
  by_cases h1 : a ≥ b <;> by_cases h2 : a ≤ c <;>
  simp [-List.getD_eq_getElem?_getD, -List.map_map, evBody, evCode, evOps, evOper, evOp, opd, Env.get, Env.put, Env.keep, zipEnv, V.ok, V.sto, V.cells, D.cells, V.isAgg, binD, binInt, binStr, shInt, unD, eqOf, asI, leave, resOf, mapO, fzV, fzC, tupOf, htake, hlen, view, view1, isData, hand, flatV, flatD, allD, mkAgg, mkVal, beq_lit, IntKind.bits, f37, h1, h2]
theorem e35 (H : Hp) (a b c : Int) : ev R 35 [.d (.int .i64 a), .d (.int .i64 b), .d (.int .i64 c)] H = some (.d (.bool (decide (a ≥ b) && decide (a ≤ c))), H) := by
  refine ev_fn (fn := f35) rfl rfl ?_
  by_cases h1 : a ≥ b <;> by_cases h2 : a ≤ c <;>
  simp [-List.getD_eq_getElem?_getD, -List.map_map, evBody, evCode, evOps, evOper, evOp, opd, Env.get, Env.put, Env.keep, zipEnv, V.ok, V.sto, V.cells, D.cells, V.isAgg, binD, binInt, binStr, shInt, unD, eqOf, asI, leave, resOf, mapO, fzV, fzC, tupOf, htake, hlen, view, view1, isData, hand, flatV, flatD, allD, mkAgg, mkVal, beq_lit, IntKind.bits, f35, h1, h2]
theorem p37 (a b c : Int) : pureCall (ev R) 37 [.d (.int .i64 a), .d (.int .i64 b), .d (.int .i64 c)] = some (.d (.bool (decide (a ≥ b) && decide (a ≤ c)))) := pureCall_eq fun H => e37 H a b c
theorem p35 (a b c : Int) : pureCall (ev R) 35 [.d (.int .i64 a), .d (.int .i64 b), .d (.int .i64 c)] = some (.d (.bool (decide (a ≥ b) && decide (a ≤ c)))) := pureCall_eq fun H => e35 H a b c
theorem e33 (H : Hp) (s : List UInt8) (i : Int) : ev R 33 [.d (.str s), .d (.int .i64 i)] H = some (.d (.bool (decide (s.length ≤ 40) && (decide (0 ≤ i) && decide (i ≤ 319)))), H) := by
  refine ev_fn (fn := f33) rfl rfl ?_
  by_cases h1 : s.length ≤ 40
  · have h1' : (s.length : Int) ≤ 40 := by omega
    simp [-List.getD_eq_getElem?_getD, -List.map_map, evBody, evCode, evOps, evOper, evOp, opd, Env.get, Env.put, Env.keep, zipEnv, V.ok, V.sto, V.cells, D.cells, V.isAgg, binD, binInt, binStr, shInt, unD, eqOf, asI, leave, resOf, mapO, fzV, fzC, tupOf, htake, hlen, view, view1, isData, hand, flatV, flatD, allD, mkAgg, mkVal, beq_lit, IntKind.bits, f33, p37, h1, h1']
  · have h1' : ¬ (s.length : Int) ≤ 40 := by omega
    simp [-List.getD_eq_getElem?_getD, -List.map_map, evBody, evCode, evOps, evOper, evOp, opd, Env.get, Env.put, Env.keep, zipEnv, V.ok, V.sto, V.cells, D.cells, V.isAgg, binD, binInt, binStr, shInt, unD, eqOf, asI, leave, resOf, mapO, fzV, fzC, tupOf, htake, hlen, view, view1, isData, hand, flatV, flatD, allD, mkAgg, mkVal, beq_lit, IntKind.bits, f33, p37, h1, h1']
theorem and1 (x : Int) (h0 : 0 ≤ x) (h9 : x < 9223372036854775808) : bitsOp .and .i64 x 1 = some (x % 2) := by
  have e : ((BitVec.ofInt 64 x &&& BitVec.ofInt 64 1).toNat : Int) = x % 2 := by
    obtain ⟨n, rfl⟩ := Int.eq_ofNat_of_zero_le h0
    simp
  show some (IntKind.i64.wrap ((BitVec.ofInt 64 x &&& BitVec.ofInt 64 1).toNat : Int)) = _
  rw [e, IntWalk.i64_in _ (by omega)]
def bit (s : List UInt8) (i : Int) : Int := if i / 8 ≥ s.length then 0 else ((s.getD (i / 8).toNat 0).toNat : Int) / (2 ^ (7 - i % 8).toNat) % 2
theorem u8_fits (x : UInt8) : IntKind.i64.wrap (x.toNat : Int) = x.toNat := IntWalk.i64_in _ (by have := x.toNat_lt; omega)
theorem shr_u8 (x : UInt8) (k : Nat) : (x.toNat : Int).fdiv (2 ^ k) = (x.toNat : Int) / 2 ^ k ∧ 0 ≤ (x.toNat : Int) / 2 ^ k ∧ (x.toNat : Int) / 2 ^ k ≤ 255 := by
  have h := x.toNat_lt
  have p : (0 : Int) < 2 ^ k := Int.pow_pos (by omega)
  refine ⟨Int.fdiv_eq_ediv_of_nonneg _ (by omega), Int.ediv_nonneg (by omega) (by omega), ?_⟩
  have := Int.ediv_le_self (a := (x.toNat : Int)) (2 ^ k) (by omega)
  omega
theorem e34 (H : Hp) (s : List UInt8) (i : Int) (h0 : 0 ≤ i) (h9 : i ≤ 319) : ev R 34 [.d (.str s), .d (.int .i64 i)] H = some (.d (.int .i64 (bit s i)), H) := by
  refine ev_fn (fn := f34) rfl rfl ?_
  have q : IntKind.i64.wrap (i.tdiv 8) = i / 8 := IntWalk.i64_quo i 8 ⟨h0, by omega, by omega⟩
  have r : i.tmod 8 = i % 8 := Int.tmod_eq_emod_of_nonneg h0
  have w : IntKind.i64.wrap (7 - i % 8) = 7 - i % 8 := IntWalk.i64_in _ (by omega)
  have n0 : ¬ (7 - i % 8 < 0) := by omega
  have mn : min (7 - i % 8).toNat 64 = (7 - i % 8).toNat := by omega
  unfold bit
  by_cases h1 : i / 8 ≥ s.length
  · simp [-List.getD_eq_getElem?_getD, -List.map_map, evBody, evCode, evOps, evOper, evOp, opd, Env.get, Env.put, Env.keep, zipEnv, V.ok, V.sto, V.cells, D.cells, V.isAgg, binD, binInt, binStr, shInt, unD, eqOf, asI, leave, resOf, mapO, fzV, fzC, tupOf, htake, hlen, view, view1, isData, hand, flatV, flatD, allD, mkAgg, mkVal, beq_lit, IntKind.bits, f34, h1, q]
  · have k0 : 0 ≤ i / 8 := by omega
    have k1 : i / 8 < (s.length : Int) := by omega
    have s1 := shr_u8 (s.getD (i / 8).toNat 0) (7 - i % 8).toNat
    have s2 := and1 _ s1.2.1 (by omega)
    simp [-List.getD_eq_getElem?_getD, -List.map_map, evBody, evCode, evOps, evOper, evOp, opd, Env.get, Env.put, Env.keep, zipEnv, V.ok, V.sto, V.cells, D.cells, V.isAgg, binD, binInt, binStr, shInt, unD, eqOf, asI, leave, resOf, mapO, fzV, fzC, tupOf, htake, hlen, view, view1, isData, hand, flatV, flatD, allD, mkAgg, mkVal, beq_lit, IntKind.bits, f34, h1, q, r, w, k0, k1, u8_fits, n0, mn, s1.1, s2]
theorem e36 (H : Hp) (s : List UInt8) (i : Int) (h0 : 0 ≤ i) (h9 : i ≤ 319) : ev R 36 [.d (.str s), .d (.int .i64 i)] H = some (.d (.int .i64 (bit s i)), H) := by
  refine ev_fn (fn := f36) rfl rfl ?_
  have q : IntKind.i64.wrap (i.tdiv 8) = i / 8 := IntWalk.i64_quo i 8 ⟨h0, by omega, by omega⟩
  have r : i.tmod 8 = i % 8 := Int.tmod_eq_emod_of_nonneg h0
  have w : IntKind.i64.wrap (7 - i % 8) = 7 - i % 8 := IntWalk.i64_in _ (by omega)
  have n0 : ¬ (7 - i % 8 < 0) := by omega
  have mn : min (7 - i % 8).toNat 8 = (7 - i % 8).toNat := by omega
  unfold bit
  by_cases h1 : i / 8 ≥ s.length
  · simp [-List.getD_eq_getElem?_getD, -List.map_map, evBody, evCode, evOps, evOper, evOp, opd, Env.get, Env.put, Env.keep, zipEnv, V.ok, V.sto, V.cells, D.cells, V.isAgg, binD, binInt, binStr, shInt, unD, eqOf, asI, leave, resOf, mapO, fzV, fzC, tupOf, htake, hlen, view, view1, isData, hand, flatV, flatD, allD, mkAgg, mkVal, beq_lit, IntKind.bits, f36, h1, q]
  · have k0 : 0 ≤ i / 8 := by omega
    have k1 : i / 8 < (s.length : Int) := by omega
    have s1 := shr_u8 (s.getD (i / 8).toNat 0) (7 - i % 8).toNat
    have s2 := and1 _ s1.2.1 (by omega)
    have s3 : IntKind.i64.wrap (((s.getD (i / 8).toNat 0).toNat : Int) / 2 ^ (7 - i % 8).toNat) = ((s.getD (i / 8).toNat 0).toNat : Int) / 2 ^ (7 - i % 8).toNat := IntWalk.i64_in _ (by omega)
    simp [-List.getD_eq_getElem?_getD, -List.map_map, evBody, evCode, evOps, evOper, evOp, opd, Env.get, Env.put, Env.keep, zipEnv, V.ok, V.sto, V.cells, D.cells, V.isAgg, binD, binInt, binStr, shInt, unD, eqOf, asI, leave, resOf, mapO, fzV, fzC, tupOf, htake, hlen, view, view1, isData, hand, flatV, flatD, allD, mkAgg, mkVal, beq_lit, IntKind.bits, f36, h1, q, r, w, k0, k1, n0, mn, s1.1, s2, s3]
end Go.Proofs.Ytpmphmpaeooeeaa.Code

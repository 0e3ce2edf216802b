/- One bit of a text, in the code under test and in what it is held against. -/
import Derived.Test.YtpmphmpaeooeeaaDoorC
namespace Go.Proofs.YtpmphmpaeooeeaaDoor.Code
open Go Go.Ev Go.Proofs
set_option maxRecDepth 100000
set_option linter.unusedSimpArgs false
theorem e30 (H : Hp) (a b c : Int) : ev R 30 [.d (.int .i64 a), .d (.int .i64 b), .d (.int .i64 c)] H = some (.d (.bool (decide (a ≥ b) && decide (a ≤ c))), H) := by
  refine ev_fn (fn := f30) rfl rfl ?_
  by_cases h1 : a ≥ b <;> by_cases h2 : a ≤ c <;>
  simp [-List.getD_eq_getElem?_getD, -List.map_map, evBody, evCode, evOps, evOper, evOp, opd, Env.get, Env.put, Env.keep, zipEnv, V.ok, V.sto, V.cells, D.cells, V.isAgg, binD, binInt, binStr, shInt, unD, eqOf, asI, leave, resOf, mapO, fzV, fzC, tupOf, htake, hlen, view, view1, isData, hand, flatV, flatD, allD, mkAgg, mkVal, beq_lit, IntKind.bits, f30, h1, h2]
theorem e34 (H : Hp) (a b c : Int) : ev R 34 [.d (.int .i64 a), .d (.int .i64 b), .d (.int .i64 c)] H = some (.d (.bool (decide (a ≥ b) && decide (a ≤ c))), H) := by
  refine ev_fn (fn := f34) rfl rfl ?_
  by_cases h1 : a ≥ b <;> by_cases h2 : a ≤ c <;>
  simp [-List.getD_eq_getElem?_getD, -List.map_map, evBody, evCode, evOps, evOper, evOp, opd, Env.get, Env.put, Env.keep, zipEnv, V.ok, V.sto, V.cells, D.cells, V.isAgg, binD, binInt, binStr, shInt, unD, eqOf, asI, leave, resOf, mapO, fzV, fzC, tupOf, htake, hlen, view, view1, isData, hand, flatV, flatD, allD, mkAgg, mkVal, beq_lit, IntKind.bits, f34, h1, h2]
theorem p30 (a b c : Int) : pureCall (ev R) 30 [.d (.int .i64 a), .d (.int .i64 b), .d (.int .i64 c)] = some (.d (.bool (decide (a ≥ b) && decide (a ≤ c)))) := pureCall_eq fun H => e30 H a b c
theorem p34 (a b c : Int) : pureCall (ev R) 34 [.d (.int .i64 a), .d (.int .i64 b), .d (.int .i64 c)] = some (.d (.bool (decide (a ≥ b) && decide (a ≤ c)))) := pureCall_eq fun H => e34 H a b c
theorem and1 (x : Int) (h0 : 0 ≤ x) (h9 : x < 9223372036854775808) : bitsOp .and .i64 x 1 = some (x % 2) := by
  have e : ((BitVec.ofInt 64 x &&& BitVec.ofInt 64 1).toNat : Int) = x % 2 := by
    obtain ⟨n, rfl⟩ := Int.eq_ofNat_of_zero_le h0
    simp
  show some (IntKind.i64.wrap ((BitVec.ofInt 64 x &&& BitVec.ofInt 64 1).toNat : Int)) = _
  rw [e, IntWalk.i64_in _ (by omega)]
def bit (s : List UInt8) (i : Int) : Int := if i / 8 ≥ s.length then 0 else ((s.getD (i / 8).toNat 0).toNat : Int) / (2 ^ (7 - i % 8).toNat) % 2
theorem u8_fits (x : UInt8) : IntKind.i64.wrap (x.toNat : Int) = x.toNat := IntWalk.i64_in _ (by have := x.toNat_lt; omega)
theorem shr_u8 (x : UInt8) (k : Nat) : (x.toNat : Int).fdiv (2 ^ k) = (x.toNat : Int) / 2 ^ k ∧ 0 ≤ (x.toNat : Int) / 2 ^ k ∧ (x.toNat : Int) / 2 ^ k ≤ 255 := by
  have h := x.toNat_lt
  have p : (0 : Int) < 2 ^ k := Int.pow_pos (by omega)
  refine ⟨Int.fdiv_eq_ediv_of_nonneg _ (by omega), Int.ediv_nonneg (by omega) (by omega), ?_⟩
  have := Int.ediv_le_self (a := (x.toNat : Int)) (2 ^ k) (by omega)
  omega
end Go.Proofs.YtpmphmpaeooeeaaDoor.Code

/- Numbers written out, in the draws. -/
import Derived.Test.YtpmphmpaeooeeaaDoorVDraw
namespace Go.Proofs.YtpmphmpaeooeeaaDoor.Code
open Go Go.Ev Go.Proofs
set_option maxRecDepth 100000
set_option linter.unusedSimpArgs false
set_option linter.unusedVariables false
def decV (n : Nat) : Txt := if h : n < 10 then [UInt8.ofNat (48 + n)] else decV (n / 10) ++ [UInt8.ofNat (48 + n % 10)]
termination_by n
decreasing_by omega
theorem decV_len (n : Nat) : (decV n).length ≤ n + 1 := by
  induction n using Nat.strongRecOn with
  | _ n ih =>
    rw [decV]
    split
    · simp
    · have := ih (n / 10) (by omega)
      rw [List.length_append]
      simp only [List.length_singleton]
      omega
theorem e65 (n : Nat) : ∀ (H : Hp), n ≤ 1000000000 → ev R 65 [.d (.int .i64 n)] H = some (.d (.str (decV n)), H) := by
  induction n using Nat.strongRecOn with
  | _ n ih =>
    intro H hn
    refine ev_fn (fn := f65) rfl rfl ?_
    have c1 : ¬ (n : Int) < -9223372036854775807 := by omega
    have c2 : ¬ (n : Int) < 0 := by omega
    by_cases c3 : n < 10
    · have c3' : (n : Int) < 10 := by omega
      have w1 : IntKind.i64.wrap (48 + (n : Int)) = 48 + n := IntWalk.i64_in _ (by omega)
      have w2 : IntKind.u8.wrap (48 + (n : Int)) = 48 + n := IntWalk.u8_in _ (by omega)
      have t : (48 + (n : Int)).toNat = 48 + n := by omega
      rw [decV, dif_pos c3]
      simp [-List.getD_eq_getElem?_getD, -List.map_map, evBody, evCode, evOps, evOper, evOp, opd, Env.get, Env.put, Env.keep, zipEnv, V.ok, V.sto, V.cells, D.cells, V.isAgg, binD, binInt, binStr, shInt, unD, eqOf, asI, leave, resOf, mapO, fzV, tupOf, view, view1, isData, hand, flatV, flatD, allD, mkAgg, mkVal, beq_lit, IntKind.bits, htake_self, htake_push, hget_hpush_self, hset_push, rowOf_self, okIn, lowIn, lowIn1, fzC_d, fzC_row, f65, c1, c2, c3, c3', w1, w2, t, src, strOf]
    · have c3' : ¬ (n : Int) < 10 := by omega
      have q : pureCall (ev R) 65 [.d (.int .i64 ((n / 10 : Nat) : Int))] = some (.d (.str (decV (n / 10)))) := pureCall_eq fun H => ih (n / 10) (by omega) H (by omega)
      obtain ⟨k, hk⟩ : ∃ k : Int, ((n / 10 : Nat) : Int) = k := ⟨_, rfl⟩
      obtain ⟨d, hd⟩ : ∃ d : Int, (n : Int).tmod 10 = d := ⟨_, rfl⟩
      have hd' : d = ((n % 10 : Nat) : Int) := by rw [← hd, Int.tmod_eq_emod_of_nonneg (by omega)]; omega
      rw [hk] at q
      have w0 : IntKind.i64.wrap ((n : Int).tdiv 10) = k := by rw [Int.tdiv_eq_ediv_of_nonneg (by omega), IntWalk.i64_in _ (by omega)]; omega
      have w0' : IntKind.i64.wrap ((n : Int) / 10) = k := by rw [IntWalk.i64_in _ (by omega)]; omega
      have hd2 : (n : Int) % 10 = d := by omega
      have w1 : IntKind.i64.wrap (48 + d) = 48 + d := IntWalk.i64_in _ (by omega)
      have w2 : IntKind.u8.wrap (48 + d) = 48 + d := IntWalk.u8_in _ (by omega)
      have t : (48 + d).toNat = 48 + n % 10 := by omega
      have hl := decV_len (n / 10)
      have l : (decV (n / 10)).length + 1 ≤ strRoom := by unfold strRoom; omega
      rw [decV, dif_neg c3]
      simp [-List.getD_eq_getElem?_getD, -List.map_map, evBody, evCode, evOps, evOper, evOp, opd, Env.get, Env.put, Env.keep, zipEnv, V.ok, V.sto, V.cells, D.cells, V.isAgg, binD, binInt, binStr, shInt, unD, eqOf, asI, leave, resOf, mapO, fzV, tupOf, view, view1, isData, hand, flatV, flatD, allD, mkAgg, mkVal, beq_lit, IntKind.bits, htake_self, htake_push, hget_hpush_self, hset_push, rowOf_self, okIn, lowIn, lowIn1, fzC_d, fzC_row, f65, c1, c2, c3, c3', q, w0, w0', hd, hd2, w1, w2, t, l, src, strOf]
end Go.Proofs.YtpmphmpaeooeeaaDoor.Code

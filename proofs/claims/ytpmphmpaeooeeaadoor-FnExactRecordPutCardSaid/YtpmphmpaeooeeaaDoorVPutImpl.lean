/- Orders written by the code under test. -/
import Derived.Test.YtpmphmpaeooeeaaDoorVFnOrderPart
import Derived.Test.YtpmphmpaeooeeaaDoorVList
namespace Go.Proofs.YtpmphmpaeooeeaaDoor.Code
open Go Go.Ev Go.Proofs
set_option maxRecDepth 100000
set_option linter.unusedSimpArgs false
set_option linter.unusedVariables false
theorem dec_itoa (n : Nat) : Lib.decDigits n = decV n := by
  induction n using Nat.strongRecOn with
  | _ n ih =>
    rw [Lib.decDigits, decV]
    split
    · rfl
    · rw [ih (n / 10) (by omega)]
theorem p40 (n : Nat) (h : n ≤ 9223372036854775807) : pureCall (ev R) 40 [.d (.int .i64 n)] = some (.d (.str (decV n))) := pureCall_eq fun H => by
  have := e40 H (n : Int) (by omega)
  rwa [Lib.itoa_nonneg, dec_itoa] at this

theorem e66_8 (H : Hp) (xs : List Txt) (hx : xs.length ≤ 9223372036854775807) : ev R 66 [.d (txts xs), .d (.int .i64 8)] H = some (.d (.bool ((seek (long xs) xs.length 0).isNone && decide (xs.length ≤ 8))), H) := by
  refine ev_fn (fn := f66) rfl rfl ?_
  obtain ⟨e', he, h1, h2⟩ := l66 (hlen H) xs hx 8 H xs.length 0 [(0, .d (txts xs)), (1, .d (.int .i64 8)), (7, .d (txts xs)), (8, .d (.int .i64 xs.length)), (9, .d (.int .i64 0))] (by omega) rfl rfl rfl rfl rfl
  cases hr : seek (long xs) xs.length 0 with
  | some j =>
    simp only [hr] at he
    simp [-List.getD_eq_getElem?_getD, -List.map_map, evBody, evCode, evOps, evOper, evOp, opd, Env.get, Env.put, Env.keep, zipEnv, V.ok, V.sto, V.cells, D.cells, V.isAgg, binD, binInt, binStr, shInt, unD, eqOf, asI, leave, resOf, mapO, fzV, tupOf, view, view1, isData, hand, flatV, flatD, allD, mkAgg, mkVal, beq_lit, IntKind.bits, htake_self, htake_push, hget_hpush_self, hset_push, rowOf_self, okIn, lowIn, lowIn1, fzC_d, fzC_row, f66, he, h1 j hr, hr]
  | none =>
    simp only [hr] at he
    obtain ⟨h3, h4⟩ := h2 hr
    have q : decide ((xs.length : Int) ≤ 8) = decide (xs.length ≤ 8) := decide_eq_decide.2 (by omega)
    simp [-List.getD_eq_getElem?_getD, -List.map_map, evBody, evCode, evOps, evOper, evOp, opd, Env.get, Env.put, Env.keep, zipEnv, V.ok, V.sto, V.cells, D.cells, V.isAgg, binD, binInt, binStr, shInt, unD, eqOf, asI, leave, resOf, mapO, fzV, tupOf, view, view1, isData, hand, flatV, flatD, allD, mkAgg, mkVal, beq_lit, IntKind.bits, htake_self, htake_push, hget_hpush_self, hset_push, rowOf_self, okIn, lowIn, lowIn1, fzC_d, fzC_row, f66, he, h3, h4, hr, txts, q]
theorem e36 (H : Hp) (xs : List Txt) (hx : xs.length ≤ 9223372036854775807) : ev R 36 [.d (txts xs)] H = some (.d (.bool (okArgs xs)), H) := by
  refine ev_fn (fn := f36) rfl rfl ?_
  have p := pureCall_eq (cl := ev R) fun H => e66_8 H xs hx
  unfold okArgs
  by_cases c : 0 < xs.length
  · have c' : (0 : Int) < (xs.length : Int) := by omega
    have c2 : 1 ≤ xs.length := by omega
    simp only [txts] at p
    generalize ((seek (long xs) xs.length 0).isNone) = b at p ⊢
    cases b
    · simp [-List.getD_eq_getElem?_getD, -List.map_map, evBody, evCode, evOps, evOper, evOp, opd, Env.get, Env.put, Env.keep, zipEnv, V.ok, V.sto, V.cells, D.cells, V.isAgg, binD, binInt, binStr, shInt, unD, eqOf, asI, leave, resOf, mapO, fzV, tupOf, view, view1, isData, hand, flatV, flatD, allD, mkAgg, mkVal, beq_lit, IntKind.bits, htake_self, htake_push, hget_hpush_self, hset_push, rowOf_self, okIn, lowIn, lowIn1, fzC_d, fzC_row, f36, txts, p, c, c', c2]
    · simp [-List.getD_eq_getElem?_getD, -List.map_map, evBody, evCode, evOps, evOper, evOp, opd, Env.get, Env.put, Env.keep, zipEnv, V.ok, V.sto, V.cells, D.cells, V.isAgg, binD, binInt, binStr, shInt, unD, eqOf, asI, leave, resOf, mapO, fzV, tupOf, view, view1, isData, hand, flatV, flatD, allD, mkAgg, mkVal, beq_lit, IntKind.bits, htake_self, htake_push, hget_hpush_self, hset_push, rowOf_self, okIn, lowIn, lowIn1, fzC_d, fzC_row, f36, txts, p, c, c', c2]
  · have c' : ¬ (0 : Int) < (xs.length : Int) := by omega
    have c2 : ¬ 1 ≤ xs.length := by omega
    have c3 : xs = [] := List.eq_nil_of_length_eq_zero (by omega)
    subst c3
    simp [-List.getD_eq_getElem?_getD, -List.map_map, evBody, evCode, evOps, evOper, evOp, opd, Env.get, Env.put, Env.keep, zipEnv, V.ok, V.sto, V.cells, D.cells, V.isAgg, binD, binInt, binStr, shInt, unD, eqOf, asI, leave, resOf, mapO, fzV, tupOf, view, view1, isData, hand, flatV, flatD, allD, mkAgg, mkVal, beq_lit, IntKind.bits, htake_self, htake_push, hget_hpush_self, hset_push, rowOf_self, okIn, lowIn, lowIn1, fzC_d, fzC_row, f36, txts, seek]
theorem e41 (H : Hp) (a : Txt) (ha : a.length ≤ 1000000) : ev R 41 [.d (.str a)] H = some (.d (.str (bulk a)), H) := by
  refine ev_fn (fn := f41) rfl rfl ?_
  have q := p40 a.length (by omega)
  have dl := decV_len a.length
  have l1 : 1 + (decV a.length).length ≤ strRoom := by unfold strRoom; omega
  have l2 : (decV a.length).length + 1 ≤ strRoom := by unfold strRoom; omega
  have l3 : (decV a.length).length + 1 + 2 ≤ strRoom := by unfold strRoom; omega
  have l4 : (decV a.length).length + 2 + 1 ≤ strRoom := by unfold strRoom; omega
  have l5 : (decV a.length).length + 1 + 2 + a.length ≤ strRoom := by unfold strRoom; omega
  have l6 : (decV a.length).length + 2 + 1 + a.length ≤ strRoom := by unfold strRoom; omega
  have l7 : (decV a.length).length + 1 + 2 + a.length + 2 ≤ strRoom := by unfold strRoom; omega
  have l8 : (decV a.length).length + 2 + 1 + a.length + 2 ≤ strRoom := by unfold strRoom; omega
  have l9 : (decV a.length).length + (a.length + 1 + 1) + 1 ≤ strRoom := by unfold strRoom; omega
  have la : (decV a.length).length + (a.length + 2) + 1 ≤ strRoom := by unfold strRoom; omega
  have lb : (decV a.length).length + (a.length + 1 + 1) + 1 + 2 ≤ strRoom := by unfold strRoom; omega
  have lc : (decV a.length).length + (a.length + 2) + 1 + 2 ≤ strRoom := by unfold strRoom; omega
  unfold bulk
  simp [-List.getD_eq_getElem?_getD, -List.map_map, evBody, evCode, evOps, evOper, evOp, opd, Env.get, Env.put, Env.keep, zipEnv, V.ok, V.sto, V.cells, D.cells, V.isAgg, binD, binInt, binStr, shInt, unD, eqOf, asI, leave, resOf, mapO, fzV, tupOf, view, view1, isData, hand, flatV, flatD, allD, mkAgg, mkVal, beq_lit, IntKind.bits, htake_self, htake_push, hget_hpush_self, hset_push, rowOf_self, okIn, lowIn, lowIn1, fzC_d, fzC_row, f41, q, l1, l2, l3, l4, l5, l6, l7, l8, l9, la, lb, lc]
theorem l13 (n0 : Nat) (xs : List Txt) (hx : xs.length ≤ 1000) (hs : ∀ x ∈ xs, x.length ≤ 40) (H : Hp) : ∀ (n i : Nat) (out : Txt) (e : Env), i + n = xs.length → out.length + 86 * n ≤ 1000000 → e.get 3 = .d (.str out) → e.get 14 = .d (txts xs) → e.get 15 = .d (.int .i64 xs.length) → e.get 16 = .d (.int .i64 i) →
    ∃ e', evLoop (evCode (ev R) R.glob n0 evLoop f13l0) [3, 14, 15, 16] ⟨e, H⟩ = some (.exit 0, ⟨e', H⟩) ∧ e'.get 3 = .d (.str (out ++ bulks (xs.drop i)))
  | 0, i, out, e, hi, hl, h3, h14, h15, h16 => by
    have c : ¬ (i : Int) < (xs.length : Int) := by omega
    have c' : ¬ i < xs.length := by omega
    rw [List.drop_of_length_le (by omega), bulks, List.append_nil, evLoop_eq]
    refine ⟨?_, ?_, ?_⟩
    rotate_left
    · simp [-List.getD_eq_getElem?_getD, -List.map_map, evBody, evCode, evOps, evOper, evOp, opd, Env.get, Env.put, Env.keep, zipEnv, V.ok, V.sto, V.cells, D.cells, V.isAgg, binD, binInt, binStr, shInt, unD, eqOf, asI, leave, resOf, mapO, fzV, tupOf, view, view1, isData, hand, flatV, flatD, allD, mkAgg, mkVal, beq_lit, IntKind.bits, htake_self, htake_push, hget_hpush_self, hset_push, rowOf_self, okIn, lowIn, lowIn1, fzC_d, fzC_row, f13l0, h3, h14, h15, h16, txts, c, c']
      try rfl
    · simp [-List.getD_eq_getElem?_getD, -List.map_map, evBody, evCode, evOps, evOper, evOp, opd, Env.get, Env.put, Env.keep, zipEnv, V.ok, V.sto, V.cells, D.cells, V.isAgg, binD, binInt, binStr, shInt, unD, eqOf, asI, leave, resOf, mapO, fzV, tupOf, view, view1, isData, hand, flatV, flatD, allD, mkAgg, mkVal, beq_lit, IntKind.bits, htake_self, htake_push, hget_hpush_self, hset_push, rowOf_self, okIn, lowIn, lowIn1, fzC_d, fzC_row, h3]
  | n + 1, i, out, e, hi, hl, h3, h14, h15, h16 => by
    have c' : i < xs.length := by omega
    have c : (i : Int) < (xs.length : Int) := by omega
    have g := txts_get xs i c'
    have w1 : IntKind.i64.wrap ((i : Int) + 1) = ((i + 1 : Nat) : Int) := by rw [IntWalk.i64_in _ (by omega)]; rfl
    have hd : xs.drop i = xs.getD i [] :: xs.drop (i + 1) := by
      rw [List.getD_eq_getElem?_getD, List.getElem?_eq_getElem c']
      exact List.drop_eq_getElem_cons c'
    have hm : (xs.getD i []).length ≤ 40 := by
      rw [List.getD_eq_getElem?_getD, List.getElem?_eq_getElem c']
      exact hs _ (List.getElem_mem c')
    obtain ⟨x, hx'⟩ : ∃ x, xs.getD i [] = x := ⟨_, rfl⟩
    rw [hx'] at g hd hm
    have bl := bulk_len x
    have q : pureCall (ev R) 41 [.d (.str x)] = some (.d (.str (bulk x))) := pureCall_eq fun H => e41 H x (by omega)
    have l1 : out.length + (bulk x).length ≤ strRoom := by unfold strRoom; omega
    have ih := l13 n0 xs hx hs H n (i + 1) (out ++ bulk x)
    simp only [List.append_assoc] at ih
    rw [hd, bulks]
    generalize bulk x = b at q l1 ih bl ⊢
    rw [evLoop_eq]
    generalize evLoop (evCode (ev R) R.glob n0 evLoop f13l0) [3, 14, 15, 16] = F at ih ⊢
    simp [-List.getD_eq_getElem?_getD, -List.map_map, evBody, evCode, evOps, evOper, evOp, opd, Env.get, Env.put, Env.keep, zipEnv, V.ok, V.sto, V.cells, D.cells, V.isAgg, binD, binInt, binStr, shInt, unD, eqOf, asI, leave, resOf, mapO, fzV, tupOf, view, view1, isData, hand, flatV, flatD, allD, mkAgg, mkVal, beq_lit, IntKind.bits, htake_self, htake_push, hget_hpush_self, hset_push, rowOf_self, okIn, lowIn, lowIn1, fzC_d, fzC_row, f13l0, h3, h14, h15, h16, txts, c, c', g, w1, q, l1]
    refine ih _ (by omega) (by rw [List.length_append]; omega) ?_ ?_ ?_ ?_ <;> rfl
theorem e13 (H : Hp) (xs : List Txt) (hx : xs.length ≤ 9223372036854775807) : ev R 13 [.d (txts xs)] H = some (.d (.str (putV xs)), H) := by
  refine ev_fn (fn := f13) rfl rfl ?_
  have q := pureCall_eq (cl := ev R) fun H => e36 H xs hx
  unfold putV
  cases hok : okArgs xs with
  | false =>
    rw [hok] at q
    simp [-List.getD_eq_getElem?_getD, -List.map_map, evBody, evCode, evOps, evOper, evOp, opd, Env.get, Env.put, Env.keep, zipEnv, V.ok, V.sto, V.cells, D.cells, V.isAgg, binD, binInt, binStr, shInt, unD, eqOf, asI, leave, resOf, mapO, fzV, tupOf, view, view1, isData, hand, flatV, flatD, allD, mkAgg, mkVal, beq_lit, IntKind.bits, htake_self, htake_push, hget_hpush_self, hset_push, rowOf_self, okIn, lowIn, lowIn1, fzC_d, fzC_row, f13, q]
  | true =>
    rw [hok] at q
    obtain ⟨h1, h2, h3⟩ := (okArgs_iff xs).1 hok
    have q2 := p40 xs.length (by omega)
    have dl := decV_len xs.length
    obtain ⟨e', he, g3⟩ := l13 (hlen H) xs (by omega) h1 H xs.length 0 (42 :: (decV xs.length ++ [13, 10])) [(3, .d (.str (42 :: (decV xs.length ++ [13, 10])))), (14, .d (txts xs)), (15, .d (.int .i64 xs.length)), (16, .d (.int .i64 0))] (by omega) (by simp; omega) rfl rfl rfl rfl
    have e1 : 42 :: (decV xs.length ++ [13, 10]) ++ bulks (xs.drop 0) = ordText xs := by simp [ordText]
    rw [e1] at g3
    have l1 : 1 + (decV xs.length).length ≤ strRoom := by unfold strRoom; omega
    have l2 : (decV xs.length).length + 1 ≤ strRoom := by unfold strRoom; omega
    have l3 : (decV xs.length).length + 1 + 2 ≤ strRoom := by unfold strRoom; omega
    simp [-List.getD_eq_getElem?_getD, -List.map_map, evBody, evCode, evOps, evOper, evOp, opd, Env.get, Env.put, Env.keep, zipEnv, V.ok, V.sto, V.cells, D.cells, V.isAgg, binD, binInt, binStr, shInt, unD, eqOf, asI, leave, resOf, mapO, fzV, tupOf, view, view1, isData, hand, flatV, flatD, allD, mkAgg, mkVal, beq_lit, IntKind.bits, htake_self, htake_push, hget_hpush_self, hset_push, rowOf_self, okIn, lowIn, lowIn1, fzC_d, fzC_row, f13, txts, q, q2, l1, l2, l3, he, g3]
end Go.Proofs.YtpmphmpaeooeeaaDoor.Code

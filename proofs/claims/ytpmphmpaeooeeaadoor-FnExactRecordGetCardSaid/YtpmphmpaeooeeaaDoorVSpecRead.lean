/- The reader of orders that the code is held against. -/
import Derived.Test.YtpmphmpaeooeeaaDoorVRead
namespace Go.Proofs.YtpmphmpaeooeeaaDoor.Code
open Go Go.Ev Go.Proofs
set_option maxRecDepth 100000
set_option linter.unusedSimpArgs false
set_option linter.unusedVariables false
theorem l74 (n0 : Nat) (s : Txt) (hs : s.length ≤ 1000000000000) (H : Hp) : ∀ (m i : Nat) (n : Int) (e : Env), i + m = s.length → 0 ≤ n → n < 10 ^ (min i 10) → e.get 0 = .d (.str s) → e.get 3 = .d (.int .i64 n) → e.get 4 = .d (.int .i64 i) →
    ∃ e', evLoop (evCode (ev R) R.glob n0 evLoop f74l0) [0, 3, 4] ⟨e, H⟩ = some ((match figL (s.drop i) i n with | none => .ret | some _ => .exit 0), ⟨e', H⟩) ∧
      (figL (s.drop i) i n = none → e'.get 2 = .d (.int .i64 (-1))) ∧ (∀ v, figL (s.drop i) i n = some v → e'.get 0 = .d (.str s) ∧ e'.get 3 = .d (.int .i64 v))
  | 0, i, n, e, hi, hn, hn2, h0, h3, h4 => by
    have c : ¬ (i : Int) < (s.length : Int) := by omega
    have c' : ¬ i < s.length := by omega
    rw [List.drop_of_length_le (by omega), evLoop_eq]
    refine ⟨?_, ?_, ?_, ?_⟩
    rotate_left
    · simp [-List.getD_eq_getElem?_getD, -List.map_map, evBody, evCode, evOps, evOper, evOp, opd, Env.get, Env.put, Env.keep, zipEnv, V.ok, V.sto, V.cells, D.cells, V.isAgg, binD, binInt, binStr, shInt, unD, eqOf, asI, leave, resOf, mapO, fzV, tupOf, view, view1, isData, hand, flatV, flatD, allD, mkAgg, mkVal, beq_lit, IntKind.bits, htake_self, htake_push, hget_hpush_self, hset_push, rowOf_self, okIn, lowIn, lowIn1, fzC_d, fzC_row, f74l0, h0, h3, h4, c, c', figL]
      try rfl
    · intro h; simp [figL] at h
    · intro v h
      simp only [figL, Option.some.injEq] at h
      subst h
      constructor
      · simp [-List.getD_eq_getElem?_getD, -List.map_map, evBody, evCode, evOps, evOper, evOp, opd, Env.get, Env.put, Env.keep, zipEnv, V.ok, V.sto, V.cells, D.cells, V.isAgg, binD, binInt, binStr, shInt, unD, eqOf, asI, leave, resOf, mapO, fzV, tupOf, view, view1, isData, hand, flatV, flatD, allD, mkAgg, mkVal, beq_lit, IntKind.bits, htake_self, htake_push, hget_hpush_self, hset_push, rowOf_self, okIn, lowIn, lowIn1, fzC_d, fzC_row, h0]
      · simp [-List.getD_eq_getElem?_getD, -List.map_map, evBody, evCode, evOps, evOper, evOp, opd, Env.get, Env.put, Env.keep, zipEnv, V.ok, V.sto, V.cells, D.cells, V.isAgg, binD, binInt, binStr, shInt, unD, eqOf, asI, leave, resOf, mapO, fzV, tupOf, view, view1, isData, hand, flatV, flatD, allD, mkAgg, mkVal, beq_lit, IntKind.bits, htake_self, htake_push, hget_hpush_self, hset_push, rowOf_self, okIn, lowIn, lowIn1, fzC_d, fzC_row, h3]
  | m + 1, i, n, e, hi, hn, hn2, h0, h3, h4 => by
    have hil : i < s.length := by omega
    have c : (i : Int) < (s.length : Int) := by omega
    have hd := drop_cons hil
    obtain ⟨b, hb⟩ : ∃ b, s.getD i 0 = b := ⟨_, rfl⟩
    rw [hb] at hd
    have b255 := b.toNat_lt
    have w1 : IntKind.i64.wrap ((i : Int) + 1) = ((i + 1 : Nat) : Int) := by rw [IntWalk.i64_in _ (by omega)]; rfl
    rw [hd]
    simp only [figL]
    cases g : isDig b with
    | false =>
      simp only [Bool.false_eq_true, if_false]
      rw [evLoop_eq]
      refine ⟨?_, ?_, ?_, ?_⟩
      rotate_left
      · by_cases d1 : (b.toNat : Int) < 48
        · simp [-List.getD_eq_getElem?_getD, -List.map_map, evBody, evCode, evOps, evOper, evOp, opd, Env.get, Env.put, Env.keep, zipEnv, V.ok, V.sto, V.cells, D.cells, V.isAgg, binD, binInt, binStr, shInt, unD, eqOf, asI, leave, resOf, mapO, fzV, tupOf, view, view1, isData, hand, flatV, flatD, allD, mkAgg, mkVal, beq_lit, IntKind.bits, htake_self, htake_push, hget_hpush_self, hset_push, rowOf_self, okIn, lowIn, lowIn1, fzC_d, fzC_row, f74l0, h0, h3, h4, c, hil, hb, d1]
          try rfl
        · have d2 : 57 < (b.toNat : Int) := by
            simp only [isDig, Bool.and_eq_false_iff, decide_eq_false_iff_not] at g
            omega
          simp [-List.getD_eq_getElem?_getD, -List.map_map, evBody, evCode, evOps, evOper, evOp, opd, Env.get, Env.put, Env.keep, zipEnv, V.ok, V.sto, V.cells, D.cells, V.isAgg, binD, binInt, binStr, shInt, unD, eqOf, asI, leave, resOf, mapO, fzV, tupOf, view, view1, isData, hand, flatV, flatD, allD, mkAgg, mkVal, beq_lit, IntKind.bits, htake_self, htake_push, hget_hpush_self, hset_push, rowOf_self, okIn, lowIn, lowIn1, fzC_d, fzC_row, f74l0, h0, h3, h4, c, hil, hb, d1, d2]
          try rfl
      · intro _; simp [-List.getD_eq_getElem?_getD, -List.map_map, evBody, evCode, evOps, evOper, evOp, opd, Env.get, Env.put, Env.keep, zipEnv, V.ok, V.sto, V.cells, D.cells, V.isAgg, binD, binInt, binStr, shInt, unD, eqOf, asI, leave, resOf, mapO, fzV, tupOf, view, view1, isData, hand, flatV, flatD, allD, mkAgg, mkVal, beq_lit, IntKind.bits, htake_self, htake_push, hget_hpush_self, hset_push, rowOf_self, okIn, lowIn, lowIn1, fzC_d, fzC_row]
      · intro v h; simp at h
    | true =>
      have bb := dig_in g
      have d1 : ¬ (b.toNat : Int) < 48 := by omega
      have d2 : ¬ 57 < (b.toNat : Int) := by omega
      simp only [if_true]
      by_cases ten : i < 10
      · have ten' : (i : Int) < 10 := by omega
        have m1 : min i 10 = i := by omega
        have m2 : min (i + 1) 10 = i + 1 := by omega
        rw [m1] at hn2
        have pw : (10 : Int) ^ (i + 1) = 10 ^ i * 10 := Int.pow_succ ..
        have p9 : (10 : Int) ^ i ≤ 1000000000 := by
          have : (10 : Nat) ^ i ≤ 10 ^ 9 := Nat.pow_le_pow_right (by omega) (by omega)
          have e : ((10 ^ i : Nat) : Int) = (10 : Int) ^ i := by simp
          omega
        have w2 : IntKind.i64.wrap (n * 10) = n * 10 := IntWalk.i64_in _ (by omega)
        have w3 : IntKind.u8.wrap ((b.toNat : Int) - 48) = (b.toNat : Int) - 48 := IntWalk.u8_in _ (by omega)
        have w4 : IntKind.i64.wrap ((b.toNat : Int) - 48) = (b.toNat : Int) - 48 := IntWalk.i64_in _ (by omega)
        have w5 : IntKind.i64.wrap (n * 10 + ((b.toNat : Int) - 48)) = n * 10 + ((b.toNat : Int) - 48) := IntWalk.i64_in _ (by omega)
        have ih := l74 n0 s hs H m (i + 1) (n * 10 + ((b.toNat : Int) - 48))
        rw [m2, pw] at ih
        rw [if_pos ten]
        generalize figL (s.drop (i + 1)) (i + 1) (n * 10 + ((b.toNat : Int) - 48)) = FL at ih ⊢
        obtain ⟨x, hx⟩ : ∃ x, n * 10 + ((b.toNat : Int) - 48) = x := ⟨_, rfl⟩
        rw [hx] at ih
        have w5 := w5.trans hx
        rw [evLoop_eq]
        generalize evLoop (evCode (ev R) R.glob n0 evLoop f74l0) [0, 3, 4] = F at ih ⊢
        simp [-List.getD_eq_getElem?_getD, -List.map_map, evBody, evCode, evOps, evOper, evOp, opd, Env.get, Env.put, Env.keep, zipEnv, V.ok, V.sto, V.cells, D.cells, V.isAgg, binD, binInt, binStr, shInt, unD, eqOf, asI, leave, resOf, mapO, fzV, tupOf, view, view1, isData, hand, flatV, flatD, allD, mkAgg, mkVal, beq_lit, IntKind.bits, htake_self, htake_push, hget_hpush_self, hset_push, rowOf_self, okIn, lowIn, lowIn1, fzC_d, fzC_row, f74l0, h0, h3, h4, c, hil, hb, d1, d2, ten, ten', w1, w2, w3, w4, w5]
        refine ih _ (by omega) (by omega) (by omega) ?_ ?_ ?_ <;> rfl
      · have ten' : ¬ (i : Int) < 10 := by omega
        have m1 : min i 10 = 10 := by omega
        have m2 : min (i + 1) 10 = 10 := by omega
        rw [m1] at hn2
        have ih := l74 n0 s hs H m (i + 1) n
        rw [m2] at ih
        rw [if_neg ten]
        generalize figL (s.drop (i + 1)) (i + 1) n = FL at ih ⊢
        rw [evLoop_eq]
        generalize evLoop (evCode (ev R) R.glob n0 evLoop f74l0) [0, 3, 4] = F at ih ⊢
        simp [-List.getD_eq_getElem?_getD, -List.map_map, evBody, evCode, evOps, evOper, evOp, opd, Env.get, Env.put, Env.keep, zipEnv, V.ok, V.sto, V.cells, D.cells, V.isAgg, binD, binInt, binStr, shInt, unD, eqOf, asI, leave, resOf, mapO, fzV, tupOf, view, view1, isData, hand, flatV, flatD, allD, mkAgg, mkVal, beq_lit, IntKind.bits, htake_self, htake_push, hget_hpush_self, hset_push, rowOf_self, okIn, lowIn, lowIn1, fzC_d, fzC_row, f74l0, h0, h3, h4, c, hil, hb, d1, d2, ten, ten', w1]
        refine ih _ (by omega) (by omega) (by omega) ?_ ?_ ?_ <;> rfl
theorem e74 (H : Hp) (s : Txt) (hs : s.length ≤ 1000000000000) : ev R 74 [.d (.str s)] H = some (.d (.int .i64 (figV s)), H) := by
  refine ev_fn (fn := f74) rfl rfl ?_
  obtain ⟨e', he, h1, h2⟩ := l74 (hlen H) s hs H s.length 0 0 [(0, .d (.str s)), (3, .d (.int .i64 0)), (4, .d (.int .i64 0))] (by omega) (by omega) (by simp) rfl rfl rfl
  simp only [List.drop_zero] at he h1 h2
  unfold figV
  cases hr : figL s 0 0 with
  | none =>
    simp only [hr] at he
    simp [-List.getD_eq_getElem?_getD, -List.map_map, evBody, evCode, evOps, evOper, evOp, opd, Env.get, Env.put, Env.keep, zipEnv, V.ok, V.sto, V.cells, D.cells, V.isAgg, binD, binInt, binStr, shInt, unD, eqOf, asI, leave, resOf, mapO, fzV, tupOf, view, view1, isData, hand, flatV, flatD, allD, mkAgg, mkVal, beq_lit, IntKind.bits, htake_self, htake_push, hget_hpush_self, hset_push, rowOf_self, okIn, lowIn, lowIn1, fzC_d, fzC_row, f74, he, h1 hr]
  | some v =>
    simp only [hr] at he
    obtain ⟨g0, g3⟩ := h2 v hr
    have p := p30 (s.length : Int) 1 10
    by_cases c1 : s.length < 1
    · have q : (decide ((s.length : Int) ≥ 1) && decide ((s.length : Int) ≤ 10)) = false := by simp; omega
      rw [q] at p
      simp [-List.getD_eq_getElem?_getD, -List.map_map, evBody, evCode, evOps, evOper, evOp, opd, Env.get, Env.put, Env.keep, zipEnv, V.ok, V.sto, V.cells, D.cells, V.isAgg, binD, binInt, binStr, shInt, unD, eqOf, asI, leave, resOf, mapO, fzV, tupOf, view, view1, isData, hand, flatV, flatD, allD, mkAgg, mkVal, beq_lit, IntKind.bits, htake_self, htake_push, hget_hpush_self, hset_push, rowOf_self, okIn, lowIn, lowIn1, fzC_d, fzC_row, f74, he, g0, g3, p, c1]
    · by_cases c2 : 10 < s.length
      · have q : (decide ((s.length : Int) ≥ 1) && decide ((s.length : Int) ≤ 10)) = false := by simp; omega
        rw [q] at p
        simp [-List.getD_eq_getElem?_getD, -List.map_map, evBody, evCode, evOps, evOper, evOp, opd, Env.get, Env.put, Env.keep, zipEnv, V.ok, V.sto, V.cells, D.cells, V.isAgg, binD, binInt, binStr, shInt, unD, eqOf, asI, leave, resOf, mapO, fzV, tupOf, view, view1, isData, hand, flatV, flatD, allD, mkAgg, mkVal, beq_lit, IntKind.bits, htake_self, htake_push, hget_hpush_self, hset_push, rowOf_self, okIn, lowIn, lowIn1, fzC_d, fzC_row, f74, he, g0, g3, p, c1, c2]
      · have q : (decide ((s.length : Int) ≥ 1) && decide ((s.length : Int) ≤ 10)) = true := by simp; omega
        rw [q] at p
        have k0 : 0 < s.length := by omega
        have k0' : (0 : Int) < (s.length : Int) := by omega
        by_cases c3 : 1 < s.length
        · have c3' : (1 : Int) < (s.length : Int) := by omega
          have u : ((s.getD 0 0).toNat : Int) = 48 ↔ s.getD 0 0 = 48 := u8_eq _ 48
          by_cases c4 : s.getD 0 0 = 48
          · simp [-List.getD_eq_getElem?_getD, -List.map_map, evBody, evCode, evOps, evOper, evOp, opd, Env.get, Env.put, Env.keep, zipEnv, V.ok, V.sto, V.cells, D.cells, V.isAgg, binD, binInt, binStr, shInt, unD, eqOf, asI, leave, resOf, mapO, fzV, tupOf, view, view1, isData, hand, flatV, flatD, allD, mkAgg, mkVal, beq_lit, IntKind.bits, htake_self, htake_push, hget_hpush_self, hset_push, rowOf_self, okIn, lowIn, lowIn1, fzC_d, fzC_row, f74, he, g0, g3, p, c1, c2, c3, c3', k0, k0', c4]
          · have c4' : ¬ ((s.getD 0 0).toNat : Int) = 48 := fun h => c4 (u.1 h)
            simp [-List.getD_eq_getElem?_getD, -List.map_map, evBody, evCode, evOps, evOper, evOp, opd, Env.get, Env.put, Env.keep, zipEnv, V.ok, V.sto, V.cells, D.cells, V.isAgg, binD, binInt, binStr, shInt, unD, eqOf, asI, leave, resOf, mapO, fzV, tupOf, view, view1, isData, hand, flatV, flatD, allD, mkAgg, mkVal, beq_lit, IntKind.bits, htake_self, htake_push, hget_hpush_self, hset_push, rowOf_self, okIn, lowIn, lowIn1, fzC_d, fzC_row, f74, he, g0, g3, p, c1, c2, c3, c3', k0, k0', c4, c4']
        · have c3' : ¬ (1 : Int) < (s.length : Int) := by omega
          simp [-List.getD_eq_getElem?_getD, -List.map_map, evBody, evCode, evOps, evOper, evOp, opd, Env.get, Env.put, Env.keep, zipEnv, V.ok, V.sto, V.cells, D.cells, V.isAgg, binD, binInt, binStr, shInt, unD, eqOf, asI, leave, resOf, mapO, fzV, tupOf, view, view1, isData, hand, flatV, flatD, allD, mkAgg, mkVal, beq_lit, IntKind.bits, htake_self, htake_push, hget_hpush_self, hset_push, rowOf_self, okIn, lowIn, lowIn1, fzC_d, fzC_row, f74, he, g0, g3, p, c1, c2, c3, c3', k0, k0']
theorem l49 (n0 : Nat) (s : Txt) (hs : s.length ≤ 1000000000000) (sign : Int) (low most : Int) (H : Hp) : ∀ (f k : Nat) (e : Env), k + f = 4 → e.get 0 = .d (.str s) → e.get 1 = .d (.int .u8 sign) → e.get 2 = .d (.int .i64 low) → e.get 3 = .d (.int .i64 most) → e.get 11 = .d (.int .i64 k) →
    ∃ e', evLoop (evCode (ev R) R.glob n0 evLoop f49l0) [0, 1, 2, 3, 11] ⟨e, H⟩ = some (.exit 0, ⟨e', H⟩) ∧ e'.get 0 = .d (.str s) ∧ e'.get 1 = .d (.int .u8 sign) ∧ e'.get 2 = .d (.int .i64 low) ∧ e'.get 3 = .d (.int .i64 most) ∧ e'.get 11 = .d (.int .i64 (scanK s f k))
  | f, k, e, hf, h0, h1, h2, h3, h11 => by
    have b255 := (s.getD k 0).toNat_lt
    have stop : ∀ (o : Option (Out × St)), (∃ en, o = some (Out.exit 0, ⟨en, H⟩) ∧ en.get 0 = .d (.str s) ∧ en.get 1 = .d (.int .u8 sign) ∧ en.get 2 = .d (.int .i64 low) ∧ en.get 3 = .d (.int .i64 most) ∧ en.get 11 = .d (.int .i64 k)) → ∃ e', o = some (Out.exit 0, ⟨e', H⟩) ∧ e'.get 0 = .d (.str s) ∧ e'.get 1 = .d (.int .u8 sign) ∧ e'.get 2 = .d (.int .i64 low) ∧ e'.get 3 = .d (.int .i64 most) ∧ e'.get 11 = .d (.int .i64 k) := fun o h => h
    by_cases c : k < s.length
    · have c' : (k : Int) < (s.length : Int) := by omega
      cases g : isDig (s.getD k 0) with
      | false =>
        have hk : scanK s f k = k := by
          cases f with
          | zero => rfl
          | succ f => simp [scanK, g, -List.getD_eq_getElem?_getD]
        rw [hk, evLoop_eq]
        refine ⟨?_, ?_, ?_, ?_, ?_, ?_, ?_⟩
        rotate_left
        · by_cases d1 : 48 ≤ ((s.getD k 0).toNat : Int)
          · have d2 : ¬ ((s.getD k 0).toNat : Int) ≤ 57 := by
              simp only [isDig, Bool.and_eq_false_iff, decide_eq_false_iff_not] at g
              omega
            simp [-List.getD_eq_getElem?_getD, -List.map_map, evBody, evCode, evOps, evOper, evOp, opd, Env.get, Env.put, Env.keep, zipEnv, V.ok, V.sto, V.cells, D.cells, V.isAgg, binD, binInt, binStr, shInt, unD, eqOf, asI, leave, resOf, mapO, fzV, tupOf, view, view1, isData, hand, flatV, flatD, allD, mkAgg, mkVal, beq_lit, IntKind.bits, htake_self, htake_push, hget_hpush_self, hset_push, rowOf_self, okIn, lowIn, lowIn1, fzC_d, fzC_row, f49l0, h0, h1, h2, h3, h11, c, c', d1, d2]
            try rfl
          · simp [-List.getD_eq_getElem?_getD, -List.map_map, evBody, evCode, evOps, evOper, evOp, opd, Env.get, Env.put, Env.keep, zipEnv, V.ok, V.sto, V.cells, D.cells, V.isAgg, binD, binInt, binStr, shInt, unD, eqOf, asI, leave, resOf, mapO, fzV, tupOf, view, view1, isData, hand, flatV, flatD, allD, mkAgg, mkVal, beq_lit, IntKind.bits, htake_self, htake_push, hget_hpush_self, hset_push, rowOf_self, okIn, lowIn, lowIn1, fzC_d, fzC_row, f49l0, h0, h1, h2, h3, h11, c, c', d1]
            try rfl
        · simp [-List.getD_eq_getElem?_getD, -List.map_map, evBody, evCode, evOps, evOper, evOp, opd, Env.get, Env.put, Env.keep, zipEnv, V.ok, V.sto, V.cells, D.cells, V.isAgg, binD, binInt, binStr, shInt, unD, eqOf, asI, leave, resOf, mapO, fzV, tupOf, view, view1, isData, hand, flatV, flatD, allD, mkAgg, mkVal, beq_lit, IntKind.bits, htake_self, htake_push, hget_hpush_self, hset_push, rowOf_self, okIn, lowIn, lowIn1, fzC_d, fzC_row, h0]
        · simp [-List.getD_eq_getElem?_getD, -List.map_map, evBody, evCode, evOps, evOper, evOp, opd, Env.get, Env.put, Env.keep, zipEnv, V.ok, V.sto, V.cells, D.cells, V.isAgg, binD, binInt, binStr, shInt, unD, eqOf, asI, leave, resOf, mapO, fzV, tupOf, view, view1, isData, hand, flatV, flatD, allD, mkAgg, mkVal, beq_lit, IntKind.bits, htake_self, htake_push, hget_hpush_self, hset_push, rowOf_self, okIn, lowIn, lowIn1, fzC_d, fzC_row, h1]
        · simp [-List.getD_eq_getElem?_getD, -List.map_map, evBody, evCode, evOps, evOper, evOp, opd, Env.get, Env.put, Env.keep, zipEnv, V.ok, V.sto, V.cells, D.cells, V.isAgg, binD, binInt, binStr, shInt, unD, eqOf, asI, leave, resOf, mapO, fzV, tupOf, view, view1, isData, hand, flatV, flatD, allD, mkAgg, mkVal, beq_lit, IntKind.bits, htake_self, htake_push, hget_hpush_self, hset_push, rowOf_self, okIn, lowIn, lowIn1, fzC_d, fzC_row, h2]
        · simp [-List.getD_eq_getElem?_getD, -List.map_map, evBody, evCode, evOps, evOper, evOp, opd, Env.get, Env.put, Env.keep, zipEnv, V.ok, V.sto, V.cells, D.cells, V.isAgg, binD, binInt, binStr, shInt, unD, eqOf, asI, leave, resOf, mapO, fzV, tupOf, view, view1, isData, hand, flatV, flatD, allD, mkAgg, mkVal, beq_lit, IntKind.bits, htake_self, htake_push, hget_hpush_self, hset_push, rowOf_self, okIn, lowIn, lowIn1, fzC_d, fzC_row, h3]
        · simp [-List.getD_eq_getElem?_getD, -List.map_map, evBody, evCode, evOps, evOper, evOp, opd, Env.get, Env.put, Env.keep, zipEnv, V.ok, V.sto, V.cells, D.cells, V.isAgg, binD, binInt, binStr, shInt, unD, eqOf, asI, leave, resOf, mapO, fzV, tupOf, view, view1, isData, hand, flatV, flatD, allD, mkAgg, mkVal, beq_lit, IntKind.bits, htake_self, htake_push, hget_hpush_self, hset_push, rowOf_self, okIn, lowIn, lowIn1, fzC_d, fzC_row, h11]
      | true =>
        have bb := dig_in g
        have d1 : 48 ≤ ((s.getD k 0).toNat : Int) := by omega
        have d2 : ((s.getD k 0).toNat : Int) ≤ 57 := by omega
        cases f with
        | zero =>
          have c4 : ¬ (k : Int) < 4 := by omega
          have c4' : ¬ k < 4 := by omega
          rw [evLoop_eq]
          refine ⟨?_, ?_, ?_, ?_, ?_, ?_, ?_⟩
          rotate_left
          · simp [-List.getD_eq_getElem?_getD, -List.map_map, evBody, evCode, evOps, evOper, evOp, opd, Env.get, Env.put, Env.keep, zipEnv, V.ok, V.sto, V.cells, D.cells, V.isAgg, binD, binInt, binStr, shInt, unD, eqOf, asI, leave, resOf, mapO, fzV, tupOf, view, view1, isData, hand, flatV, flatD, allD, mkAgg, mkVal, beq_lit, IntKind.bits, htake_self, htake_push, hget_hpush_self, hset_push, rowOf_self, okIn, lowIn, lowIn1, fzC_d, fzC_row, f49l0, h0, h1, h2, h3, h11, c, c', d1, d2, c4, c4']
            try rfl
          · simp [-List.getD_eq_getElem?_getD, -List.map_map, evBody, evCode, evOps, evOper, evOp, opd, Env.get, Env.put, Env.keep, zipEnv, V.ok, V.sto, V.cells, D.cells, V.isAgg, binD, binInt, binStr, shInt, unD, eqOf, asI, leave, resOf, mapO, fzV, tupOf, view, view1, isData, hand, flatV, flatD, allD, mkAgg, mkVal, beq_lit, IntKind.bits, htake_self, htake_push, hget_hpush_self, hset_push, rowOf_self, okIn, lowIn, lowIn1, fzC_d, fzC_row, h0]
          · simp [-List.getD_eq_getElem?_getD, -List.map_map, evBody, evCode, evOps, evOper, evOp, opd, Env.get, Env.put, Env.keep, zipEnv, V.ok, V.sto, V.cells, D.cells, V.isAgg, binD, binInt, binStr, shInt, unD, eqOf, asI, leave, resOf, mapO, fzV, tupOf, view, view1, isData, hand, flatV, flatD, allD, mkAgg, mkVal, beq_lit, IntKind.bits, htake_self, htake_push, hget_hpush_self, hset_push, rowOf_self, okIn, lowIn, lowIn1, fzC_d, fzC_row, h1]
          · simp [-List.getD_eq_getElem?_getD, -List.map_map, evBody, evCode, evOps, evOper, evOp, opd, Env.get, Env.put, Env.keep, zipEnv, V.ok, V.sto, V.cells, D.cells, V.isAgg, binD, binInt, binStr, shInt, unD, eqOf, asI, leave, resOf, mapO, fzV, tupOf, view, view1, isData, hand, flatV, flatD, allD, mkAgg, mkVal, beq_lit, IntKind.bits, htake_self, htake_push, hget_hpush_self, hset_push, rowOf_self, okIn, lowIn, lowIn1, fzC_d, fzC_row, h2]
          · simp [-List.getD_eq_getElem?_getD, -List.map_map, evBody, evCode, evOps, evOper, evOp, opd, Env.get, Env.put, Env.keep, zipEnv, V.ok, V.sto, V.cells, D.cells, V.isAgg, binD, binInt, binStr, shInt, unD, eqOf, asI, leave, resOf, mapO, fzV, tupOf, view, view1, isData, hand, flatV, flatD, allD, mkAgg, mkVal, beq_lit, IntKind.bits, htake_self, htake_push, hget_hpush_self, hset_push, rowOf_self, okIn, lowIn, lowIn1, fzC_d, fzC_row, h3]
          · simp [-List.getD_eq_getElem?_getD, -List.map_map, evBody, evCode, evOps, evOper, evOp, opd, Env.get, Env.put, Env.keep, zipEnv, V.ok, V.sto, V.cells, D.cells, V.isAgg, binD, binInt, binStr, shInt, unD, eqOf, asI, leave, resOf, mapO, fzV, tupOf, view, view1, isData, hand, flatV, flatD, allD, mkAgg, mkVal, beq_lit, IntKind.bits, htake_self, htake_push, hget_hpush_self, hset_push, rowOf_self, okIn, lowIn, lowIn1, fzC_d, fzC_row, h11, scanK]
        | succ f =>
          have c4 : (k : Int) < 4 := by omega
          have c4' : k < 4 := by omega
          have hk : scanK s (f + 1) k = scanK s f (k + 1) := by
            simp only [scanK]
            rw [if_pos ⟨c, g⟩]
          have w1 : IntKind.i64.wrap ((k : Int) + 1) = ((k + 1 : Nat) : Int) := by rw [IntWalk.i64_in _ (by omega)]; rfl
          have ih := l49 n0 s hs sign low most H f (k + 1)
          rw [hk, evLoop_eq]
          generalize scanK s f (k + 1) = K at ih ⊢
          generalize evLoop (evCode (ev R) R.glob n0 evLoop f49l0) [0, 1, 2, 3, 11] = F at ih ⊢
          simp [-List.getD_eq_getElem?_getD, -List.map_map, evBody, evCode, evOps, evOper, evOp, opd, Env.get, Env.put, Env.keep, zipEnv, V.ok, V.sto, V.cells, D.cells, V.isAgg, binD, binInt, binStr, shInt, unD, eqOf, asI, leave, resOf, mapO, fzV, tupOf, view, view1, isData, hand, flatV, flatD, allD, mkAgg, mkVal, beq_lit, IntKind.bits, htake_self, htake_push, hget_hpush_self, hset_push, rowOf_self, okIn, lowIn, lowIn1, fzC_d, fzC_row, f49l0, h0, h1, h2, h3, h11, c, c', d1, d2, c4, c4', w1]
          refine ih _ (by omega) ?_ ?_ ?_ ?_ ?_ <;> rfl
    · have c' : ¬ (k : Int) < (s.length : Int) := by omega
      have hk : scanK s f k = k := by
        cases f with
        | zero => rfl
        | succ f => simp only [scanK]; rw [if_neg (fun h => c h.1)]
      rw [hk, evLoop_eq]
      refine ⟨?_, ?_, ?_, ?_, ?_, ?_, ?_⟩
      rotate_left
      · simp [-List.getD_eq_getElem?_getD, -List.map_map, evBody, evCode, evOps, evOper, evOp, opd, Env.get, Env.put, Env.keep, zipEnv, V.ok, V.sto, V.cells, D.cells, V.isAgg, binD, binInt, binStr, shInt, unD, eqOf, asI, leave, resOf, mapO, fzV, tupOf, view, view1, isData, hand, flatV, flatD, allD, mkAgg, mkVal, beq_lit, IntKind.bits, htake_self, htake_push, hget_hpush_self, hset_push, rowOf_self, okIn, lowIn, lowIn1, fzC_d, fzC_row, f49l0, h0, h1, h2, h3, h11, c, c']
        try rfl
      · simp [-List.getD_eq_getElem?_getD, -List.map_map, evBody, evCode, evOps, evOper, evOp, opd, Env.get, Env.put, Env.keep, zipEnv, V.ok, V.sto, V.cells, D.cells, V.isAgg, binD, binInt, binStr, shInt, unD, eqOf, asI, leave, resOf, mapO, fzV, tupOf, view, view1, isData, hand, flatV, flatD, allD, mkAgg, mkVal, beq_lit, IntKind.bits, htake_self, htake_push, hget_hpush_self, hset_push, rowOf_self, okIn, lowIn, lowIn1, fzC_d, fzC_row, h0]
      · simp [-List.getD_eq_getElem?_getD, -List.map_map, evBody, evCode, evOps, evOper, evOp, opd, Env.get, Env.put, Env.keep, zipEnv, V.ok, V.sto, V.cells, D.cells, V.isAgg, binD, binInt, binStr, shInt, unD, eqOf, asI, leave, resOf, mapO, fzV, tupOf, view, view1, isData, hand, flatV, flatD, allD, mkAgg, mkVal, beq_lit, IntKind.bits, htake_self, htake_push, hget_hpush_self, hset_push, rowOf_self, okIn, lowIn, lowIn1, fzC_d, fzC_row, h1]
      · simp [-List.getD_eq_getElem?_getD, -List.map_map, evBody, evCode, evOps, evOper, evOp, opd, Env.get, Env.put, Env.keep, zipEnv, V.ok, V.sto, V.cells, D.cells, V.isAgg, binD, binInt, binStr, shInt, unD, eqOf, asI, leave, resOf, mapO, fzV, tupOf, view, view1, isData, hand, flatV, flatD, allD, mkAgg, mkVal, beq_lit, IntKind.bits, htake_self, htake_push, hget_hpush_self, hset_push, rowOf_self, okIn, lowIn, lowIn1, fzC_d, fzC_row, h2]
      · simp [-List.getD_eq_getElem?_getD, -List.map_map, evBody, evCode, evOps, evOper, evOp, opd, Env.get, Env.put, Env.keep, zipEnv, V.ok, V.sto, V.cells, D.cells, V.isAgg, binD, binInt, binStr, shInt, unD, eqOf, asI, leave, resOf, mapO, fzV, tupOf, view, view1, isData, hand, flatV, flatD, allD, mkAgg, mkVal, beq_lit, IntKind.bits, htake_self, htake_push, hget_hpush_self, hset_push, rowOf_self, okIn, lowIn, lowIn1, fzC_d, fzC_row, h3]
      · simp [-List.getD_eq_getElem?_getD, -List.map_map, evBody, evCode, evOps, evOper, evOp, opd, Env.get, Env.put, Env.keep, zipEnv, V.ok, V.sto, V.cells, D.cells, V.isAgg, binD, binInt, binStr, shInt, unD, eqOf, asI, leave, resOf, mapO, fzV, tupOf, view, view1, isData, hand, flatV, flatD, allD, mkAgg, mkVal, beq_lit, IntKind.bits, htake_self, htake_push, hget_hpush_self, hset_push, rowOf_self, okIn, lowIn, lowIn1, fzC_d, fzC_row, h11]
theorem scanK_in (s : Txt) : ∀ (f k : Nat), k ≤ scanK s f k ∧ scanK s f k ≤ k + f ∧ (k < scanK s f k → scanK s f k ≤ s.length)
  | 0, k => by simp [scanK]
  | f + 1, k => by
    simp only [scanK]
    have := scanK_in s f (k + 1)
    split
    · rename_i h
      obtain ⟨h1, _⟩ := h
      omega
    · omega
/-- What the head's reader hands back. -/
def headD (h : Int × Txt × Int) : V := .tup [.d (.int .i64 h.1), .d (.str h.2.1), .d (.int .i64 h.2.2)]
theorem headD_ite (c : Prop) [Decidable c] (a b : Int × Txt × Int) : headD (if c then a else b) = if c then headD a else headD b := by split <;> rfl
theorem e49_no (H : Hp) (s : Txt) (hs : s.length ≤ 1000000000000) (sign : UInt8) (si low most : Int) (hsi : si = sign.toNat) (hz : ¬ s.length = 0) (A : ¬ s.getD 0 0 = sign) : ev R 49 [.d (.str s), .d (.int .u8 si), .d (.int .i64 low), .d (.int .i64 most)] H = some (headD (headV s sign low most), H) := by
  refine ev_fn (fn := f49) rfl rfl ?_
  obtain ⟨e', he, g0, g1, g2, g3, g11⟩ := l49 (hlen H) s hs si low most H 3 1 [(0, .d (.str s)), (1, .d (.int .u8 si)), (2, .d (.int .i64 low)), (3, .d (.int .i64 most)), (11, .d (.int .i64 1))] rfl rfl rfl rfl rfl rfl
  obtain ⟨k1, k2, k3⟩ := scanK_in s 3 1
  unfold headV
  generalize scanK s 3 1 = K at g11 k1 k2 k3 ⊢
  simp only [headD_ite]
  have k0 : 0 < s.length := by omega
  have k0' : (0 : Int) < (s.length : Int) := by omega
  have hz' : ¬ (s.length : Int) = 0 := by omega
  have nn : ¬ s = [] := fun e => hz (by rw [e]; rfl)
  have A' : ¬ ((s.getD 0 0).toNat : Int) = si := by rw [hsi, u8_eq]; exact A
  simp [-List.getD_eq_getElem?_getD, -List.map_map, evBody, evCode, evOps, evOper, evOp, opd, Env.get, Env.put, Env.keep, zipEnv, V.ok, V.sto, V.cells, D.cells, V.isAgg, binD, binInt, binStr, shInt, unD, eqOf, asI, leave, resOf, mapO, fzV, tupOf, view, view1, isData, hand, flatV, flatD, allD, mkAgg, mkVal, beq_lit, IntKind.bits, htake_self, htake_push, hget_hpush_self, hset_push, rowOf_self, okIn, lowIn, lowIn1, fzC_d, fzC_row, f49, he, g0, g1, g2, g3, g11, headD, hz, hz', nn, k0, k0', A, A']
theorem e49_yes (H : Hp) (s : Txt) (hs : s.length ≤ 1000000000000) (sign : UInt8) (si low most : Int) (hsi : si = sign.toNat) (A0 : s.length = 0 ∨ s.getD 0 0 = sign) : ev R 49 [.d (.str s), .d (.int .u8 si), .d (.int .i64 low), .d (.int .i64 most)] H = some (headD (headV s sign low most), H) := by
  refine ev_fn (fn := f49) rfl rfl ?_
  obtain ⟨e', he, g0, g1, g2, g3, g11⟩ := l49 (hlen H) s hs si low most H 3 1 [(0, .d (.str s)), (1, .d (.int .u8 si)), (2, .d (.int .i64 low)), (3, .d (.int .i64 most)), (11, .d (.int .i64 1))] rfl rfl rfl rfl rfl rfl
  obtain ⟨k1, k2, k3⟩ := scanK_in s 3 1
  unfold headV
  generalize scanK s 3 1 = K at g11 k1 k2 k3 ⊢
  simp only [headD_ite]
  by_cases hz : s.length = 0
  · have hz' : s = [] := List.eq_nil_of_length_eq_zero hz
    subst hz'
    simp [-List.getD_eq_getElem?_getD, -List.map_map, evBody, evCode, evOps, evOper, evOp, opd, Env.get, Env.put, Env.keep, zipEnv, V.ok, V.sto, V.cells, D.cells, V.isAgg, binD, binInt, binStr, shInt, unD, eqOf, asI, leave, resOf, mapO, fzV, tupOf, view, view1, isData, hand, flatV, flatD, allD, mkAgg, mkVal, beq_lit, IntKind.bits, htake_self, htake_push, hget_hpush_self, hset_push, rowOf_self, okIn, lowIn, lowIn1, fzC_d, fzC_row, f49, he, g0, g1, g2, g3, g11, headD]
  · have k0 : 0 < s.length := by omega
    have k0' : (0 : Int) < (s.length : Int) := by omega
    have hz' : ¬ (s.length : Int) = 0 := by omega
    have nn : ¬ s = [] := fun e => hz (by rw [e]; rfl)
    have A0 := A0.resolve_left hz
    by_cases A : s.getD 0 0 = sign
    · have A' : ((s.getD 0 0).toNat : Int) = si := by rw [A, hsi]
      have A2 : (sign.toNat : Int) = si := hsi.symm
      have w1 : IntKind.i64.wrap ((K : Int) + 1) = (K : Int) + 1 := IntWalk.i64_in _ (by omega)
      have w2 : IntKind.i64.wrap ((K : Int) + 2) = (K : Int) + 2 := IntWalk.i64_in _ (by omega)
      have p72 : pureCall (ev R) 74 [.d (.str ((s.take K).drop 1))] = some (.d (.int .i64 (figV (seg s 1 K)))) := pureCall_eq fun H => e74 H ((s.take K).drop 1) (by simp; omega)
      rw [List.drop_one] at p72
      generalize figV (seg s 1 K) = fv at p72 ⊢
      have pin := p30 fv low most
      by_cases B : K < s.length
      · have B' : (K : Int) < (s.length : Int) := by omega
        by_cases B1 : K = 1
        · subst B1
          have B2 : (1 : Int) < (s.length : Int) := by omega
          simp [-List.getD_eq_getElem?_getD, -List.map_map, evBody, evCode, evOps, evOper, evOp, opd, Env.get, Env.put, Env.keep, zipEnv, V.ok, V.sto, V.cells, D.cells, V.isAgg, binD, binInt, binStr, shInt, unD, eqOf, asI, leave, resOf, mapO, fzV, tupOf, view, view1, isData, hand, flatV, flatD, allD, mkAgg, mkVal, beq_lit, IntKind.bits, htake_self, htake_push, hget_hpush_self, hset_push, rowOf_self, okIn, lowIn, lowIn1, fzC_d, fzC_row, f49, he, g0, g1, g2, g3, g11, headD, hz, hz', nn, k0, k0', A, A', A2, B, B2]
        · have B1' : ¬ (K : Int) = 1 := by omega
          have K1 : 1 < K := by omega
          have K1' : (1 : Int) < (K : Int) := by omega
          have u : ((s.getD K 0).toNat : Int) = 13 ↔ s.getD K 0 = 13 := u8_eq _ 13
          have u10 : ((s.getD (K + 1) 0).toNat : Int) = 10 ↔ s.getD (K + 1) 0 = 10 := u8_eq _ 10
          have tn : ((K : Int) + 1).toNat = K + 1 := by omega
          have kp : (0 : Int) ≤ (K : Int) + 1 := by omega
          have kp1 : (1 : Int) ≤ (K : Int) := by omega
          have kp2 : 1 ≤ K := by omega
          have kle : (K : Int) ≤ (s.length : Int) := by omega
          have kle' : K ≤ s.length := by omega
          by_cases B2 : s.getD K 0 = 13
          · have B2' : ((s.getD K 0).toNat : Int) = 13 := u.2 B2
            by_cases C : K + 1 < s.length
            · have C' : (K : Int) + 1 < (s.length : Int) := by omega
              have C3 : ¬ s.length ≤ K + 1 := by omega
              have C3' : ¬ (s.length : Int) ≤ (K : Int) + 1 := by omega
              by_cases C2 : s.getD (K + 1) 0 = 10
              · have C2' : ((s.getD (K + 1) 0).toNat : Int) = 10 := u10.2 C2
                have q2 : (0 : Int) ≤ (K : Int) + 2 := by omega
                have q3 : (K : Int) + 2 ≤ (s.length : Int) := by omega
                have q4 : ((K : Int) + 2).toNat = K + 2 := by omega
                by_cases D1 : low ≤ fv
                · by_cases D2 : fv ≤ most
                  · simp [-List.getD_eq_getElem?_getD, -List.map_map, evBody, evCode, evOps, evOper, evOp, opd, Env.get, Env.put, Env.keep, zipEnv, V.ok, V.sto, V.cells, D.cells, V.isAgg, binD, binInt, binStr, shInt, unD, eqOf, asI, leave, resOf, mapO, fzV, tupOf, view, view1, isData, hand, flatV, flatD, allD, mkAgg, mkVal, beq_lit, IntKind.bits, htake_self, htake_push, hget_hpush_self, hset_push, rowOf_self, okIn, lowIn, lowIn1, fzC_d, fzC_row, f49, he, g0, g1, g2, g3, g11, headD, hz, hz', nn, k0, k0', A, A', A2, B, B', B1, B1', K1, K1', B2, B2', C, C', C2, C2', C3, C3', p72, pin, D1, D2, tn, kp, kp1, kp2, kle, kle', w1, w2, q2, q3, q4, bound]
                  · simp [-List.getD_eq_getElem?_getD, -List.map_map, evBody, evCode, evOps, evOper, evOp, opd, Env.get, Env.put, Env.keep, zipEnv, V.ok, V.sto, V.cells, D.cells, V.isAgg, binD, binInt, binStr, shInt, unD, eqOf, asI, leave, resOf, mapO, fzV, tupOf, view, view1, isData, hand, flatV, flatD, allD, mkAgg, mkVal, beq_lit, IntKind.bits, htake_self, htake_push, hget_hpush_self, hset_push, rowOf_self, okIn, lowIn, lowIn1, fzC_d, fzC_row, f49, he, g0, g1, g2, g3, g11, headD, hz, hz', nn, k0, k0', A, A', A2, B, B', B1, B1', K1, K1', B2, B2', C, C', C2, C2', C3, C3', p72, pin, D1, D2, tn, kp, kp1, kp2, kle, kle', w1, w2, q2, q3, q4, bound]
                · simp [-List.getD_eq_getElem?_getD, -List.map_map, evBody, evCode, evOps, evOper, evOp, opd, Env.get, Env.put, Env.keep, zipEnv, V.ok, V.sto, V.cells, D.cells, V.isAgg, binD, binInt, binStr, shInt, unD, eqOf, asI, leave, resOf, mapO, fzV, tupOf, view, view1, isData, hand, flatV, flatD, allD, mkAgg, mkVal, beq_lit, IntKind.bits, htake_self, htake_push, hget_hpush_self, hset_push, rowOf_self, okIn, lowIn, lowIn1, fzC_d, fzC_row, f49, he, g0, g1, g2, g3, g11, headD, hz, hz', nn, k0, k0', A, A', A2, B, B', B1, B1', K1, K1', B2, B2', C, C', C2, C2', C3, C3', p72, pin, D1, tn, kp, kp1, kp2, kle, kle', w1, w2, q2, q3, q4, bound]
              · have C2' : ¬ ((s.getD (K + 1) 0).toNat : Int) = 10 := fun h => C2 (u10.1 h)
                simp [-List.getD_eq_getElem?_getD, -List.map_map, evBody, evCode, evOps, evOper, evOp, opd, Env.get, Env.put, Env.keep, zipEnv, V.ok, V.sto, V.cells, D.cells, V.isAgg, binD, binInt, binStr, shInt, unD, eqOf, asI, leave, resOf, mapO, fzV, tupOf, view, view1, isData, hand, flatV, flatD, allD, mkAgg, mkVal, beq_lit, IntKind.bits, htake_self, htake_push, hget_hpush_self, hset_push, rowOf_self, okIn, lowIn, lowIn1, fzC_d, fzC_row, f49, he, g0, g1, g2, g3, g11, headD, hz, hz', nn, k0, k0', A, A', A2, B, B', B1, B1', K1, K1', B2, B2', C, C', C2, C2', tn, kp, w1]
            · have C' : ¬ (K : Int) + 1 < (s.length : Int) := by omega
              have C3 : s.length ≤ K + 1 := by omega
              have C3' : (s.length : Int) ≤ (K : Int) + 1 := by omega
              by_cases D1 : low ≤ fv
              · by_cases D2 : fv ≤ most
                · simp [-List.getD_eq_getElem?_getD, -List.map_map, evBody, evCode, evOps, evOper, evOp, opd, Env.get, Env.put, Env.keep, zipEnv, V.ok, V.sto, V.cells, D.cells, V.isAgg, binD, binInt, binStr, shInt, unD, eqOf, asI, leave, resOf, mapO, fzV, tupOf, view, view1, isData, hand, flatV, flatD, allD, mkAgg, mkVal, beq_lit, IntKind.bits, htake_self, htake_push, hget_hpush_self, hset_push, rowOf_self, okIn, lowIn, lowIn1, fzC_d, fzC_row, f49, he, g0, g1, g2, g3, g11, headD, hz, hz', nn, k0, k0', A, A', A2, B, B', B1, B1', K1, K1', B2, B2', C, C', C3, C3', p72, pin, D1, D2, tn, kp, kp1, kp2, kle, kle', w1, w2, bound]
                · simp [-List.getD_eq_getElem?_getD, -List.map_map, evBody, evCode, evOps, evOper, evOp, opd, Env.get, Env.put, Env.keep, zipEnv, V.ok, V.sto, V.cells, D.cells, V.isAgg, binD, binInt, binStr, shInt, unD, eqOf, asI, leave, resOf, mapO, fzV, tupOf, view, view1, isData, hand, flatV, flatD, allD, mkAgg, mkVal, beq_lit, IntKind.bits, htake_self, htake_push, hget_hpush_self, hset_push, rowOf_self, okIn, lowIn, lowIn1, fzC_d, fzC_row, f49, he, g0, g1, g2, g3, g11, headD, hz, hz', nn, k0, k0', A, A', A2, B, B', B1, B1', K1, K1', B2, B2', C, C', C3, C3', p72, pin, D1, D2, tn, kp, kp1, kp2, kle, kle', w1, w2, bound]
              · simp [-List.getD_eq_getElem?_getD, -List.map_map, evBody, evCode, evOps, evOper, evOp, opd, Env.get, Env.put, Env.keep, zipEnv, V.ok, V.sto, V.cells, D.cells, V.isAgg, binD, binInt, binStr, shInt, unD, eqOf, asI, leave, resOf, mapO, fzV, tupOf, view, view1, isData, hand, flatV, flatD, allD, mkAgg, mkVal, beq_lit, IntKind.bits, htake_self, htake_push, hget_hpush_self, hset_push, rowOf_self, okIn, lowIn, lowIn1, fzC_d, fzC_row, f49, he, g0, g1, g2, g3, g11, headD, hz, hz', nn, k0, k0', A, A', A2, B, B', B1, B1', K1, K1', B2, B2', C, C', C3, C3', p72, pin, D1, tn, kp, kp1, kp2, kle, kle', w1, w2, bound]
          · have B2' : ¬ ((s.getD K 0).toNat : Int) = 13 := fun h => B2 (u.1 h)
            simp [-List.getD_eq_getElem?_getD, -List.map_map, evBody, evCode, evOps, evOper, evOp, opd, Env.get, Env.put, Env.keep, zipEnv, V.ok, V.sto, V.cells, D.cells, V.isAgg, binD, binInt, binStr, shInt, unD, eqOf, asI, leave, resOf, mapO, fzV, tupOf, view, view1, isData, hand, flatV, flatD, allD, mkAgg, mkVal, beq_lit, IntKind.bits, htake_self, htake_push, hget_hpush_self, hset_push, rowOf_self, okIn, lowIn, lowIn1, fzC_d, fzC_row, f49, he, g0, g1, g2, g3, g11, headD, hz, hz', nn, k0, k0', A, A', A2, B, B', B1, B1', K1, K1', B2, B2', kp]
      · have B' : ¬ (K : Int) < (s.length : Int) := by omega
        have C : ¬ K + 1 < s.length := by omega
        have C' : ¬ (K : Int) + 1 < (s.length : Int) := by omega
        have C3 : s.length ≤ K + 1 := by omega
        have C3' : (s.length : Int) ≤ (K : Int) + 1 := by omega
        by_cases B1 : K = 1
        · subst B1
          have C4 : ¬ 1 < s.length := by omega
          have C5 : s.length ≤ 2 := by omega
          have C6 : ¬ 2 < s.length := by omega
          have C7 : ¬ (1 : Int) < (s.length : Int) := by omega
          have C8 : ¬ (2 : Int) < (s.length : Int) := by omega
          have C9 : (s.length : Int) ≤ 2 := by omega
          have w3 : IntKind.i64.wrap 2 = 2 := IntWalk.i64_in _ (by omega)
          simp [-List.getD_eq_getElem?_getD, -List.map_map, evBody, evCode, evOps, evOper, evOp, opd, Env.get, Env.put, Env.keep, zipEnv, V.ok, V.sto, V.cells, D.cells, V.isAgg, binD, binInt, binStr, shInt, unD, eqOf, asI, leave, resOf, mapO, fzV, tupOf, view, view1, isData, hand, flatV, flatD, allD, mkAgg, mkVal, beq_lit, IntKind.bits, htake_self, htake_push, hget_hpush_self, hset_push, rowOf_self, okIn, lowIn, lowIn1, fzC_d, fzC_row, f49, he, g0, g1, g2, g3, g11, headD, hz, hz', nn, k0, k0', A, A', A2, C4, C5, C6, C7, C8, C9, w3]
        · have B1' : ¬ (K : Int) = 1 := by omega
          have K1 : 1 < K := by omega
          have K1' : (1 : Int) < (K : Int) := by omega
          have kp1 : (1 : Int) ≤ (K : Int) := by omega
          have kp2 : 1 ≤ K := by omega
          have kle : (K : Int) ≤ (s.length : Int) := by have := k3 K1; omega
          have kle' : K ≤ s.length := by omega
          by_cases D1 : low ≤ fv
          · by_cases D2 : fv ≤ most
            · simp [-List.getD_eq_getElem?_getD, -List.map_map, evBody, evCode, evOps, evOper, evOp, opd, Env.get, Env.put, Env.keep, zipEnv, V.ok, V.sto, V.cells, D.cells, V.isAgg, binD, binInt, binStr, shInt, unD, eqOf, asI, leave, resOf, mapO, fzV, tupOf, view, view1, isData, hand, flatV, flatD, allD, mkAgg, mkVal, beq_lit, IntKind.bits, htake_self, htake_push, hget_hpush_self, hset_push, rowOf_self, okIn, lowIn, lowIn1, fzC_d, fzC_row, f49, he, g0, g1, g2, g3, g11, headD, hz, hz', nn, k0, k0', A, A', A2, B, B', B1, B1', K1, K1', C, C', C3, C3', p72, pin, D1, D2, kp1, kp2, kle, kle', w1, w2, bound]
            · simp [-List.getD_eq_getElem?_getD, -List.map_map, evBody, evCode, evOps, evOper, evOp, opd, Env.get, Env.put, Env.keep, zipEnv, V.ok, V.sto, V.cells, D.cells, V.isAgg, binD, binInt, binStr, shInt, unD, eqOf, asI, leave, resOf, mapO, fzV, tupOf, view, view1, isData, hand, flatV, flatD, allD, mkAgg, mkVal, beq_lit, IntKind.bits, htake_self, htake_push, hget_hpush_self, hset_push, rowOf_self, okIn, lowIn, lowIn1, fzC_d, fzC_row, f49, he, g0, g1, g2, g3, g11, headD, hz, hz', nn, k0, k0', A, A', A2, B, B', B1, B1', K1, K1', C, C', C3, C3', p72, pin, D1, D2, kp1, kp2, kle, kle', w1, w2, bound]
          · simp [-List.getD_eq_getElem?_getD, -List.map_map, evBody, evCode, evOps, evOper, evOp, opd, Env.get, Env.put, Env.keep, zipEnv, V.ok, V.sto, V.cells, D.cells, V.isAgg, binD, binInt, binStr, shInt, unD, eqOf, asI, leave, resOf, mapO, fzV, tupOf, view, view1, isData, hand, flatV, flatD, allD, mkAgg, mkVal, beq_lit, IntKind.bits, htake_self, htake_push, hget_hpush_self, hset_push, rowOf_self, okIn, lowIn, lowIn1, fzC_d, fzC_row, f49, he, g0, g1, g2, g3, g11, headD, hz, hz', nn, k0, k0', A, A', A2, B, B', B1, B1', K1, K1', C, C', C3, C3', p72, pin, D1, kp1, kp2, kle, kle', w1, w2, bound]
    · exact absurd A0 A
theorem e49 (H : Hp) (s : Txt) (hs : s.length ≤ 1000000000000) (sign : UInt8) (si low most : Int) (hsi : si = sign.toNat) : ev R 49 [.d (.str s), .d (.int .u8 si), .d (.int .i64 low), .d (.int .i64 most)] H = some (headD (headV s sign low most), H) := by
  by_cases hz : s.length = 0
  · exact e49_yes H s hs sign si low most hsi (.inl hz)
  · by_cases A : s.getD 0 0 = sign
    · exact e49_yes H s hs sign si low most hsi (.inr A)
    · exact e49_no H s hs sign si low most hsi hz A
end Go.Proofs.YtpmphmpaeooeeaaDoor.Code

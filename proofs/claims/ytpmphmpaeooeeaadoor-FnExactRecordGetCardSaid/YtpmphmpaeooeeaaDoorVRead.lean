/- The reader of orders under test. -/
import Derived.Test.YtpmphmpaeooeeaaDoorVHead
import Derived.Test.YtpmphmpaeooeeaaDoorVBits
namespace Go.Proofs.YtpmphmpaeooeeaaDoor.Code
open Go Go.Ev Go.Proofs
set_option maxRecDepth 100000
set_option linter.unusedSimpArgs false
set_option linter.unusedVariables false
def wr (s : Txt) (at' : Nat) (sh bd : Bool) : Ev.Obj := .row 0 4 [.d (.agg [.str s, .int .i64 at', .bool sh, .bool bd])]
theorem wr_row {H : Hp} {r : Nat} {s : Txt} {k : Nat} {sh bd : Bool} (h : hget H r = some (wr s k sh bd)) : rowOf H r 0 = some (4, [.d (.agg [.str s, .int .i64 k, .bool sh, .bool bd])]) := by
  simp [rowOf, h, wr]
theorem wr_load {H : Hp} {r : Nat} {s : Txt} {k : Nat} {sh bd : Bool} (h : hget H r = some (wr s k sh bd)) : hload H r 0 0 0 1 = some [.d (.str s)] ∧ hload H r 0 0 1 1 = some [.d (.int .i64 k)] ∧ hload H r 0 0 2 1 = some [.d (.bool sh)] ∧ hload H r 0 0 3 1 = some [.d (.bool bd)] := by
  simp [hload, wr_row h, V.cells]
theorem wr_store1 {H : Hp} {r : Nat} {s : Txt} {k : Nat} {sh bd : Bool} (h : hget H r = some (wr s k sh bd)) (k' : Nat) (z : Int) (hz : z = k') : hstore H r 0 0 1 [.d (.int .i64 z)] = some (hset H r (wr s k' sh bd)) := by
  subst hz
  simp [hstore, wr_row h, V.cells, reCell, V.isAgg, mkAgg, allD, wr]
theorem wr_store2 {H : Hp} {r : Nat} {s : Txt} {k : Nat} {sh bd : Bool} (h : hget H r = some (wr s k sh bd)) (b : Bool) : hstore H r 0 0 2 [.d (.bool b)] = some (hset H r (wr s k b bd)) := by
  simp [hstore, wr_row h, V.cells, reCell, V.isAgg, mkAgg, allD, wr]
theorem wr_store3 {H : Hp} {r : Nat} {s : Txt} {k : Nat} {sh bd : Bool} (h : hget H r = some (wr s k sh bd)) (b : Bool) : hstore H r 0 0 3 [.d (.bool b)] = some (hset H r (wr s k sh b)) := by
  simp [hstore, wr_row h, V.cells, reCell, V.isAgg, mkAgg, allD, wr]
theorem hset_same {H : Hp} {r : Nat} {o : Ev.Obj} (h : hget H r = some o) : hset H r o = H := by
  induction H generalizing r with
  | nil => rfl
  | cons a H ih =>
    cases r with
    | zero => simp only [hget, Option.some.injEq] at h; subst h; rfl
    | succ r => exact congrArg (List.cons a) (ih h)
theorem htake_hset' {H : Hp} {r : Nat} {o : Ev.Obj} : htake (hset H r o) (hlen H) = hset H r o := by
  have := htake_self (hset H r o)
  rwa [hlen_hset] at this
/-- What reading a byte does. -/
def byteV (s : Txt) (k : Nat) (sh bd : Bool) (b : UInt8) : Nat × Bool × Bool :=
  if (sh || bd) = true then (k, sh, bd) else if k = s.length then (k, true, false) else if s.getD k 0 = b then (k + 1, false, false) else (k, false, true)
theorem u8_eq (a b : UInt8) : ((a.toNat : Int) = (b.toNat : Int)) ↔ a = b := by
  constructor
  · intro h; exact UInt8.toNat_inj.1 (by omega)
  · rintro rfl; rfl
theorem e48 (H : Hp) (r : Nat) (s : Txt) (k : Nat) (sh bd : Bool) (b : UInt8) (bi : Int) (hbi : bi = b.toNat) (h : hget H r = some (wr s k sh bd)) (hk : k ≤ s.length) (hs : s.length ≤ 1000000000000) : ev R 48 [.ptr r 0 0 0, .d (.int .u8 bi)] H = some (.tup [], hset H r (wr s (byteV s k sh bd b).1 (byteV s k sh bd b).2.1 (byteV s k sh bd b).2.2)) := by
  refine ev_fn (fn := f48) rfl rfl ?_
  obtain ⟨a0, a1, a2, a3⟩ := wr_load h
  unfold byteV
  by_cases h1 : (sh || bd) = true
  · have same := hset_same h
    cases sh with
    | true => simp [-List.getD_eq_getElem?_getD, -List.map_map, evBody, evCode, evOps, evOper, evOp, opd, Env.get, Env.put, Env.keep, zipEnv, V.ok, V.sto, V.cells, D.cells, V.isAgg, binD, binInt, binStr, shInt, unD, eqOf, asI, leave, resOf, mapO, fzV, tupOf, view, view1, isData, hand, flatV, flatD, allD, mkAgg, mkVal, beq_lit, IntKind.bits, htake_self, htake_push, hget_hpush_self, hset_push, rowOf_self, okIn, lowIn, lowIn1, fzC_d, fzC_row, f48, a0, a1, a2, a3, same]
    | false =>
      simp only [Bool.false_or] at h1
      subst h1
      simp [-List.getD_eq_getElem?_getD, -List.map_map, evBody, evCode, evOps, evOper, evOp, opd, Env.get, Env.put, Env.keep, zipEnv, V.ok, V.sto, V.cells, D.cells, V.isAgg, binD, binInt, binStr, shInt, unD, eqOf, asI, leave, resOf, mapO, fzV, tupOf, view, view1, isData, hand, flatV, flatD, allD, mkAgg, mkVal, beq_lit, IntKind.bits, htake_self, htake_push, hget_hpush_self, hset_push, rowOf_self, okIn, lowIn, lowIn1, fzC_d, fzC_row, f48, a0, a1, a2, a3, same]
  · simp only [Bool.not_eq_true, Bool.or_eq_false_iff] at h1
    obtain ⟨rfl, rfl⟩ := h1
    by_cases h2 : k = s.length
    · have st := wr_store2 h true
      subst h2
      simp [-List.getD_eq_getElem?_getD, -List.map_map, evBody, evCode, evOps, evOper, evOp, opd, Env.get, Env.put, Env.keep, zipEnv, V.ok, V.sto, V.cells, D.cells, V.isAgg, binD, binInt, binStr, shInt, unD, eqOf, asI, leave, resOf, mapO, fzV, tupOf, view, view1, isData, hand, flatV, flatD, allD, mkAgg, mkVal, beq_lit, IntKind.bits, htake_self, htake_push, hget_hpush_self, hset_push, rowOf_self, okIn, lowIn, lowIn1, fzC_d, fzC_row, f48, a0, a1, a2, a3, st, htake_hset']
    · have h2' : ¬ (k : Int) = s.length := by omega
      have c : k < s.length := by omega
      have c' : (k : Int) < s.length := by omega
      by_cases h3 : s.getD k 0 = b
      · have w1 : IntKind.i64.wrap ((k : Int) + 1) = (k : Int) + 1 := IntWalk.i64_in _ (by omega)
        have st := wr_store1 h (k + 1) ((k : Int) + 1) (by omega)
        have h3' : (b.toNat : Int) = bi := hbi.symm
        simp [-List.getD_eq_getElem?_getD, -List.map_map, evBody, evCode, evOps, evOper, evOp, opd, Env.get, Env.put, Env.keep, zipEnv, V.ok, V.sto, V.cells, D.cells, V.isAgg, binD, binInt, binStr, shInt, unD, eqOf, asI, leave, resOf, mapO, fzV, tupOf, view, view1, isData, hand, flatV, flatD, allD, mkAgg, mkVal, beq_lit, IntKind.bits, htake_self, htake_push, hget_hpush_self, hset_push, rowOf_self, okIn, lowIn, lowIn1, fzC_d, fzC_row, f48, a0, a1, a2, a3, st, htake_hset', h2, h2', c, c', h3, h3', w1]
      · have st := wr_store3 h true
        have h3' : ¬ ((s.getD k 0).toNat : Int) = bi := by rw [hbi, u8_eq]; exact h3
        simp [-List.getD_eq_getElem?_getD, -List.map_map, evBody, evCode, evOps, evOper, evOp, opd, Env.get, Env.put, Env.keep, zipEnv, V.ok, V.sto, V.cells, D.cells, V.isAgg, binD, binInt, binStr, shInt, unD, eqOf, asI, leave, resOf, mapO, fzV, tupOf, view, view1, isData, hand, flatV, flatD, allD, mkAgg, mkVal, beq_lit, IntKind.bits, htake_self, htake_push, hget_hpush_self, hset_push, rowOf_self, okIn, lowIn, lowIn1, fzC_d, fzC_row, f48, a0, a1, a2, a3, st, htake_hset', h2, h2', c, c', h3, h3']
/-- Where the figures end: how far, the number, and whether the text broke off or is none. -/
structure Stop (low high : Int) (s : Txt) (k n0 : Nat) (n : Int) (k1 : Nat) (n1 : Int) (sh bd : Bool) : Prop where
  le : k1 ≤ s.length
  ge : n0 ≤ k1
  say : (sh = false ∧ bd = false ∧ (∃ c t, s.drop k1 = c :: t ∧ isDig c = false) ∧ pDig low high (s.drop k) n (decide (k = n0)) = pDig low high (s.drop k1) n1 (decide (k1 = n0))) ∨ (sh = true ∧ bd = false ∧ pDig low high (s.drop k) n (decide (k = n0)) = .short) ∨ (sh = false ∧ bd = true ∧ pDig low high (s.drop k) n (decide (k = n0)) = .bad)
theorem stop47 (n0 : Nat) (r : Nat) (s : Txt) (X : Hp) (k : Nat) (sh bd : Bool) (h : hget X r = some (wr s k sh bd)) (hb : (sh || bd) = true) (low high n z : Int) (e : Env) (h0 : e.get 0 = .ptr r 0 0 0) (h2 : e.get 2 = .d (.int .i64 low)) (h3 : e.get 3 = .d (.int .i64 high)) (h9 : e.get 9 = .d (.int .i64 n)) (h10 : e.get 10 = .d (.int .i64 z)) :
    ∃ e', evLoop (evCode (ev R) R.glob n0 evLoop f47l0) [0, 2, 3, 9, 10] ⟨e, X⟩ = some (.exit 0, ⟨e', X⟩) ∧ e'.get 0 = .ptr r 0 0 0 ∧ e'.get 9 = .d (.int .i64 n) ∧ e'.get 10 = .d (.int .i64 z) := by
  obtain ⟨a0, a1, a2, a3⟩ := wr_load h
  rw [evLoop_eq]
  refine ⟨?_, ?_, ?_, ?_, ?_⟩
  rotate_left
  · cases sh with
    | true =>
      simp [-List.getD_eq_getElem?_getD, -List.map_map, evBody, evCode, evOps, evOper, evOp, opd, Env.get, Env.put, Env.keep, zipEnv, V.ok, V.sto, V.cells, D.cells, V.isAgg, binD, binInt, binStr, shInt, unD, eqOf, asI, leave, resOf, mapO, fzV, tupOf, view, view1, isData, hand, flatV, flatD, allD, mkAgg, mkVal, beq_lit, IntKind.bits, htake_self, htake_push, hget_hpush_self, hset_push, rowOf_self, okIn, lowIn, lowIn1, fzC_d, fzC_row, f47l0, h0, h2, h3, h9, h10, a0, a1, a2, a3]
      try rfl
    | false =>
      simp only [Bool.false_or] at hb
      subst hb
      simp [-List.getD_eq_getElem?_getD, -List.map_map, evBody, evCode, evOps, evOper, evOp, opd, Env.get, Env.put, Env.keep, zipEnv, V.ok, V.sto, V.cells, D.cells, V.isAgg, binD, binInt, binStr, shInt, unD, eqOf, asI, leave, resOf, mapO, fzV, tupOf, view, view1, isData, hand, flatV, flatD, allD, mkAgg, mkVal, beq_lit, IntKind.bits, htake_self, htake_push, hget_hpush_self, hset_push, rowOf_self, okIn, lowIn, lowIn1, fzC_d, fzC_row, f47l0, h0, h2, h3, h9, h10, a0, a1, a2, a3]
      try rfl
  · simp [-List.getD_eq_getElem?_getD, -List.map_map, evBody, evCode, evOps, evOper, evOp, opd, Env.get, Env.put, Env.keep, zipEnv, V.ok, V.sto, V.cells, D.cells, V.isAgg, binD, binInt, binStr, shInt, unD, eqOf, asI, leave, resOf, mapO, fzV, tupOf, view, view1, isData, hand, flatV, flatD, allD, mkAgg, mkVal, beq_lit, IntKind.bits, htake_self, htake_push, hget_hpush_self, hset_push, rowOf_self, okIn, lowIn, lowIn1, fzC_d, fzC_row, h0]
  · simp [-List.getD_eq_getElem?_getD, -List.map_map, evBody, evCode, evOps, evOper, evOp, opd, Env.get, Env.put, Env.keep, zipEnv, V.ok, V.sto, V.cells, D.cells, V.isAgg, binD, binInt, binStr, shInt, unD, eqOf, asI, leave, resOf, mapO, fzV, tupOf, view, view1, isData, hand, flatV, flatD, allD, mkAgg, mkVal, beq_lit, IntKind.bits, htake_self, htake_push, hget_hpush_self, hset_push, rowOf_self, okIn, lowIn, lowIn1, fzC_d, fzC_row, h9]
  · simp [-List.getD_eq_getElem?_getD, -List.map_map, evBody, evCode, evOps, evOper, evOp, opd, Env.get, Env.put, Env.keep, zipEnv, V.ok, V.sto, V.cells, D.cells, V.isAgg, binD, binInt, binStr, shInt, unD, eqOf, asI, leave, resOf, mapO, fzV, tupOf, view, view1, isData, hand, flatV, flatD, allD, mkAgg, mkVal, beq_lit, IntKind.bits, htake_self, htake_push, hget_hpush_self, hset_push, rowOf_self, okIn, lowIn, lowIn1, fzC_d, fzC_row, h10]
def P53 (r : Nat) (s : Txt) (X : Hp) (low high : Int) (from0 k : Nat) (n : Int) (o : Option (Out × St)) : Prop :=
  ∃ e' k1 n1 sh bd, o = some (.exit 0, ⟨e', hset X r (wr s k1 sh bd)⟩) ∧ e'.get 0 = .ptr r 0 0 0 ∧ e'.get 9 = .d (.int .i64 n1) ∧ e'.get 10 = .d (.int .i64 from0) ∧ Stop low high s k from0 n k1 n1 sh bd
theorem l47 (n0 : Nat) (r : Nat) (s : Txt) (low high : Int) (from0 : Nat) (hlow : 0 ≤ low) (hhigh : high ≤ 1000) (hs : s.length ≤ 1000000000000) : ∀ (m : Nat) (X : Hp) (k : Nat) (n : Int) (e : Env), hget X r = some (wr s k false false) → k + m = s.length → from0 ≤ k → 0 ≤ n → n ≤ 1000 → e.get 0 = .ptr r 0 0 0 → e.get 2 = .d (.int .i64 low) → e.get 3 = .d (.int .i64 high) → e.get 9 = .d (.int .i64 n) → e.get 10 = .d (.int .i64 from0) →
    P53 r s X low high from0 k n (evLoop (evCode (ev R) R.glob n0 evLoop f47l0) [0, 2, 3, 9, 10] ⟨e, X⟩)
  | 0, X, k, n, e, h, hk, hf, hn, hn2, h0, h2, h3, h9, h10 => by
    obtain ⟨a0, a1, a2, a3⟩ := wr_load h
    have hk' : k = s.length := by omega
    have st := wr_store2 h true
    have hd : s.drop k = [] := List.drop_of_length_le (by omega)
    subst hk'
    rw [evLoop_eq]
    unfold P53
    refine ⟨?_, s.length, n, true, false, ?_, ?_, ?_, ?_, ⟨Nat.le_refl _, hf, .inr (.inl ⟨rfl, rfl, by rw [hd]; rfl⟩)⟩⟩
    rotate_left
    · simp [-List.getD_eq_getElem?_getD, -List.map_map, evBody, evCode, evOps, evOper, evOp, opd, Env.get, Env.put, Env.keep, zipEnv, V.ok, V.sto, V.cells, D.cells, V.isAgg, binD, binInt, binStr, shInt, unD, eqOf, asI, leave, resOf, mapO, fzV, tupOf, view, view1, isData, hand, flatV, flatD, allD, mkAgg, mkVal, beq_lit, IntKind.bits, htake_self, htake_push, hget_hpush_self, hset_push, rowOf_self, okIn, lowIn, lowIn1, fzC_d, fzC_row, f47l0, h0, h2, h3, h9, h10, a0, a1, a2, a3, st]
      try rfl
    · simp [-List.getD_eq_getElem?_getD, -List.map_map, evBody, evCode, evOps, evOper, evOp, opd, Env.get, Env.put, Env.keep, zipEnv, V.ok, V.sto, V.cells, D.cells, V.isAgg, binD, binInt, binStr, shInt, unD, eqOf, asI, leave, resOf, mapO, fzV, tupOf, view, view1, isData, hand, flatV, flatD, allD, mkAgg, mkVal, beq_lit, IntKind.bits, htake_self, htake_push, hget_hpush_self, hset_push, rowOf_self, okIn, lowIn, lowIn1, fzC_d, fzC_row, h0]
    · simp [-List.getD_eq_getElem?_getD, -List.map_map, evBody, evCode, evOps, evOper, evOp, opd, Env.get, Env.put, Env.keep, zipEnv, V.ok, V.sto, V.cells, D.cells, V.isAgg, binD, binInt, binStr, shInt, unD, eqOf, asI, leave, resOf, mapO, fzV, tupOf, view, view1, isData, hand, flatV, flatD, allD, mkAgg, mkVal, beq_lit, IntKind.bits, htake_self, htake_push, hget_hpush_self, hset_push, rowOf_self, okIn, lowIn, lowIn1, fzC_d, fzC_row, h9]
    · simp [-List.getD_eq_getElem?_getD, -List.map_map, evBody, evCode, evOps, evOper, evOp, opd, Env.get, Env.put, Env.keep, zipEnv, V.ok, V.sto, V.cells, D.cells, V.isAgg, binD, binInt, binStr, shInt, unD, eqOf, asI, leave, resOf, mapO, fzV, tupOf, view, view1, isData, hand, flatV, flatD, allD, mkAgg, mkVal, beq_lit, IntKind.bits, htake_self, htake_push, hget_hpush_self, hset_push, rowOf_self, okIn, lowIn, lowIn1, fzC_d, fzC_row, h10]
  | m + 1, X, k, n, e, h, hk, hf, hn, hn2, h0, h2, h3, h9, h10 => by
    obtain ⟨a0, a1, a2, a3⟩ := wr_load h
    have hkl : k < s.length := by omega
    have c1 : ¬ k = s.length := by omega
    have c1' : ¬ (k : Int) = (s.length : Int) := by omega
    have c2 : (k : Int) < (s.length : Int) := by omega
    obtain ⟨c, hc⟩ : ∃ c, s.getD k 0 = c := ⟨_, rfl⟩
    have hd : s.drop k = c :: s.drop (k + 1) := by
      rw [← hc, List.getD_eq_getElem?_getD, List.getElem?_eq_getElem hkl]
      exact List.drop_eq_getElem_cons hkl
    have hc255 := c.toNat_lt
    cases g : isDig c with
    | false =>
      have same := hset_same h
      rw [evLoop_eq]
      unfold P53
      refine ⟨?_, k, n, false, false, ?_, ?_, ?_, ?_, ⟨by omega, hf, .inl ⟨rfl, rfl, ⟨c, _, hd, g⟩, rfl⟩⟩⟩
      rotate_left
      · rw [same]
        by_cases d1 : (c.toNat : Int) < 48
        · simp [-List.getD_eq_getElem?_getD, -List.map_map, evBody, evCode, evOps, evOper, evOp, opd, Env.get, Env.put, Env.keep, zipEnv, V.ok, V.sto, V.cells, D.cells, V.isAgg, binD, binInt, binStr, shInt, unD, eqOf, asI, leave, resOf, mapO, fzV, tupOf, view, view1, isData, hand, flatV, flatD, allD, mkAgg, mkVal, beq_lit, IntKind.bits, htake_self, htake_push, hget_hpush_self, hset_push, rowOf_self, okIn, lowIn, lowIn1, fzC_d, fzC_row, f47l0, h0, h2, h3, h9, h10, a0, a1, a2, a3, c1, c1', c2, hkl, hc, d1]
          try rfl
        · have d2 : 57 < (c.toNat : Int) := by
            simp only [isDig, Bool.and_eq_false_iff, decide_eq_false_iff_not] at g
            omega
          simp [-List.getD_eq_getElem?_getD, -List.map_map, evBody, evCode, evOps, evOper, evOp, opd, Env.get, Env.put, Env.keep, zipEnv, V.ok, V.sto, V.cells, D.cells, V.isAgg, binD, binInt, binStr, shInt, unD, eqOf, asI, leave, resOf, mapO, fzV, tupOf, view, view1, isData, hand, flatV, flatD, allD, mkAgg, mkVal, beq_lit, IntKind.bits, htake_self, htake_push, hget_hpush_self, hset_push, rowOf_self, okIn, lowIn, lowIn1, fzC_d, fzC_row, f47l0, h0, h2, h3, h9, h10, a0, a1, a2, a3, c1, c1', c2, hkl, hc, d1, d2]
          try rfl
      · simp [-List.getD_eq_getElem?_getD, -List.map_map, evBody, evCode, evOps, evOper, evOp, opd, Env.get, Env.put, Env.keep, zipEnv, V.ok, V.sto, V.cells, D.cells, V.isAgg, binD, binInt, binStr, shInt, unD, eqOf, asI, leave, resOf, mapO, fzV, tupOf, view, view1, isData, hand, flatV, flatD, allD, mkAgg, mkVal, beq_lit, IntKind.bits, htake_self, htake_push, hget_hpush_self, hset_push, rowOf_self, okIn, lowIn, lowIn1, fzC_d, fzC_row, h0]
      · simp [-List.getD_eq_getElem?_getD, -List.map_map, evBody, evCode, evOps, evOper, evOp, opd, Env.get, Env.put, Env.keep, zipEnv, V.ok, V.sto, V.cells, D.cells, V.isAgg, binD, binInt, binStr, shInt, unD, eqOf, asI, leave, resOf, mapO, fzV, tupOf, view, view1, isData, hand, flatV, flatD, allD, mkAgg, mkVal, beq_lit, IntKind.bits, htake_self, htake_push, hget_hpush_self, hset_push, rowOf_self, okIn, lowIn, lowIn1, fzC_d, fzC_row, h9]
      · simp [-List.getD_eq_getElem?_getD, -List.map_map, evBody, evCode, evOps, evOper, evOp, opd, Env.get, Env.put, Env.keep, zipEnv, V.ok, V.sto, V.cells, D.cells, V.isAgg, binD, binInt, binStr, shInt, unD, eqOf, asI, leave, resOf, mapO, fzV, tupOf, view, view1, isData, hand, flatV, flatD, allD, mkAgg, mkVal, beq_lit, IntKind.bits, htake_self, htake_push, hget_hpush_self, hset_push, rowOf_self, okIn, lowIn, lowIn1, fzC_d, fzC_row, h10]
    | true =>
      have b := dig_in g
      have d1 : ¬ (c.toNat : Int) < 48 := by omega
      have d2 : ¬ 57 < (c.toNat : Int) := by omega
      by_cases z : from0 < k ∧ n = 0
      · have st := wr_store3 h true
        obtain ⟨z1, rfl⟩ := z
        have z1' : (from0 : Int) < (k : Int) := by omega
        have z2 : ¬ k = from0 := by omega
        rw [evLoop_eq]
        unfold P53
        refine ⟨?_, k, 0, false, true, ?_, ?_, ?_, ?_, ⟨by omega, hf, .inr (.inr ⟨rfl, rfl, by rw [hd]; simp [pDig, g, z2]⟩)⟩⟩
        rotate_left
        · simp [-List.getD_eq_getElem?_getD, -List.map_map, evBody, evCode, evOps, evOper, evOp, opd, Env.get, Env.put, Env.keep, zipEnv, V.ok, V.sto, V.cells, D.cells, V.isAgg, binD, binInt, binStr, shInt, unD, eqOf, asI, leave, resOf, mapO, fzV, tupOf, view, view1, isData, hand, flatV, flatD, allD, mkAgg, mkVal, beq_lit, IntKind.bits, htake_self, htake_push, hget_hpush_self, hset_push, rowOf_self, okIn, lowIn, lowIn1, fzC_d, fzC_row, f47l0, h0, h2, h3, h9, h10, a0, a1, a2, a3, c1, c1', c2, hkl, hc, d1, d2, z1, z1', st]
          try rfl
        · simp [-List.getD_eq_getElem?_getD, -List.map_map, evBody, evCode, evOps, evOper, evOp, opd, Env.get, Env.put, Env.keep, zipEnv, V.ok, V.sto, V.cells, D.cells, V.isAgg, binD, binInt, binStr, shInt, unD, eqOf, asI, leave, resOf, mapO, fzV, tupOf, view, view1, isData, hand, flatV, flatD, allD, mkAgg, mkVal, beq_lit, IntKind.bits, htake_self, htake_push, hget_hpush_self, hset_push, rowOf_self, okIn, lowIn, lowIn1, fzC_d, fzC_row, h0]
        · simp [-List.getD_eq_getElem?_getD, -List.map_map, evBody, evCode, evOps, evOper, evOp, opd, Env.get, Env.put, Env.keep, zipEnv, V.ok, V.sto, V.cells, D.cells, V.isAgg, binD, binInt, binStr, shInt, unD, eqOf, asI, leave, resOf, mapO, fzV, tupOf, view, view1, isData, hand, flatV, flatD, allD, mkAgg, mkVal, beq_lit, IntKind.bits, htake_self, htake_push, hget_hpush_self, hset_push, rowOf_self, okIn, lowIn, lowIn1, fzC_d, fzC_row, h9]
        · simp [-List.getD_eq_getElem?_getD, -List.map_map, evBody, evCode, evOps, evOper, evOp, opd, Env.get, Env.put, Env.keep, zipEnv, V.ok, V.sto, V.cells, D.cells, V.isAgg, binD, binInt, binStr, shInt, unD, eqOf, asI, leave, resOf, mapO, fzV, tupOf, view, view1, isData, hand, flatV, flatD, allD, mkAgg, mkVal, beq_lit, IntKind.bits, htake_self, htake_push, hget_hpush_self, hset_push, rowOf_self, okIn, lowIn, lowIn1, fzC_d, fzC_row, h10]
      · have w1 : IntKind.i64.wrap (10 * n) = 10 * n := IntWalk.i64_in _ (by omega)
        have w2 : IntKind.u8.wrap ((c.toNat : Int) - 48) = (c.toNat : Int) - 48 := IntWalk.u8_in _ (by omega)
        have w3 : IntKind.i64.wrap ((c.toNat : Int) - 48) = (c.toNat : Int) - 48 := IntWalk.i64_in _ (by omega)
        have w4 : IntKind.i64.wrap (10 * n + ((c.toNat : Int) - 48)) = digV n c := by unfold digV; exact IntWalk.i64_in _ (by omega)
        have w5 : IntKind.i64.wrap ((k : Int) + 1) = (k : Int) + 1 := IntWalk.i64_in _ (by omega)
        have p := p34 (digV n c) low high
        have z1 : (if decide (k = from0) = false ∧ n = 0 then Res.bad else if low ≤ digV n c ∧ digV n c ≤ high then pDig low high (s.drop (k + 1)) (digV n c) false else .bad) = (if low ≤ digV n c ∧ digV n c ≤ high then pDig low high (s.drop (k + 1)) (digV n c) false else .bad) := by
          rw [if_neg]
          rintro ⟨q1, q2⟩
          simp only [decide_eq_false_iff_not] at q1
          exact z ⟨by omega, q2⟩
        have st1 := wr_store1 h (k + 1) ((k : Int) + 1) (by omega)
        have hr := hget_lt h
        have kn : (decide (k + 1 = from0)) = false := by simp; omega
        by_cases win : low ≤ digV n c ∧ digV n c ≤ high
        · have ih := l47 n0 r s low high from0 hlow hhigh hs m (hset X r (wr s (k + 1) false false)) (k + 1) (digV n c)
          rw [evLoop_eq]
          generalize evLoop (evCode (ev R) R.glob n0 evLoop f47l0) [0, 2, 3, 9, 10] = F at ih ⊢
          have key : ∀ e, e.get 0 = .ptr r 0 0 0 → e.get 2 = .d (.int .i64 low) → e.get 3 = .d (.int .i64 high) → e.get 9 = .d (.int .i64 (digV n c)) → e.get 10 = .d (.int .i64 from0) → P53 r s X low high from0 k n (F ⟨e, hset X r (wr s (k + 1) false false)⟩) := by
            intro e g0 g2 g3 g9 g10
            obtain ⟨e', k1, n1, sh, bd, he, q0, q9, q10, st⟩ := ih e (hget_hset_self _ hr) (by omega) (by omega) (by omega) (by omega) g0 g2 g3 g9 g10
            rw [hset_hset] at he
            refine ⟨e', k1, n1, sh, bd, he, q0, q9, q10, st.le, by have := st.ge; omega, ?_⟩
            have say := st.say
            rw [kn] at say
            rw [hd]
            simp only [pDig, g, if_true]
            rw [z1, if_pos win]
            exact say
          obtain ⟨win1, win2⟩ := win
          by_cases z0 : from0 < k
          · have z0' : (from0 : Int) < (k : Int) := by omega
            have z2 : ¬ n = 0 := fun q => z ⟨z0, q⟩
            simp [-List.getD_eq_getElem?_getD, -List.map_map, evBody, evCode, evOps, evOper, evOp, opd, Env.get, Env.put, Env.keep, zipEnv, V.ok, V.sto, V.cells, D.cells, V.isAgg, binD, binInt, binStr, shInt, unD, eqOf, asI, leave, resOf, mapO, fzV, tupOf, view, view1, isData, hand, flatV, flatD, allD, mkAgg, mkVal, beq_lit, IntKind.bits, htake_self, htake_push, hget_hpush_self, hset_push, rowOf_self, okIn, lowIn, lowIn1, fzC_d, fzC_row, f47l0, h0, h2, h3, h9, h10, a0, a1, a2, a3, c1, c1', c2, hkl, hc, d1, d2, z0, z0', z2, w1, w2, w3, w4, w5, p, win1, win2, st1]
            refine key _ ?_ ?_ ?_ ?_ ?_ <;> rfl
          · have z0' : ¬ (from0 : Int) < (k : Int) := by omega
            simp [-List.getD_eq_getElem?_getD, -List.map_map, evBody, evCode, evOps, evOper, evOp, opd, Env.get, Env.put, Env.keep, zipEnv, V.ok, V.sto, V.cells, D.cells, V.isAgg, binD, binInt, binStr, shInt, unD, eqOf, asI, leave, resOf, mapO, fzV, tupOf, view, view1, isData, hand, flatV, flatD, allD, mkAgg, mkVal, beq_lit, IntKind.bits, htake_self, htake_push, hget_hpush_self, hset_push, rowOf_self, okIn, lowIn, lowIn1, fzC_d, fzC_row, f47l0, h0, h2, h3, h9, h10, a0, a1, a2, a3, c1, c1', c2, hkl, hc, d1, d2, z0, z0', w1, w2, w3, w4, w5, p, win1, win2, st1]
            refine key _ ?_ ?_ ?_ ?_ ?_ <;> rfl
        · have st3 := wr_store3 h true
          have hY : hget (hset X r (wr s k false true)) r = some (wr s k false true) := hget_hset_self _ hr
          obtain ⟨y0, y1, y2, y3⟩ := wr_load hY
          have st4 := wr_store1 hY (k + 1) ((k : Int) + 1) (by omega)
          rw [hset_hset] at st4
          have stop := stop47 n0 r s (hset X r (wr s (k + 1) false true)) (k + 1) false true (hget_hset_self _ hr) rfl low high (digV n c) from0
          rw [evLoop_eq]
          generalize evLoop (evCode (ev R) R.glob n0 evLoop f47l0) [0, 2, 3, 9, 10] = F at stop ⊢
          have key : ∀ e, e.get 0 = .ptr r 0 0 0 → e.get 2 = .d (.int .i64 low) → e.get 3 = .d (.int .i64 high) → e.get 9 = .d (.int .i64 (digV n c)) → e.get 10 = .d (.int .i64 from0) → P53 r s X low high from0 k n (F ⟨e, hset X r (wr s (k + 1) false true)⟩) := by
            intro e g0 g2 g3 g9 g10
            obtain ⟨e', he, q0, q9, q10⟩ := stop e g0 g2 g3 g9 g10
            refine ⟨e', k + 1, digV n c, false, true, he, q0, q9, q10, by omega, by omega, .inr (.inr ⟨rfl, rfl, ?_⟩)⟩
            rw [hd]
            simp only [pDig, g, if_true]
            rw [z1, if_neg win]
          have win' : (decide (digV n c ≥ low) && decide (digV n c ≤ high)) = false := by
            by_cases q : low ≤ digV n c
            · have : ¬ digV n c ≤ high := fun q2 => win ⟨q, q2⟩
              simp [this]
            · simp [q]
          rw [win'] at p
          by_cases z0 : from0 < k
          · have z0' : (from0 : Int) < (k : Int) := by omega
            have z2 : ¬ n = 0 := fun q => z ⟨z0, q⟩
            simp [-List.getD_eq_getElem?_getD, -List.map_map, evBody, evCode, evOps, evOper, evOp, opd, Env.get, Env.put, Env.keep, zipEnv, V.ok, V.sto, V.cells, D.cells, V.isAgg, binD, binInt, binStr, shInt, unD, eqOf, asI, leave, resOf, mapO, fzV, tupOf, view, view1, isData, hand, flatV, flatD, allD, mkAgg, mkVal, beq_lit, IntKind.bits, htake_self, htake_push, hget_hpush_self, hset_push, rowOf_self, okIn, lowIn, lowIn1, fzC_d, fzC_row, f47l0, h0, h2, h3, h9, h10, a0, a1, a2, a3, c1, c1', c2, hkl, hc, d1, d2, z0, z0', z2, w1, w2, w3, w4, w5, p, st3, y0, y1, y2, y3, st4]
            refine key _ ?_ ?_ ?_ ?_ ?_ <;> rfl
          · have z0' : ¬ (from0 : Int) < (k : Int) := by omega
            simp [-List.getD_eq_getElem?_getD, -List.map_map, evBody, evCode, evOps, evOper, evOp, opd, Env.get, Env.put, Env.keep, zipEnv, V.ok, V.sto, V.cells, D.cells, V.isAgg, binD, binInt, binStr, shInt, unD, eqOf, asI, leave, resOf, mapO, fzV, tupOf, view, view1, isData, hand, flatV, flatD, allD, mkAgg, mkVal, beq_lit, IntKind.bits, htake_self, htake_push, hget_hpush_self, hset_push, rowOf_self, okIn, lowIn, lowIn1, fzC_d, fzC_row, f47l0, h0, h2, h3, h9, h10, a0, a1, a2, a3, c1, c1', c2, hkl, hc, d1, d2, z0, z0', w1, w2, w3, w4, w5, p, st3, y0, y1, y2, y3, st4]
            refine key _ ?_ ?_ ?_ ?_ ?_ <;> rfl
/-- What a number's reader leaves. -/
def Says (p : Res Int) (s : Txt) (n : Int) (k : Nat) (sh bd : Bool) : Prop :=
  match p with
  | .ok m rest => m = n ∧ rest = s.drop k ∧ sh = false ∧ bd = false
  | .short => sh = true ∧ bd = false
  | .bad => sh = false ∧ bd = true
theorem drop_cons {s : Txt} {k : Nat} (hk : k < s.length) : s.drop k = s.getD k 0 :: s.drop (k + 1) := by
  rw [List.getD_eq_getElem?_getD, List.getElem?_eq_getElem hk]
  exact List.drop_eq_getElem_cons hk
theorem byteV_le {s : Txt} {k : Nat} {sh bd : Bool} {b : UInt8} (hk : k ≤ s.length) : (byteV s k sh bd b).1 ≤ s.length := by
  unfold byteV
  repeat' split
  all_goals (simp only; omega)
theorem e47 (H : Hp) (r : Nat) (s : Txt) (k : Nat) (mark : UInt8) (mi low high : Int) (hm : mi = mark.toNat) (hlow : 0 ≤ low) (hhigh : high ≤ 1000) (h : hget H r = some (wr s k false false)) (hk : k ≤ s.length) (hs : s.length ≤ 1000000000) :
    ∃ n k' sh bd, ev R 47 [.ptr r 0 0 0, .d (.int .u8 mi), .d (.int .i64 low), .d (.int .i64 high)] H = some (.d (.int .i64 n), hset H r (wr s k' sh bd)) ∧ k' ≤ s.length ∧ Says (pNum mark low high (s.drop k)) s n k' sh bd := by
  have hr := hget_lt h
  have A : ∀ k sh bd, hget (hset H r (wr s k sh bd)) r = some (wr s k sh bd) := fun k sh bd => hget_hset_self _ hr
  have q0 := e48 H r s k false false mark mi hm h hk (by omega)
  have B : ∀ (k : Nat) (sh bd : Bool) (b : UInt8) (bi : Int), bi = b.toNat → k ≤ s.length → ev R 48 [.ptr r 0 0 0, .d (.int .u8 bi)] (hset H r (wr s k sh bd)) = some (.tup [], hset H r (wr s (byteV s k sh bd b).1 (byteV s k sh bd b).2.1 (byteV s k sh bd b).2.2)) := fun k sh bd b bi hb hk => by
    have := e48 (hset H r (wr s k sh bd)) r s k sh bd b bi hb (A k sh bd) hk (by omega)
    rwa [hset_hset] at this
  have kb := byteV_le (sh := false) (bd := false) (b := mark) hk
  have LOOP : ∃ e' k1 n1 sh bd, evLoop (evCode (ev R) R.glob (hlen H) evLoop f47l0) [0, 2, 3, 9, 10] ⟨[(0, .ptr r 0 0 0), (2, .d (.int .i64 low)), (3, .d (.int .i64 high)), (9, .d (.int .i64 0)), (10, .d (.int .i64 (byteV s k false false mark).1))], hset H r (wr s (byteV s k false false mark).1 (byteV s k false false mark).2.1 (byteV s k false false mark).2.2)⟩ = some (.exit 0, ⟨e', hset H r (wr s k1 sh bd)⟩) ∧ e'.get 0 = .ptr r 0 0 0 ∧ e'.get 9 = .d (.int .i64 n1) ∧ e'.get 10 = .d (.int .i64 (byteV s k false false mark).1) ∧ k1 ≤ s.length ∧
      ((sh = false ∧ bd = false ∧ (∃ c t, s.drop k1 = c :: t ∧ isDig c = false) ∧ pNum mark low high (s.drop k) = pDig low high (s.drop k1) n1 (decide (k1 = (byteV s k false false mark).1))) ∨ (sh = true ∧ bd = false ∧ pNum mark low high (s.drop k) = .short) ∨ (sh = false ∧ bd = true ∧ pNum mark low high (s.drop k) = .bad)) := by
    by_cases h1 : k = s.length
    · have e : byteV s k false false mark = (k, true, false) := by simp [byteV, h1]
      rw [e]
      obtain ⟨e', he, g0, g9, g10⟩ := stop47 (hlen H) r s _ k true false (A k true false) rfl low high 0 k [(0, .ptr r 0 0 0), (2, .d (.int .i64 low)), (3, .d (.int .i64 high)), (9, .d (.int .i64 0)), (10, .d (.int .i64 k))] rfl rfl rfl rfl rfl
      exact ⟨e', k, 0, true, false, he, g0, g9, g10, hk, .inr (.inl ⟨rfl, rfl, by rw [List.drop_of_length_le (by omega)]; rfl⟩)⟩
    · have hd := drop_cons (s := s) (k := k) (by omega)
      by_cases h2 : s.getD k 0 = mark
      · have e : byteV s k false false mark = (k + 1, false, false) := by simp [byteV, h1, h2, -List.getD_eq_getElem?_getD]
        rw [e]
        obtain ⟨e', k1, n1, sh, bd, he, g0, g9, g10, st⟩ := l47 (hlen H) r s low high (k + 1) hlow hhigh (by omega) (s.length - (k + 1)) _ (k + 1) 0 [(0, .ptr r 0 0 0), (2, .d (.int .i64 low)), (3, .d (.int .i64 high)), (9, .d (.int .i64 0)), (10, .d (.int .i64 ((k + 1 : Nat) : Int)))] (A (k + 1) false false) (by omega) (by omega) (by omega) (by omega) rfl rfl rfl rfl rfl
        rw [hset_hset] at he
        have hp : pNum mark low high (s.drop k) = pDig low high (s.drop (k + 1)) 0 true := by
          rw [hd, h2]; simp [pNum, pByte, Res.bind]
        have say := st.say
        simp only [decide_true] at say
        rw [← hp] at say
        exact ⟨e', k1, n1, sh, bd, he, g0, g9, g10, st.le, say⟩
      · have e : byteV s k false false mark = (k, false, true) := by simp [byteV, h1, h2, -List.getD_eq_getElem?_getD]
        rw [e]
        obtain ⟨e', he, g0, g9, g10⟩ := stop47 (hlen H) r s _ k false true (A k false true) rfl low high 0 k [(0, .ptr r 0 0 0), (2, .d (.int .i64 low)), (3, .d (.int .i64 high)), (9, .d (.int .i64 0)), (10, .d (.int .i64 k))] rfl rfl rfl rfl rfl
        exact ⟨e', k, 0, false, true, he, g0, g9, g10, hk, .inr (.inr ⟨rfl, rfl, by rw [hd]; simp [pNum, pByte, Res.bind, h2, -List.getD_eq_getElem?_getD]⟩)⟩
  generalize byteV s k false false mark = K at q0 kb LOOP
  obtain ⟨e', k1, n1, sh, bd, he, g0, g9, g10, k1l, say⟩ := LOOP
  obtain ⟨a0, a1, a2, a3⟩ := wr_load (A K.1 K.2.1 K.2.2)
  obtain ⟨b0, b1, b2, b3⟩ := wr_load (A k1 sh bd)
  have T : ∀ v k2 s2 d2, ev R 47 [.ptr r 0 0 0, .d (.int .u8 mi), .d (.int .i64 low), .d (.int .i64 high)] H = some (v, hset H r (wr s k2 s2 d2)) → v = .d (.int .i64 n1) → k2 ≤ s.length → Says (pNum mark low high (s.drop k)) s n1 k2 s2 d2 → ∃ n k' sh bd, ev R 47 [.ptr r 0 0 0, .d (.int .u8 mi), .d (.int .i64 low), .d (.int .i64 high)] H = some (.d (.int .i64 n), hset H r (wr s k' sh bd)) ∧ k' ≤ s.length ∧ Says (pNum mark low high (s.drop k)) s n k' sh bd := fun v k2 s2 d2 e1 e2 e3 e4 => by
    subst e2
    exact ⟨n1, k2, s2, d2, e1, e3, e4⟩
  by_cases hf : k1 = K.1
  · have hf' : (k1 : Int) = (K.1 : Int) := by omega
    by_cases hsh : sh = true
    · subst hsh
      have p13 := B k1 true bd 13 13 rfl k1l
      have e13 : byteV s k1 true bd 13 = (k1, true, bd) := by simp [byteV]
      rw [e13] at p13
      have p10 := B k1 true bd 10 10 rfl k1l
      have e10 : byteV s k1 true bd 10 = (k1, true, bd) := by simp [byteV]
      rw [e10] at p10
      refine T _ k1 true bd (ev_fn (fn := f47) rfl rfl ?_) rfl k1l ?_
      · simp [-List.getD_eq_getElem?_getD, -List.map_map, evBody, evCode, evOps, evOper, evOp, opd, Env.get, Env.put, Env.keep, zipEnv, V.ok, V.sto, V.cells, D.cells, V.isAgg, binD, binInt, binStr, shInt, unD, eqOf, asI, leave, resOf, mapO, fzV, tupOf, view, view1, isData, hand, flatV, flatD, allD, mkAgg, mkVal, beq_lit, IntKind.bits, htake_self, htake_push, hget_hpush_self, hset_push, rowOf_self, okIn, lowIn, lowIn1, fzC_d, fzC_row, f47, q0, a0, a1, a2, a3, he, g0, g9, g10, b0, b1, b2, b3, hf', p13, p10, htake_hset']
      · rcases say with ⟨x, _⟩ | ⟨_, y, z⟩ | ⟨x, _⟩
        · cases x
        · rw [z]; exact ⟨rfl, y⟩
        · cases x
    · have hsh' : sh = false := by simpa using hsh
      subst hsh'
      have st := wr_store3 (A k1 false bd) true
      rw [hset_hset] at st
      have p13 := B k1 false true 13 13 rfl k1l
      have e13 : byteV s k1 false true 13 = (k1, false, true) := by simp [byteV]
      rw [e13] at p13
      have p10 := B k1 false true 10 10 rfl k1l
      have e10 : byteV s k1 false true 10 = (k1, false, true) := by simp [byteV]
      rw [e10] at p10
      refine T _ k1 false true (ev_fn (fn := f47) rfl rfl ?_) rfl k1l ?_
      · simp [-List.getD_eq_getElem?_getD, -List.map_map, evBody, evCode, evOps, evOper, evOp, opd, Env.get, Env.put, Env.keep, zipEnv, V.ok, V.sto, V.cells, D.cells, V.isAgg, binD, binInt, binStr, shInt, unD, eqOf, asI, leave, resOf, mapO, fzV, tupOf, view, view1, isData, hand, flatV, flatD, allD, mkAgg, mkVal, beq_lit, IntKind.bits, htake_self, htake_push, hget_hpush_self, hset_push, rowOf_self, okIn, lowIn, lowIn1, fzC_d, fzC_row, f47, q0, a0, a1, a2, a3, he, g0, g9, g10, b0, b1, b2, b3, hf', st, p13, p10, htake_hset']
      · rcases say with ⟨_, _, ⟨c, t, w1, w2⟩, z⟩ | ⟨x, _⟩ | ⟨_, y, z⟩
        · rw [z, w1, hf]
          simp [pDig, w2, Says]
        · cases x
        · rw [z]; exact ⟨rfl, rfl⟩
  · have hf' : ¬ (k1 : Int) = (K.1 : Int) := by omega
    obtain ⟨k13, s13, d13, e13⟩ : ∃ k' s' d', byteV s k1 sh bd 13 = (k', s', d') := ⟨_, _, _, rfl⟩
    have l13 : k13 ≤ s.length := by have := byteV_le (s := s) (sh := sh) (bd := bd) (b := 13) k1l; rw [e13] at this; exact this
    have p13 := B k1 sh bd 13 13 rfl k1l
    rw [e13] at p13
    obtain ⟨k10, s10, d10, e10⟩ : ∃ k' s' d', byteV s k13 s13 d13 10 = (k', s', d') := ⟨_, _, _, rfl⟩
    have l10 : k10 ≤ s.length := by have := byteV_le (s := s) (sh := s13) (bd := d13) (b := 10) l13; rw [e10] at this; exact this
    have p10 := B k13 s13 d13 10 10 rfl l13
    rw [e10] at p10
    refine T _ k10 s10 d10 (ev_fn (fn := f47) rfl rfl ?_) rfl l10 ?_
    · simp [-List.getD_eq_getElem?_getD, -List.map_map, evBody, evCode, evOps, evOper, evOp, opd, Env.get, Env.put, Env.keep, zipEnv, V.ok, V.sto, V.cells, D.cells, V.isAgg, binD, binInt, binStr, shInt, unD, eqOf, asI, leave, resOf, mapO, fzV, tupOf, view, view1, isData, hand, flatV, flatD, allD, mkAgg, mkVal, beq_lit, IntKind.bits, htake_self, htake_push, hget_hpush_self, hset_push, rowOf_self, okIn, lowIn, lowIn1, fzC_d, fzC_row, f47, q0, a0, a1, a2, a3, he, g0, g9, g10, b0, b1, b2, b3, hf', p13, p10, htake_hset']
    · rcases say with ⟨rfl, rfl, ⟨c, t, w1, w2⟩, z⟩ | ⟨rfl, rfl, z⟩ | ⟨rfl, rfl, z⟩
      · have kl : k1 < s.length := by
          apply Classical.byContradiction
          intro hn
          rw [List.drop_of_length_le (by omega)] at w1
          cases w1
        have hd := drop_cons kl
        have hc : s.getD k1 0 = c := by rw [hd] at w1; exact (List.cons.inj w1).1
        have hkf : decide (k1 = K.1) = false := by simpa using hf
        rw [z, hkf, hd, hc]
        have n1' : ¬ k1 = s.length := by omega
        by_cases c13 : c = 13
        · subst c13
          have : byteV s k1 false false 13 = (k1 + 1, false, false) := by simp [byteV, n1', hc, -List.getD_eq_getElem?_getD]
          rw [this] at e13
          cases e13
          simp only [pDig, w2, Bool.false_eq_true, if_false, if_true]
          by_cases q : k1 + 1 = s.length
          · have : byteV s (k1 + 1) false false 10 = (k1 + 1, true, false) := by simp [byteV, q]
            rw [this] at e10
            cases e10
            rw [List.drop_of_length_le (by omega)]
            exact ⟨rfl, rfl⟩
          · have hd2 := drop_cons (s := s) (k := k1 + 1) (by omega)
            rw [hd2]
            by_cases c10 : s.getD (k1 + 1) 0 = 10
            · have : byteV s (k1 + 1) false false 10 = (k1 + 1 + 1, false, false) := by simp [byteV, q, c10, -List.getD_eq_getElem?_getD]
              rw [this] at e10
              cases e10
              simp [pByte, c10, Res.bind, Says, -List.getD_eq_getElem?_getD]
            · have : byteV s (k1 + 1) false false 10 = (k1 + 1, false, true) := by simp [byteV, q, c10, -List.getD_eq_getElem?_getD]
              rw [this] at e10
              cases e10
              simp [pByte, c10, Res.bind, Says, -List.getD_eq_getElem?_getD]
        · have : byteV s k1 false false 13 = (k1, false, true) := by simp [byteV, n1', hc, c13, -List.getD_eq_getElem?_getD]
          rw [this] at e13
          cases e13
          have : byteV s k1 false true 10 = (k1, false, true) := by simp [byteV]
          rw [this] at e10
          cases e10
          simp [pDig, w2, c13, Says]
      · have : byteV s k1 true false 13 = (k1, true, false) := by simp [byteV]
        rw [this] at e13
        cases e13
        have : byteV s k1 true false 10 = (k1, true, false) := by simp [byteV]
        rw [this] at e10
        cases e10
        rw [z]; exact ⟨rfl, rfl⟩
      · have : byteV s k1 false true 13 = (k1, false, true) := by simp [byteV]
        rw [this] at e13
        cases e13
        have : byteV s k1 false true 10 = (k1, false, true) := by simp [byteV]
        rw [this] at e10
        cases e10
        rw [z]; exact ⟨rfl, rfl⟩
end Go.Proofs.YtpmphmpaeooeeaaDoor.Code

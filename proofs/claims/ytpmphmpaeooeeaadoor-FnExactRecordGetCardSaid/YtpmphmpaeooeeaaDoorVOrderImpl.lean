/- Reading a whole order: the code under test. -/
import Derived.Test.YtpmphmpaeooeeaaDoorVOrderGet
namespace Go.Proofs.YtpmphmpaeooeeaaDoor.Code
open Go Go.Ev Go.Proofs
set_option maxRecDepth 100000
set_option linter.unusedSimpArgs false
set_option linter.unusedVariables false
/-- The two objects of a reading: the reader and the list. -/
def two (H : Hp) (s : Txt) (k : Nat) (sh bd : Bool) (g : Nat) (ts : List Txt) : Hp := hpush (hpush H (wr s k sh bd)) (rowT g ts)
theorem two_get (H : Hp) (s : Txt) (k : Nat) (sh bd : Bool) (g : Nat) (ts : List Txt) : hget (two H s k sh bd g ts) (hlen H) = some (wr s k sh bd) := by
  unfold two
  rw [hget_hpush_lt _ (by rw [hlen_hpush]; omega), hget_hpush_self]
theorem two_set (H : Hp) (s : Txt) (k k' : Nat) (sh bd sh' bd' : Bool) (g : Nat) (ts : List Txt) : hset (two H s k sh bd g ts) (hlen H) (wr s k' sh' bd') = two H s k' sh' bd' g ts := by
  unfold two
  rw [hset_push_lt (by rw [hlen_hpush]; omega), hset_push]
theorem two_len (H : Hp) (s : Txt) (k : Nat) (sh bd : Bool) : hlen (hpush H (wr s k sh bd)) = hlen H + 1 := hlen_hpush _ _
/-- What the loop over the items leaves. -/
def QItems (H : Hp) (s : Txt) (ts : List Txt) (p : Res (List Txt)) (o : Option (Out × St)) : Prop :=
  ∃ e' g k sh bd ys, o = some (.exit 0, ⟨e', two H s k sh bd g ys⟩) ∧ e'.get 4 = .ptr (hlen H) 0 0 0 ∧ e'.get 6 = .slc (hlen H + 1) g 0 ys.length ∧ k ≤ s.length ∧
    (match p with | .ok xs r => ys = ts ++ xs ∧ r = s.drop k ∧ sh = false ∧ bd = false | .short => sh = true ∧ bd = false | .bad => sh = false ∧ bd = true)
theorem stop16 (n0 : Nat) (s : Txt) (H : Hp) (k : Nat) (sh bd : Bool) (hb : (sh || bd) = true) (g : Nat) (ts : List Txt) (N i : Int) (e : Env) (h0 : e.get 0 = .d (.str s)) (h4 : e.get 4 = .ptr (hlen H) 0 0 0) (h5 : e.get 5 = .d (.int .i64 N)) (h6 : e.get 6 = .slc (hlen H + 1) g 0 ts.length) (h7 : e.get 7 = .d (.int .i64 i)) :
    ∃ e', evLoop (evCode (ev R) R.glob n0 evLoop f16l0) [0, 4, 5, 6, 7] ⟨e, two H s k sh bd g ts⟩ = some (.exit 0, ⟨e', two H s k sh bd g ts⟩) ∧ e'.get 4 = .ptr (hlen H) 0 0 0 ∧ e'.get 6 = .slc (hlen H + 1) g 0 ts.length := by
  obtain ⟨a0, a1, a2, a3⟩ := wr_load (two_get H s k sh bd g ts)
  rw [evLoop_eq]
  refine ⟨?_, ?_, ?_, ?_⟩
  rotate_left
  · by_cases c : i < N
    · cases sh with
      | true =>
        simp [-List.getD_eq_getElem?_getD, -List.map_map, evBody, evCode, evOps, evOper, evOp, opd, Env.get, Env.put, Env.keep, zipEnv, V.ok, V.sto, V.cells, D.cells, V.isAgg, binD, binInt, binStr, shInt, unD, eqOf, asI, leave, resOf, mapO, fzV, tupOf, view, view1, isData, hand, flatV, flatD, allD, mkAgg, mkVal, beq_lit, IntKind.bits, htake_self, htake_push, hget_hpush_self, hset_push, rowOf_self, okIn, lowIn, lowIn1, fzC_d, fzC_row, f16l0, h0, h4, h5, h6, h7, a0, a1, a2, a3, c]
        try rfl
      | false =>
        simp only [Bool.false_or] at hb
        subst hb
        simp [-List.getD_eq_getElem?_getD, -List.map_map, evBody, evCode, evOps, evOper, evOp, opd, Env.get, Env.put, Env.keep, zipEnv, V.ok, V.sto, V.cells, D.cells, V.isAgg, binD, binInt, binStr, shInt, unD, eqOf, asI, leave, resOf, mapO, fzV, tupOf, view, view1, isData, hand, flatV, flatD, allD, mkAgg, mkVal, beq_lit, IntKind.bits, htake_self, htake_push, hget_hpush_self, hset_push, rowOf_self, okIn, lowIn, lowIn1, fzC_d, fzC_row, f16l0, h0, h4, h5, h6, h7, a0, a1, a2, a3, c]
        try rfl
    · simp [-List.getD_eq_getElem?_getD, -List.map_map, evBody, evCode, evOps, evOper, evOp, opd, Env.get, Env.put, Env.keep, zipEnv, V.ok, V.sto, V.cells, D.cells, V.isAgg, binD, binInt, binStr, shInt, unD, eqOf, asI, leave, resOf, mapO, fzV, tupOf, view, view1, isData, hand, flatV, flatD, allD, mkAgg, mkVal, beq_lit, IntKind.bits, htake_self, htake_push, hget_hpush_self, hset_push, rowOf_self, okIn, lowIn, lowIn1, fzC_d, fzC_row, f16l0, h0, h4, h5, h6, h7, a0, a1, a2, a3, c]
      try rfl
  · simp [-List.getD_eq_getElem?_getD, -List.map_map, evBody, evCode, evOps, evOper, evOp, opd, Env.get, Env.put, Env.keep, zipEnv, V.ok, V.sto, V.cells, D.cells, V.isAgg, binD, binInt, binStr, shInt, unD, eqOf, asI, leave, resOf, mapO, fzV, tupOf, view, view1, isData, hand, flatV, flatD, allD, mkAgg, mkVal, beq_lit, IntKind.bits, htake_self, htake_push, hget_hpush_self, hset_push, rowOf_self, okIn, lowIn, lowIn1, fzC_d, fzC_row, h4]
  · simp [-List.getD_eq_getElem?_getD, -List.map_map, evBody, evCode, evOps, evOper, evOp, opd, Env.get, Env.put, Env.keep, zipEnv, V.ok, V.sto, V.cells, D.cells, V.isAgg, binD, binInt, binStr, shInt, unD, eqOf, asI, leave, resOf, mapO, fzV, tupOf, view, view1, isData, hand, flatV, flatD, allD, mkAgg, mkVal, beq_lit, IntKind.bits, htake_self, htake_push, hget_hpush_self, hset_push, rowOf_self, okIn, lowIn, lowIn1, fzC_d, fzC_row, h6]
theorem l16 (n0 : Nat) (s : Txt) (H : Hp) (hs : s.length ≤ 1000000000) (hn0 : n0 ≤ hlen H) (N : Int) (hN : N ≤ 8) : ∀ (m i g k : Nat) (ts : List Txt) (e : Env), (i : Int) + m = N → ts.length + m ≤ 8 → k ≤ s.length → e.get 0 = .d (.str s) → e.get 4 = .ptr (hlen H) 0 0 0 → e.get 5 = .d (.int .i64 N) → e.get 6 = .slc (hlen H + 1) g 0 ts.length → e.get 7 = .d (.int .i64 i) →
    QItems H s ts (pItems m (s.drop k)) (evLoop (evCode (ev R) R.glob n0 evLoop f16l0) [0, 4, 5, 6, 7] ⟨e, two H s k false false g ts⟩)
  | 0, i, g, k, ts, e, hi, hl, hk, h0, h4, h5, h6, h7 => by
    have c : ¬ (i : Int) < N := by omega
    obtain ⟨a0, a1, a2, a3⟩ := wr_load (two_get H s k false false g ts)
    rw [evLoop_eq]
    unfold QItems
    refine ⟨?_, g, k, false, false, ts, ?_, ?_, ?_, hk, by simp [pItems]⟩
    rotate_left
    · skip
      simp [-List.getD_eq_getElem?_getD, -List.map_map, evBody, evCode, evOps, evOper, evOp, opd, Env.get, Env.put, Env.keep, zipEnv, V.ok, V.sto, V.cells, D.cells, V.isAgg, binD, binInt, binStr, shInt, unD, eqOf, asI, leave, resOf, mapO, fzV, tupOf, view, view1, isData, hand, flatV, flatD, allD, mkAgg, mkVal, beq_lit, IntKind.bits, htake_self, htake_push, hget_hpush_self, hset_push, rowOf_self, okIn, lowIn, lowIn1, fzC_d, fzC_row, f16l0, h0, h4, h5, h6, h7, c, a0, a1, a2, a3]
      try rfl
    · simp [-List.getD_eq_getElem?_getD, -List.map_map, evBody, evCode, evOps, evOper, evOp, opd, Env.get, Env.put, Env.keep, zipEnv, V.ok, V.sto, V.cells, D.cells, V.isAgg, binD, binInt, binStr, shInt, unD, eqOf, asI, leave, resOf, mapO, fzV, tupOf, view, view1, isData, hand, flatV, flatD, allD, mkAgg, mkVal, beq_lit, IntKind.bits, htake_self, htake_push, hget_hpush_self, hset_push, rowOf_self, okIn, lowIn, lowIn1, fzC_d, fzC_row, h4]
    · simp [-List.getD_eq_getElem?_getD, -List.map_map, evBody, evCode, evOps, evOper, evOp, opd, Env.get, Env.put, Env.keep, zipEnv, V.ok, V.sto, V.cells, D.cells, V.isAgg, binD, binInt, binStr, shInt, unD, eqOf, asI, leave, resOf, mapO, fzV, tupOf, view, view1, isData, hand, flatV, flatD, allD, mkAgg, mkVal, beq_lit, IntKind.bits, htake_self, htake_push, hget_hpush_self, hset_push, rowOf_self, okIn, lowIn, lowIn1, fzC_d, fzC_row, h6]
  | m + 1, i, g, k, ts, e, hi, hl, hk, h0, h4, h5, h6, h7 => by
    have c : (i : Int) < N := by omega
    obtain ⟨a0, a1, a2, a3⟩ := wr_load (two_get H s k false false g ts)
    obtain ⟨n, k1, sh, bd, q53, kl, say⟩ := e47 (two H s k false false g ts) (hlen H) s k 36 36 0 40 rfl (by omega) (by omega) (two_get H s k false false g ts) hk hs
    rw [two_set] at q53
    obtain ⟨b0, b1, b2, b3⟩ := wr_load (two_get H s k1 sh bd g ts)
    simp only [pItems, pItem]
    cases hp : pNum 36 0 40 (s.drop k) with
    | short =>
      rw [hp] at say
      obtain ⟨rfl, rfl⟩ := say
      simp only [Res.bind]
      rw [evLoop_eq]
      unfold QItems
      refine ⟨?_, g, k1, true, false, ts, ?_, ?_, ?_, kl, rfl, rfl⟩
      rotate_left
      · skip
        simp [-List.getD_eq_getElem?_getD, -List.map_map, evBody, evCode, evOps, evOper, evOp, opd, Env.get, Env.put, Env.keep, zipEnv, V.ok, V.sto, V.cells, D.cells, V.isAgg, binD, binInt, binStr, shInt, unD, eqOf, asI, leave, resOf, mapO, fzV, tupOf, view, view1, isData, hand, flatV, flatD, allD, mkAgg, mkVal, beq_lit, IntKind.bits, htake_self, htake_push, hget_hpush_self, hset_push, rowOf_self, okIn, lowIn, lowIn1, fzC_d, fzC_row, f16l0, h0, h4, h5, h6, h7, c, a0, a1, a2, a3, q53, b0, b1, b2, b3]
        try rfl
      · simp [-List.getD_eq_getElem?_getD, -List.map_map, evBody, evCode, evOps, evOper, evOp, opd, Env.get, Env.put, Env.keep, zipEnv, V.ok, V.sto, V.cells, D.cells, V.isAgg, binD, binInt, binStr, shInt, unD, eqOf, asI, leave, resOf, mapO, fzV, tupOf, view, view1, isData, hand, flatV, flatD, allD, mkAgg, mkVal, beq_lit, IntKind.bits, htake_self, htake_push, hget_hpush_self, hset_push, rowOf_self, okIn, lowIn, lowIn1, fzC_d, fzC_row, h4]
      · simp [-List.getD_eq_getElem?_getD, -List.map_map, evBody, evCode, evOps, evOper, evOp, opd, Env.get, Env.put, Env.keep, zipEnv, V.ok, V.sto, V.cells, D.cells, V.isAgg, binD, binInt, binStr, shInt, unD, eqOf, asI, leave, resOf, mapO, fzV, tupOf, view, view1, isData, hand, flatV, flatD, allD, mkAgg, mkVal, beq_lit, IntKind.bits, htake_self, htake_push, hget_hpush_self, hset_push, rowOf_self, okIn, lowIn, lowIn1, fzC_d, fzC_row, h6]
    | bad =>
      rw [hp] at say
      obtain ⟨rfl, rfl⟩ := say
      simp only [Res.bind]
      rw [evLoop_eq]
      unfold QItems
      refine ⟨?_, g, k1, false, true, ts, ?_, ?_, ?_, kl, rfl, rfl⟩
      rotate_left
      · skip
        simp [-List.getD_eq_getElem?_getD, -List.map_map, evBody, evCode, evOps, evOper, evOp, opd, Env.get, Env.put, Env.keep, zipEnv, V.ok, V.sto, V.cells, D.cells, V.isAgg, binD, binInt, binStr, shInt, unD, eqOf, asI, leave, resOf, mapO, fzV, tupOf, view, view1, isData, hand, flatV, flatD, allD, mkAgg, mkVal, beq_lit, IntKind.bits, htake_self, htake_push, hget_hpush_self, hset_push, rowOf_self, okIn, lowIn, lowIn1, fzC_d, fzC_row, f16l0, h0, h4, h5, h6, h7, c, a0, a1, a2, a3, q53, b0, b1, b2, b3]
        try rfl
      · simp [-List.getD_eq_getElem?_getD, -List.map_map, evBody, evCode, evOps, evOper, evOp, opd, Env.get, Env.put, Env.keep, zipEnv, V.ok, V.sto, V.cells, D.cells, V.isAgg, binD, binInt, binStr, shInt, unD, eqOf, asI, leave, resOf, mapO, fzV, tupOf, view, view1, isData, hand, flatV, flatD, allD, mkAgg, mkVal, beq_lit, IntKind.bits, htake_self, htake_push, hget_hpush_self, hset_push, rowOf_self, okIn, lowIn, lowIn1, fzC_d, fzC_row, h4]
      · simp [-List.getD_eq_getElem?_getD, -List.map_map, evBody, evCode, evOps, evOper, evOp, opd, Env.get, Env.put, Env.keep, zipEnv, V.ok, V.sto, V.cells, D.cells, V.isAgg, binD, binInt, binStr, shInt, unD, eqOf, asI, leave, resOf, mapO, fzV, tupOf, view, view1, isData, hand, flatV, flatD, allD, mkAgg, mkVal, beq_lit, IntKind.bits, htake_self, htake_push, hget_hpush_self, hset_push, rowOf_self, okIn, lowIn, lowIn1, fzC_d, fzC_row, h6]
    | ok z rest =>
      rw [hp] at say
      obtain ⟨rfl, rfl, rfl, rfl⟩ := say
      obtain ⟨j, rfl, jl, jh, _⟩ := num_in 36 0 40 (by omega) (by omega) _ _ _ hp
      simp only [Res.bind, Int.toNat_natCast, pTake]
      have w1 : IntKind.i64.wrap ((s.length : Int) - (k1 : Int)) = (s.length : Int) - (k1 : Int) := IntWalk.i64_in _ (by omega)
      have dl : (s.drop k1).length = s.length - k1 := by simp
      by_cases short : (s.drop k1).length < j
      · have a4 : (s.length : Int) - (k1 : Int) < (j : Int) := by omega
        have st := wr_store2 (two_get H s k1 false false g ts) true
        rw [two_set] at st
        rw [if_pos short]
        simp only [Res.bind]
        rw [evLoop_eq]
        unfold QItems
        refine ⟨?_, g, k1, true, false, ts, ?_, ?_, ?_, kl, rfl, rfl⟩
        rotate_left
        · skip
          simp [-List.getD_eq_getElem?_getD, -List.map_map, evBody, evCode, evOps, evOper, evOp, opd, Env.get, Env.put, Env.keep, zipEnv, V.ok, V.sto, V.cells, D.cells, V.isAgg, binD, binInt, binStr, shInt, unD, eqOf, asI, leave, resOf, mapO, fzV, tupOf, view, view1, isData, hand, flatV, flatD, allD, mkAgg, mkVal, beq_lit, IntKind.bits, htake_self, htake_push, hget_hpush_self, hset_push, rowOf_self, okIn, lowIn, lowIn1, fzC_d, fzC_row, f16l0, h0, h4, h5, h6, h7, c, a0, a1, a2, a3, q53, b0, b1, b2, b3, w1, a4, st]
          try rfl
        · simp [-List.getD_eq_getElem?_getD, -List.map_map, evBody, evCode, evOps, evOper, evOp, opd, Env.get, Env.put, Env.keep, zipEnv, V.ok, V.sto, V.cells, D.cells, V.isAgg, binD, binInt, binStr, shInt, unD, eqOf, asI, leave, resOf, mapO, fzV, tupOf, view, view1, isData, hand, flatV, flatD, allD, mkAgg, mkVal, beq_lit, IntKind.bits, htake_self, htake_push, hget_hpush_self, hset_push, rowOf_self, okIn, lowIn, lowIn1, fzC_d, fzC_row, h4]
        · simp [-List.getD_eq_getElem?_getD, -List.map_map, evBody, evCode, evOps, evOper, evOp, opd, Env.get, Env.put, Env.keep, zipEnv, V.ok, V.sto, V.cells, D.cells, V.isAgg, binD, binInt, binStr, shInt, unD, eqOf, asI, leave, resOf, mapO, fzV, tupOf, view, view1, isData, hand, flatV, flatD, allD, mkAgg, mkVal, beq_lit, IntKind.bits, htake_self, htake_push, hget_hpush_self, hset_push, rowOf_self, okIn, lowIn, lowIn1, fzC_d, fzC_row, h6]
      · have a4 : ¬ (s.length : Int) - (k1 : Int) < (j : Int) := by omega
        rw [if_neg short]
        simp only [Res.bind]
        have w2 : IntKind.i64.wrap ((k1 : Int) + (j : Int)) = (k1 : Int) + (j : Int) := IntWalk.i64_in _ (by omega)
        have w3 : IntKind.i64.wrap ((i : Int) + 1) = ((i + 1 : Nat) : Int) := by rw [IntWalk.i64_in _ (by omega)]; rfl
        have t1 : ((k1 : Int) + (j : Int)).toNat = k1 + j := by omega
        have p1 : (0 : Int) ≤ (k1 : Int) + (j : Int) := by omega
        have p2 : (k1 : Int) + (j : Int) ≤ (s.length : Int) := by omega
        have p3 : (k1 : Int) ≤ (k1 : Int) + (j : Int) := by omega
        have p4 : k1 ≤ k1 + j := by omega
        have cut : (s.take (k1 + j)).drop k1 = (s.drop k1).take j := by
          rw [List.drop_take]; congr 1; omega
        have dd : (s.drop k1).drop j = s.drop (k1 + j) := by rw [List.drop_drop]
        rw [dd]
        -- the list grows, the reader goes on
        have r1 : rowOf (two H s k1 false false g ts) (hlen H + 1) g = some (1, (ts.map D.str).map V.d) := by
          unfold two
          exact rowT_row (two_len H s k1 false false).symm
        have r2 : hset (two H s k1 false false g ts) (hlen H + 1) (.row (g + 1) 1 ((ts.map D.str).map V.d ++ [.d (.str ((s.drop k1).take j))])) = two H s k1 false false (g + 1) (ts ++ [(s.drop k1).take j]) := by
          unfold two
          exact rowT_set (two_len H s k1 false false).symm _
        obtain ⟨x, hx⟩ : ∃ x, (s.drop k1).take j = x := ⟨_, rfl⟩
        rw [hx] at cut r2 ⊢
        have rm : (ts.length + 1) * 16 ≤ room := by unfold room; omega
        have lx : (ts ++ [x]).length = ts.length + 1 := by simp
        obtain ⟨d0, d1, d2, d3⟩ := wr_load (two_get H s k1 false false (g + 1) (ts ++ [x]))
        have st := wr_store1 (two_get H s k1 false false (g + 1) (ts ++ [x])) (k1 + j) ((k1 : Int) + (j : Int)) (by omega)
        rw [two_set] at st
        have k2l : k1 + j ≤ s.length := by omega
        obtain ⟨k13, s13, d13, e13⟩ : ∃ k' s' d', byteV s (k1 + j) false false 13 = (k', s', d') := ⟨_, _, _, rfl⟩
        have l13 : k13 ≤ s.length := by have := byteV_le (s := s) (sh := false) (bd := false) (b := 13) k2l; rw [e13] at this; exact this
        have q13 := e48 (two H s (k1 + j) false false (g + 1) (ts ++ [x])) (hlen H) s (k1 + j) false false 13 13 rfl (two_get ..) k2l (by omega)
        rw [e13, two_set] at q13
        obtain ⟨k10, s10, d10, e10⟩ : ∃ k' s' d', byteV s k13 s13 d13 10 = (k', s', d') := ⟨_, _, _, rfl⟩
        have l10 : k10 ≤ s.length := by have := byteV_le (s := s) (sh := s13) (bd := d13) (b := 10) l13; rw [e10] at this; exact this
        have q10 := e48 (two H s k13 s13 d13 (g + 1) (ts ++ [x])) (hlen H) s k13 s13 d13 10 10 rfl (two_get ..) l13 (by omega)
        rw [e10, two_set] at q10
        -- what the two bytes say
        have say2 : (s10 = false ∧ d10 = false ∧ pEnd x (s.drop (k1 + j)) = .ok x (s.drop k10)) ∨ (s10 = true ∧ d10 = false ∧ pEnd x (s.drop (k1 + j)) = .short) ∨ (s10 = false ∧ d10 = true ∧ pEnd x (s.drop (k1 + j)) = .bad) := by
          have gd : ∀ o, (s.drop (k1 + j)).getD o 0 = s.getD (k1 + j + o) 0 := fun o => by simp [List.getD_eq_getElem?_getD]
          have ld : (s.drop (k1 + j)).length = s.length - (k1 + j) := by simp
          have g0 := gd 0
          have g1 := gd 1
          rcases end_cases x (s.drop (k1 + j)) with ⟨f1, f2⟩ | ⟨c1, t', f1, f3, f2⟩ | ⟨f1, f2⟩ | ⟨c1, t', f1, f3, f2⟩ | ⟨t', f1, f2⟩
          · rw [f1] at ld
            simp only [List.length_nil] at ld
            have : byteV s (k1 + j) false false 13 = (k1 + j, true, false) := by simp [byteV]; omega
            rw [this] at e13; cases e13
            have : byteV s (k1 + j) true false 10 = (k1 + j, true, false) := by simp [byteV]
            rw [this] at e10; cases e10
            exact .inr (.inl ⟨rfl, rfl, f2⟩)
          · rw [f1] at ld g0
            simp only [List.length_cons, List.getD_cons_zero, Nat.add_zero] at ld g0
            have nl : ¬ k1 + j = s.length := by omega
            have ne : ¬ s.getD (k1 + j) 0 = 13 := by rw [← g0]; exact f3
            have : byteV s (k1 + j) false false 13 = (k1 + j, false, true) := by simp only [byteV]; rw [if_neg (by simp), if_neg nl, if_neg ne]
            rw [this] at e13; cases e13
            have : byteV s (k1 + j) false true 10 = (k1 + j, false, true) := by simp [byteV]
            rw [this] at e10; cases e10
            exact .inr (.inr ⟨rfl, rfl, f2⟩)
          · rw [f1] at ld g0
            simp only [List.length_cons, List.length_nil, List.getD_cons_zero, Nat.add_zero] at ld g0
            have nl : ¬ k1 + j = s.length := by omega
            have : byteV s (k1 + j) false false 13 = (k1 + j + 1, false, false) := by simp only [byteV]; rw [if_neg (by simp), if_neg nl, if_pos g0.symm]
            rw [this] at e13; cases e13
            have : byteV s (k1 + j + 1) false false 10 = (k1 + j + 1, true, false) := by simp only [byteV]; rw [if_neg (by simp), if_pos (by omega)]
            rw [this] at e10; cases e10
            exact .inr (.inl ⟨rfl, rfl, f2⟩)
          · rw [f1] at ld g0 g1
            simp only [List.length_cons, List.getD_cons_zero, List.getD_cons_succ, Nat.add_zero] at ld g0 g1
            have nl : ¬ k1 + j = s.length := by omega
            have : byteV s (k1 + j) false false 13 = (k1 + j + 1, false, false) := by simp only [byteV]; rw [if_neg (by simp), if_neg nl, if_pos g0.symm]
            rw [this] at e13; cases e13
            have ne : ¬ s.getD (k1 + j + 1) 0 = 10 := by rw [← g1]; exact f3
            have : byteV s (k1 + j + 1) false false 10 = (k1 + j + 1, false, true) := by simp only [byteV]; rw [if_neg (by simp), if_neg (by omega), if_neg ne]
            rw [this] at e10; cases e10
            exact .inr (.inr ⟨rfl, rfl, f2⟩)
          · have dd2 : s.drop (k1 + j + 2) = t' := by
              have : (s.drop (k1 + j)).drop 2 = s.drop (k1 + j + 2) := by rw [List.drop_drop]
              rw [← this, f1]; rfl
            rw [f1] at ld g0 g1
            simp only [List.length_cons, List.getD_cons_zero, List.getD_cons_succ, Nat.add_zero] at ld g0 g1
            have nl : ¬ k1 + j = s.length := by omega
            have : byteV s (k1 + j) false false 13 = (k1 + j + 1, false, false) := by simp only [byteV]; rw [if_neg (by simp), if_neg nl, if_pos g0.symm]
            rw [this] at e13; cases e13
            have : byteV s (k1 + j + 1) false false 10 = (k1 + j + 1 + 1, false, false) := by simp only [byteV]; rw [if_neg (by simp), if_neg (by omega), if_pos g1.symm]
            rw [this] at e10; cases e10
            refine .inl ⟨rfl, rfl, ?_⟩
            rw [f2, ← dd2]
        have ih := l16 n0 s H hs hn0 N hN m (i + 1) (g + 1) k10 (ts ++ [x])
        have stop := fun hb => stop16 n0 s H k10 s10 d10 hb (g + 1) (ts ++ [x]) N ((i + 1 : Nat) : Int)
        rw [lx] at ih stop
        rw [evLoop_eq]
        generalize evLoop (evCode (ev R) R.glob n0 evLoop f16l0) [0, 4, 5, 6, 7] = F at ih stop ⊢
        have key : ∀ e, e.get 0 = .d (.str s) → e.get 4 = .ptr (hlen H) 0 0 0 → e.get 5 = .d (.int .i64 N) → e.get 6 = .slc (hlen H + 1) (g + 1) 0 (ts.length + 1) → e.get 7 = .d (.int .i64 ((i + 1 : Nat) : Int)) → QItems H s ts ((pEnd x (s.drop (k1 + j))).bind fun x r => (pItems m r).bind fun xs r' => .ok (x :: xs) r') (F ⟨e, two H s k10 s10 d10 (g + 1) (ts ++ [x])⟩) := by
          intro e g0 g4 g5 g6 g7
          rcases say2 with ⟨rfl, rfl, f2⟩ | ⟨rfl, rfl, f2⟩ | ⟨rfl, rfl, f2⟩
          · rw [f2]
            simp only [Res.bind]
            have h := ih e (by omega) (by omega) l10 g0 g4 g5 g6 g7
            cases hq : pItems m (s.drop k10) with
            | short => rw [hq] at h; exact h
            | bad => rw [hq] at h; exact h
            | ok xs r' =>
              rw [hq] at h
              obtain ⟨e', g', k', sh', bd', ys, o1, o2, o3, o4, o5, o6⟩ := h
              exact ⟨e', g', k', sh', bd', ys, o1, o2, o3, o4, by rw [o5]; simp, o6⟩
          · rw [f2]
            obtain ⟨e', he, q4, q6⟩ := stop rfl e g0 g4 g5 g6 g7
            exact ⟨e', g + 1, k10, true, false, ts ++ [x], he, q4, by rw [lx]; exact q6, l10, rfl, rfl⟩
          · rw [f2]
            obtain ⟨e', he, q4, q6⟩ := stop rfl e g0 g4 g5 g6 g7
            exact ⟨e', g + 1, k10, false, true, ts ++ [x], he, q4, by rw [lx]; exact q6, l10, rfl, rfl⟩
        show QItems H s ts ((pEnd x (s.drop (k1 + j))).bind fun x r => (pItems m r).bind fun xs r' => Res.ok (x :: xs) r') _
        generalize ((pEnd x (s.drop (k1 + j))).bind fun x r => (pItems m r).bind fun xs r' => Res.ok (x :: xs) r') = PP at key ⊢
        clear ih stop say2
        simp [-List.getD_eq_getElem?_getD, -List.map_map, evBody, evCode, evOps, evOper, evOp, opd, Env.get, Env.put, Env.keep, zipEnv, V.ok, V.sto, V.cells, D.cells, V.isAgg, binD, binInt, binStr, shInt, unD, eqOf, asI, leave, resOf, mapO, fzV, tupOf, view, view1, isData, hand, flatV, flatD, allD, mkAgg, mkVal, beq_lit, IntKind.bits, htake_self, htake_push, hget_hpush_self, hset_push, rowOf_self, okIn, lowIn, lowIn1, fzC_d, fzC_row, f16l0, h0, h4, h5, h6, h7, c, a0, a1, a2, a3, q53, b0, b1, b2, b3, w1, w2, w3, a4, t1, p1, p2, p3, p4, cut, r1, r2, rm, src, d0, d1, d2, d3, st, q13, q10, bound, kl]
        refine key _ ?_ ?_ ?_ ?_ ?_ <;> rfl
theorem two_take (H : Hp) (s : Txt) (k : Nat) (sh bd : Bool) (g : Nat) (ts : List Txt) : htake (two H s k sh bd g ts) (hlen H) = H := by
  simp [two, htake, hpush, hlen]
theorem two_row (H : Hp) (s : Txt) (k : Nat) (sh bd : Bool) (g : Nat) (ts : List Txt) : rowOf (two H s k sh bd g ts) (hlen H + 1) g = some (1, (ts.map D.str).map V.d) := by
  unfold two
  exact rowT_row (two_len H s k sh bd).symm
/-- What the code under test says of a text: the list is a row of its own. -/
def v16 (H : Hp) (s : Txt) : V × Hp :=
  match pOrder s with
  | .ok xs r => (.tup [.slc (hlen H) 0 0 xs.length, .d (.int .i64 (ordN s))], hpush H (rowT 0 xs))
  | _ => (.tup [.d (.vals 1 []), .d (.int .i64 (ordN s))], H)
theorem e16 (H : Hp) (s : Txt) (hs : s.length ≤ 1000000000) : ev R 16 [.d (.str s)] H = some (v16 H s) := by
  refine ev_fn (fn := f16) rfl rfl ?_
  obtain ⟨n, k1, sh, bd, q53, kl, say⟩ := e47 (hpush H (wr s 0 false false)) (hlen H) s 0 42 42 1 8 rfl (by omega) (by omega) (hget_hpush_self _ _) (by omega) hs
  rw [hset_push] at q53
  rw [List.drop_zero] at say
  have e0 : hpush (hpush H (wr s k1 sh bd)) (.row 0 1 []) = two H s k1 sh bd 0 [] := rfl
  have ew : Ev.Obj.row 0 4 [.d (.agg [.str s, .int .i64 0, .bool false, .bool false])] = wr s 0 false false := rfl
  have hl1 := two_len H s k1 sh bd
  -- the loop
  have L : QItems H s [] (pOrder s) (evLoop (evCode (ev R) R.glob (hlen H) evLoop f16l0) [0, 4, 5, 6, 7] ⟨[(0, .d (.str s)), (4, .ptr (hlen H) 0 0 0), (5, .d (.int .i64 n)), (6, .slc (hlen H + 1) 0 0 0), (7, .d (.int .i64 0))], two H s k1 sh bd 0 []⟩) := by
    unfold pOrder
    cases hp : pNum 42 1 8 s with
    | short =>
      rw [hp] at say
      obtain ⟨rfl, rfl⟩ := say
      obtain ⟨e', he, g4, g6⟩ := stop16 (hlen H) s H k1 true false rfl 0 [] n 0 [(0, .d (.str s)), (4, .ptr (hlen H) 0 0 0), (5, .d (.int .i64 n)), (6, .slc (hlen H + 1) 0 0 0), (7, .d (.int .i64 0))] rfl rfl rfl rfl rfl
      exact ⟨e', 0, k1, true, false, [], he, g4, g6, kl, rfl, rfl⟩
    | bad =>
      rw [hp] at say
      obtain ⟨rfl, rfl⟩ := say
      obtain ⟨e', he, g4, g6⟩ := stop16 (hlen H) s H k1 false true rfl 0 [] n 0 [(0, .d (.str s)), (4, .ptr (hlen H) 0 0 0), (5, .d (.int .i64 n)), (6, .slc (hlen H + 1) 0 0 0), (7, .d (.int .i64 0))] rfl rfl rfl rfl rfl
      exact ⟨e', 0, k1, false, true, [], he, g4, g6, kl, rfl, rfl⟩
    | ok z rest =>
      obtain ⟨N, rfl, nl, nh, rl⟩ := num_in 42 1 8 (by omega) (by omega) s rest z hp
      rw [hp] at say
      obtain ⟨rfl, rfl, rfl, rfl⟩ := say
      simp only [Res.bind, Int.toNat_natCast]
      exact l16 (hlen H) s H hs (Nat.le_refl _) N nh N 0 0 k1 [] _ (by omega) (by simp; omega) kl rfl rfl rfl rfl rfl
  obtain ⟨e', g, k, s2, b2, ys, he, g4, g6, kl2, out⟩ := L
  obtain ⟨a0, a1, a2, a3⟩ := wr_load (two_get H s k s2 b2 g ys)
  have tk := two_take H s k s2 b2 g ys
  have tr := two_row H s k s2 b2 g ys
  have ad := allD_d (ys.map D.str)
  unfold v16 ordN
  cases hq : pOrder s with
  | short =>
    rw [hq] at out
    obtain ⟨rfl, rfl⟩ := out
    simp [-List.getD_eq_getElem?_getD, -List.map_map, evBody, evCode, evOps, evOper, evOp, opd, Env.get, Env.put, Env.keep, zipEnv, V.ok, V.sto, V.cells, D.cells, V.isAgg, binD, binInt, binStr, shInt, unD, eqOf, asI, leave, resOf, mapO, fzV, tupOf, view, view1, isData, hand, flatV, flatD, allD, mkAgg, mkVal, beq_lit, IntKind.bits, htake_self, htake_push, hget_hpush_self, hset_push, rowOf_self, okIn, lowIn, lowIn1, fzC_d, fzC_row, f16, fills, setAt, ew, q53, e0, hl1, he, g4, g6, a0, a1, a2, a3, tk, ownL, ownCs, own1, ownEs, ownEl, layer]
  | bad =>
    rw [hq] at out
    obtain ⟨rfl, rfl⟩ := out
    simp [-List.getD_eq_getElem?_getD, -List.map_map, evBody, evCode, evOps, evOper, evOp, opd, Env.get, Env.put, Env.keep, zipEnv, V.ok, V.sto, V.cells, D.cells, V.isAgg, binD, binInt, binStr, shInt, unD, eqOf, asI, leave, resOf, mapO, fzV, tupOf, view, view1, isData, hand, flatV, flatD, allD, mkAgg, mkVal, beq_lit, IntKind.bits, htake_self, htake_push, hget_hpush_self, hset_push, rowOf_self, okIn, lowIn, lowIn1, fzC_d, fzC_row, f16, fills, setAt, ew, q53, e0, hl1, he, g4, g6, a0, a1, a2, a3, tk, ownL, ownCs, own1, ownEs, ownEl, layer]
  | ok xs r =>
    rw [hq] at out
    obtain ⟨rfl, rfl, rfl, rfl⟩ := out
    have q : ((s.length : Int) - ((s.drop k).length : Int)) = (k : Int) := by simp; omega
    have nl : ¬ hlen H + 1 < hlen H := by omega
    have e1 : Ev.Obj.row 0 1 ((ys.map D.str).map V.d) = rowT 0 ys := rfl
    simp only [List.nil_append] at *
    generalize (ys.map D.str).map V.d = vs at tr ad e1
    simp [-List.getD_eq_getElem?_getD, -List.map_map, evBody, evCode, evOps, evOper, evOp, opd, Env.get, Env.put, Env.keep, zipEnv, V.ok, V.sto, V.cells, D.cells, V.isAgg, binD, binInt, binStr, shInt, unD, eqOf, asI, leave, resOf, mapO, fzV, tupOf, view, view1, isData, hand, flatV, flatD, allD, mkAgg, mkVal, beq_lit, IntKind.bits, htake_self, htake_push, hget_hpush_self, hset_push, rowOf_self, okIn, lowIn, lowIn1, fzC_d, fzC_row, f16, fills, setAt, ew, q53, e0, hl1, he, g4, g6, a0, a1, a2, a3, tk, ownL, ownCs, own1, tr, ad, nl, e1, ownEs, ownEl, layer]
    try omega
end Go.Proofs.YtpmphmpaeooeeaaDoor.Code

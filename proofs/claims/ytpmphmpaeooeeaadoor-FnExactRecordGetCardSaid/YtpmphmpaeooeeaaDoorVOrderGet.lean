/- Reading a whole order: the code under test and what it is held against say the same. -/
import Derived.Test.YtpmphmpaeooeeaaDoorVSpecRead
import Derived.Test.YtpmphmpaeooeeaaDoorVTexts
namespace Go.Proofs.YtpmphmpaeooeeaaDoor.Code
open Go Go.Ev Go.Proofs
set_option maxRecDepth 100000
set_option linter.unusedSimpArgs false
set_option linter.unusedVariables false
theorem num_in (mark : UInt8) (low high : Int) (h0 : 0 ≤ low) (hm : high ≤ 99) (t r : Txt) (n : Int) (h : pNum mark low high t = .ok n r) : ∃ m : Nat, n = m ∧ low ≤ n ∧ n ≤ high ∧ r.length ≤ t.length := by
  have h2 : low ≤ n ∧ n ≤ high := by
    have : ∀ (t : Txt) (n : Int) (first : Bool), (first = false → low ≤ n ∧ n ≤ high) → ∀ (v : Int) (r : Txt), pDig low high t n first = .ok v r → low ≤ v ∧ v ≤ high := by
      intro t
      induction t with
      | nil => intro n first _ v r h; cases h
      | cons c t ih =>
        intro n first hf v r h
        simp only [pDig] at h
        split at h
        · split at h
          · cases h
          · split at h
            · rename_i w
              exact ih _ _ (fun _ => w) v r h
            · cases h
        · split at h
          · cases h
          · rename_i hff
            split at h
            · have : n = v := by
                cases t with
                | nil => cases h
                | cons d t =>
                  simp only [pByte] at h
                  split at h
                  · simp only [Res.bind, Res.ok.injEq] at h; exact h.1
                  · cases h
              subst this
              exact hf (by simpa using hff)
            · cases h
    cases t with
    | nil => cases h
    | cons c t =>
      simp only [pNum, pByte] at h
      split at h
      · exact this _ _ _ (fun h => by cases h) _ _ h
      · cases h
  obtain ⟨u, hu, _⟩ := (good_num mark low high).ok t n r h
  have := congrArg List.length hu
  rw [List.length_append] at this
  exact ⟨n.toNat, by omega, h2.1, h2.2, by omega⟩
/-- The end of an item, of what stands behind it. -/
theorem end_cases (x : Txt) (t : Txt) : (t = [] ∧ pEnd x t = .short) ∨ (∃ c t', t = c :: t' ∧ c ≠ 13 ∧ pEnd x t = .bad) ∨ (t = [13] ∧ pEnd x t = .short) ∨ (∃ d t', t = 13 :: d :: t' ∧ d ≠ 10 ∧ pEnd x t = .bad) ∨ (∃ t', t = 13 :: 10 :: t' ∧ pEnd x t = .ok x t') := by
  match t with
  | [] => exact .inl ⟨rfl, rfl⟩
  | c :: t =>
    by_cases hc : c = 13
    · subst hc
      match t with
      | [] => exact .inr (.inr (.inl ⟨rfl, rfl⟩))
      | d :: t =>
        by_cases hd : d = 10
        · subst hd
          exact .inr (.inr (.inr (.inr ⟨t, rfl, rfl⟩)))
        · exact .inr (.inr (.inr (.inl ⟨d, t, rfl, hd, by simp [pEnd, pByte, Res.bind, hd]⟩)))
    · exact .inr (.inl ⟨c, t, rfl, hc, by simp [pEnd, pByte, Res.bind, hc]⟩)
/-- What the loop over the items leaves. -/
def PItems (H : Hp) (n0 : Nat) (s : Txt) (ts : List Txt) (p : Res (List Txt)) (o : Option (Out × St)) : Prop :=
  match p with
  | .ok xs r => ∃ e' g, o = some (.exit 0, ⟨e', hpush H (rowT g (ts ++ xs))⟩) ∧ e'.get 0 = .d (.str s) ∧ e'.get 5 = .d (.str r) ∧ e'.get 7 = .slc n0 g 0 (ts ++ xs).length
  | .short => ∃ e' ob, o = some (.ret, ⟨e', hpush H ob⟩) ∧ e'.get 2 = .d (txts []) ∧ e'.get 3 = .d (.int .i64 0)
  | .bad => ∃ e' ob, o = some (.ret, ⟨e', hpush H ob⟩) ∧ e'.get 2 = .d (txts []) ∧ e'.get 3 = .d (.int .i64 (-1))
theorem l18 (n0 : Nat) (s : Txt) (H : Hp) (N : Int) (hN : N ≤ 8) : ∀ (m i g : Nat) (ts : List Txt) (rest : Txt) (e : Env), (i : Int) + m = N → ts.length + m ≤ 8 → rest.length ≤ 1000000000 → e.get 0 = .d (.str s) → e.get 4 = .d (.int .i64 N) → e.get 5 = .d (.str rest) → e.get 7 = .slc (hlen H) g 0 ts.length → e.get 8 = .d (.int .i64 i) →
    PItems H (hlen H) s ts (pItems m rest) (evLoop (evCode (ev R) R.glob n0 evLoop f18l0) [0, 4, 5, 7, 8] ⟨e, hpush H (rowT g ts)⟩)
  | 0, i, g, ts, rest, e, hi, hl, hr, h0, h4, h5, h7, h8 => by
    have c : ¬ (i : Int) < N := by omega
    rw [evLoop_eq]
    simp only [pItems, PItems, List.append_nil]
    refine ⟨?_, g, ?_, ?_, ?_, ?_⟩
    rotate_left
    · simp [-List.getD_eq_getElem?_getD, -List.map_map, evBody, evCode, evOps, evOper, evOp, opd, Env.get, Env.put, Env.keep, zipEnv, V.ok, V.sto, V.cells, D.cells, V.isAgg, binD, binInt, binStr, shInt, unD, eqOf, asI, leave, resOf, mapO, fzV, tupOf, view, view1, isData, hand, flatV, flatD, allD, mkAgg, mkVal, beq_lit, IntKind.bits, htake_self, htake_push, hget_hpush_self, hset_push, rowOf_self, okIn, lowIn, lowIn1, fzC_d, fzC_row, f18l0, h0, h4, h5, h7, h8, c]
      try rfl
    · simp [-List.getD_eq_getElem?_getD, -List.map_map, evBody, evCode, evOps, evOper, evOp, opd, Env.get, Env.put, Env.keep, zipEnv, V.ok, V.sto, V.cells, D.cells, V.isAgg, binD, binInt, binStr, shInt, unD, eqOf, asI, leave, resOf, mapO, fzV, tupOf, view, view1, isData, hand, flatV, flatD, allD, mkAgg, mkVal, beq_lit, IntKind.bits, htake_self, htake_push, hget_hpush_self, hset_push, rowOf_self, okIn, lowIn, lowIn1, fzC_d, fzC_row, h0]
    · simp [-List.getD_eq_getElem?_getD, -List.map_map, evBody, evCode, evOps, evOper, evOp, opd, Env.get, Env.put, Env.keep, zipEnv, V.ok, V.sto, V.cells, D.cells, V.isAgg, binD, binInt, binStr, shInt, unD, eqOf, asI, leave, resOf, mapO, fzV, tupOf, view, view1, isData, hand, flatV, flatD, allD, mkAgg, mkVal, beq_lit, IntKind.bits, htake_self, htake_push, hget_hpush_self, hset_push, rowOf_self, okIn, lowIn, lowIn1, fzC_d, fzC_row, h5]
    · simp [-List.getD_eq_getElem?_getD, -List.map_map, evBody, evCode, evOps, evOper, evOp, opd, Env.get, Env.put, Env.keep, zipEnv, V.ok, V.sto, V.cells, D.cells, V.isAgg, binD, binInt, binStr, shInt, unD, eqOf, asI, leave, resOf, mapO, fzV, tupOf, view, view1, isData, hand, flatV, flatD, allD, mkAgg, mkVal, beq_lit, IntKind.bits, htake_self, htake_push, hget_hpush_self, hset_push, rowOf_self, okIn, lowIn, lowIn1, fzC_d, fzC_row, h7]
  | m + 1, i, g, ts, rest, e, hi, hl, hr, h0, h4, h5, h7, h8 => by
    have c : (i : Int) < N := by omega
    have p55 := pureCall_eq (cl := ev R) fun H => e49 H rest (by omega) 36 36 0 40 rfl
    rw [head_is rest 36 0 40 (by omega) (by omega) (by omega)] at p55
    simp only [pItems, pItem]
    cases hp : pNum 36 0 40 rest with
    | short =>
      rw [hp] at p55
      simp only [Res.bind, PItems]
      rw [evLoop_eq]
      refine ⟨?_, rowT g ts, ?_, ?_, ?_⟩
      rotate_left
      · simp [-List.getD_eq_getElem?_getD, -List.map_map, evBody, evCode, evOps, evOper, evOp, opd, Env.get, Env.put, Env.keep, zipEnv, V.ok, V.sto, V.cells, D.cells, V.isAgg, binD, binInt, binStr, shInt, unD, eqOf, asI, leave, resOf, mapO, fzV, tupOf, view, view1, isData, hand, flatV, flatD, allD, mkAgg, mkVal, beq_lit, IntKind.bits, htake_self, htake_push, hget_hpush_self, hset_push, rowOf_self, okIn, lowIn, lowIn1, fzC_d, fzC_row, f18l0, h0, h4, h5, h7, h8, c, p55, headD, toHead]
        try rfl
      · simp [-List.getD_eq_getElem?_getD, -List.map_map, evBody, evCode, evOps, evOper, evOp, opd, Env.get, Env.put, Env.keep, zipEnv, V.ok, V.sto, V.cells, D.cells, V.isAgg, binD, binInt, binStr, shInt, unD, eqOf, asI, leave, resOf, mapO, fzV, tupOf, view, view1, isData, hand, flatV, flatD, allD, mkAgg, mkVal, beq_lit, IntKind.bits, htake_self, htake_push, hget_hpush_self, hset_push, rowOf_self, okIn, lowIn, lowIn1, fzC_d, fzC_row]
      · simp [-List.getD_eq_getElem?_getD, -List.map_map, evBody, evCode, evOps, evOper, evOp, opd, Env.get, Env.put, Env.keep, zipEnv, V.ok, V.sto, V.cells, D.cells, V.isAgg, binD, binInt, binStr, shInt, unD, eqOf, asI, leave, resOf, mapO, fzV, tupOf, view, view1, isData, hand, flatV, flatD, allD, mkAgg, mkVal, beq_lit, IntKind.bits, htake_self, htake_push, hget_hpush_self, hset_push, rowOf_self, okIn, lowIn, lowIn1, fzC_d, fzC_row]
    | bad =>
      rw [hp] at p55
      simp only [Res.bind, PItems]
      rw [evLoop_eq]
      refine ⟨?_, rowT g ts, ?_, ?_, ?_⟩
      rotate_left
      · simp [-List.getD_eq_getElem?_getD, -List.map_map, evBody, evCode, evOps, evOper, evOp, opd, Env.get, Env.put, Env.keep, zipEnv, V.ok, V.sto, V.cells, D.cells, V.isAgg, binD, binInt, binStr, shInt, unD, eqOf, asI, leave, resOf, mapO, fzV, tupOf, view, view1, isData, hand, flatV, flatD, allD, mkAgg, mkVal, beq_lit, IntKind.bits, htake_self, htake_push, hget_hpush_self, hset_push, rowOf_self, okIn, lowIn, lowIn1, fzC_d, fzC_row, f18l0, h0, h4, h5, h7, h8, c, p55, headD, toHead]
        try rfl
      · simp [-List.getD_eq_getElem?_getD, -List.map_map, evBody, evCode, evOps, evOper, evOp, opd, Env.get, Env.put, Env.keep, zipEnv, V.ok, V.sto, V.cells, D.cells, V.isAgg, binD, binInt, binStr, shInt, unD, eqOf, asI, leave, resOf, mapO, fzV, tupOf, view, view1, isData, hand, flatV, flatD, allD, mkAgg, mkVal, beq_lit, IntKind.bits, htake_self, htake_push, hget_hpush_self, hset_push, rowOf_self, okIn, lowIn, lowIn1, fzC_d, fzC_row]
      · simp [-List.getD_eq_getElem?_getD, -List.map_map, evBody, evCode, evOps, evOper, evOp, opd, Env.get, Env.put, Env.keep, zipEnv, V.ok, V.sto, V.cells, D.cells, V.isAgg, binD, binInt, binStr, shInt, unD, eqOf, asI, leave, resOf, mapO, fzV, tupOf, view, view1, isData, hand, flatV, flatD, allD, mkAgg, mkVal, beq_lit, IntKind.bits, htake_self, htake_push, hget_hpush_self, hset_push, rowOf_self, okIn, lowIn, lowIn1, fzC_d, fzC_row]
    | ok z body =>
      obtain ⟨k, rfl, kl, kh, bl⟩ := num_in 36 0 40 (by omega) (by omega) rest body z hp
      rw [hp] at p55
      simp only [Res.bind]
      have w1 : IntKind.i64.wrap ((k : Int) + 1) = (k : Int) + 1 := IntWalk.i64_in _ (by omega)
      have w2 : IntKind.i64.wrap ((k : Int) + 2) = (k : Int) + 2 := IntWalk.i64_in _ (by omega)
      have w3 : IntKind.i64.wrap ((i : Int) + 1) = ((i + 1 : Nat) : Int) := by rw [IntWalk.i64_in _ (by omega)]; rfl
      have t1 : ((k : Int) + 1).toNat = k + 1 := by omega
      have t2 : ((k : Int) + 2).toNat = k + 2 := by omega
      have k1 : (0 : Int) ≤ (k : Int) + 1 := by omega
      have k2 : (0 : Int) ≤ (k : Int) + 2 := by omega
      simp only [Int.toNat_natCast, pTake]
      by_cases sh : body.length < k
      · have a1 : ¬ (k : Int) < (body.length : Int) := by omega
        have a2 : ¬ (k : Int) + 1 < (body.length : Int) := by omega
        have a3 : (body.length : Int) < (k : Int) + 2 := by omega
        rw [if_pos sh]
        simp only [Res.bind, PItems]
        rw [evLoop_eq]
        refine ⟨?_, rowT g ts, ?_, ?_, ?_⟩
        rotate_left
        · simp [-List.getD_eq_getElem?_getD, -List.map_map, evBody, evCode, evOps, evOper, evOp, opd, Env.get, Env.put, Env.keep, zipEnv, V.ok, V.sto, V.cells, D.cells, V.isAgg, binD, binInt, binStr, shInt, unD, eqOf, asI, leave, resOf, mapO, fzV, tupOf, view, view1, isData, hand, flatV, flatD, allD, mkAgg, mkVal, beq_lit, IntKind.bits, htake_self, htake_push, hget_hpush_self, hset_push, rowOf_self, okIn, lowIn, lowIn1, fzC_d, fzC_row, f18l0, h0, h4, h5, h7, h8, c, p55, headD, toHead, w1, w2, a1, a2, a3]
          try rfl
        · simp [-List.getD_eq_getElem?_getD, -List.map_map, evBody, evCode, evOps, evOper, evOp, opd, Env.get, Env.put, Env.keep, zipEnv, V.ok, V.sto, V.cells, D.cells, V.isAgg, binD, binInt, binStr, shInt, unD, eqOf, asI, leave, resOf, mapO, fzV, tupOf, view, view1, isData, hand, flatV, flatD, allD, mkAgg, mkVal, beq_lit, IntKind.bits, htake_self, htake_push, hget_hpush_self, hset_push, rowOf_self, okIn, lowIn, lowIn1, fzC_d, fzC_row]
        · simp [-List.getD_eq_getElem?_getD, -List.map_map, evBody, evCode, evOps, evOper, evOp, opd, Env.get, Env.put, Env.keep, zipEnv, V.ok, V.sto, V.cells, D.cells, V.isAgg, binD, binInt, binStr, shInt, unD, eqOf, asI, leave, resOf, mapO, fzV, tupOf, view, view1, isData, hand, flatV, flatD, allD, mkAgg, mkVal, beq_lit, IntKind.bits, htake_self, htake_push, hget_hpush_self, hset_push, rowOf_self, okIn, lowIn, lowIn1, fzC_d, fzC_row]
      · rw [if_neg sh]
        simp only [Res.bind]
        have bs : body = body.take k ++ body.drop k := (List.take_append_drop k body).symm
        have lt : (body.take k).length = k := by simp; omega
        have gd : ∀ j, (body.drop k).getD j 0 = body.getD (k + j) 0 := fun j => by simp [List.getD_eq_getElem?_getD]
        have ld : (body.drop k).length = body.length - k := by simp
        rcases end_cases (body.take k) (body.drop k) with ⟨q1, q2⟩ | ⟨c1, t', q1, q3, q2⟩ | ⟨q1, q2⟩ | ⟨c1, t', q1, q3, q2⟩ | ⟨t', q1, q2⟩
        · rw [q2]
          rw [q1] at ld
          simp only [List.length_nil] at ld
          have a1 : ¬ (k : Int) < (body.length : Int) := by omega
          have a2 : ¬ (k : Int) + 1 < (body.length : Int) := by omega
          have a3 : (body.length : Int) < (k : Int) + 2 := by omega
          simp only [PItems]
          rw [evLoop_eq]
          refine ⟨?_, rowT g ts, ?_, ?_, ?_⟩
          rotate_left
          · simp [-List.getD_eq_getElem?_getD, -List.map_map, evBody, evCode, evOps, evOper, evOp, opd, Env.get, Env.put, Env.keep, zipEnv, V.ok, V.sto, V.cells, D.cells, V.isAgg, binD, binInt, binStr, shInt, unD, eqOf, asI, leave, resOf, mapO, fzV, tupOf, view, view1, isData, hand, flatV, flatD, allD, mkAgg, mkVal, beq_lit, IntKind.bits, htake_self, htake_push, hget_hpush_self, hset_push, rowOf_self, okIn, lowIn, lowIn1, fzC_d, fzC_row, f18l0, h0, h4, h5, h7, h8, c, p55, headD, toHead, w1, w2, a1, a2, a3]
            try rfl
          · simp [-List.getD_eq_getElem?_getD, -List.map_map, evBody, evCode, evOps, evOper, evOp, opd, Env.get, Env.put, Env.keep, zipEnv, V.ok, V.sto, V.cells, D.cells, V.isAgg, binD, binInt, binStr, shInt, unD, eqOf, asI, leave, resOf, mapO, fzV, tupOf, view, view1, isData, hand, flatV, flatD, allD, mkAgg, mkVal, beq_lit, IntKind.bits, htake_self, htake_push, hget_hpush_self, hset_push, rowOf_self, okIn, lowIn, lowIn1, fzC_d, fzC_row]
          · simp [-List.getD_eq_getElem?_getD, -List.map_map, evBody, evCode, evOps, evOper, evOp, opd, Env.get, Env.put, Env.keep, zipEnv, V.ok, V.sto, V.cells, D.cells, V.isAgg, binD, binInt, binStr, shInt, unD, eqOf, asI, leave, resOf, mapO, fzV, tupOf, view, view1, isData, hand, flatV, flatD, allD, mkAgg, mkVal, beq_lit, IntKind.bits, htake_self, htake_push, hget_hpush_self, hset_push, rowOf_self, okIn, lowIn, lowIn1, fzC_d, fzC_row]
        · rw [q2]
          have g0 := gd 0
          rw [q1] at ld g0
          simp only [List.length_cons, List.getD_cons_zero, Nat.add_zero] at ld g0
          have a1 : (k : Int) < (body.length : Int) := by omega
          have a1' : k < body.length := by omega
          have a4 : ¬ ((body.getD k 0).toNat : Int) = 13 := by rw [← g0]; intro h; exact q3 ((u8_eq c1 13).1 h)
          simp only [PItems]
          rw [evLoop_eq]
          refine ⟨?_, rowT g ts, ?_, ?_, ?_⟩
          rotate_left
          · simp [-List.getD_eq_getElem?_getD, -List.map_map, evBody, evCode, evOps, evOper, evOp, opd, Env.get, Env.put, Env.keep, zipEnv, V.ok, V.sto, V.cells, D.cells, V.isAgg, binD, binInt, binStr, shInt, unD, eqOf, asI, leave, resOf, mapO, fzV, tupOf, view, view1, isData, hand, flatV, flatD, allD, mkAgg, mkVal, beq_lit, IntKind.bits, htake_self, htake_push, hget_hpush_self, hset_push, rowOf_self, okIn, lowIn, lowIn1, fzC_d, fzC_row, f18l0, h0, h4, h5, h7, h8, c, p55, headD, toHead, w1, w2, a1, a1', a4]
            try rfl
          · simp [-List.getD_eq_getElem?_getD, -List.map_map, evBody, evCode, evOps, evOper, evOp, opd, Env.get, Env.put, Env.keep, zipEnv, V.ok, V.sto, V.cells, D.cells, V.isAgg, binD, binInt, binStr, shInt, unD, eqOf, asI, leave, resOf, mapO, fzV, tupOf, view, view1, isData, hand, flatV, flatD, allD, mkAgg, mkVal, beq_lit, IntKind.bits, htake_self, htake_push, hget_hpush_self, hset_push, rowOf_self, okIn, lowIn, lowIn1, fzC_d, fzC_row]
          · simp [-List.getD_eq_getElem?_getD, -List.map_map, evBody, evCode, evOps, evOper, evOp, opd, Env.get, Env.put, Env.keep, zipEnv, V.ok, V.sto, V.cells, D.cells, V.isAgg, binD, binInt, binStr, shInt, unD, eqOf, asI, leave, resOf, mapO, fzV, tupOf, view, view1, isData, hand, flatV, flatD, allD, mkAgg, mkVal, beq_lit, IntKind.bits, htake_self, htake_push, hget_hpush_self, hset_push, rowOf_self, okIn, lowIn, lowIn1, fzC_d, fzC_row]
        · rw [q2]
          have g0 := gd 0
          rw [q1] at ld g0
          simp only [List.length_cons, List.length_nil, List.getD_cons_zero, Nat.add_zero] at ld g0
          have a1 : (k : Int) < (body.length : Int) := by omega
          have a1' : k < body.length := by omega
          have a2 : ¬ (k : Int) + 1 < (body.length : Int) := by omega
          have a3 : (body.length : Int) < (k : Int) + 2 := by omega
          have a4 : ((body.getD k 0).toNat : Int) = 13 := by rw [← g0]; rfl
          simp only [PItems]
          rw [evLoop_eq]
          refine ⟨?_, rowT g ts, ?_, ?_, ?_⟩
          rotate_left
          · simp [-List.getD_eq_getElem?_getD, -List.map_map, evBody, evCode, evOps, evOper, evOp, opd, Env.get, Env.put, Env.keep, zipEnv, V.ok, V.sto, V.cells, D.cells, V.isAgg, binD, binInt, binStr, shInt, unD, eqOf, asI, leave, resOf, mapO, fzV, tupOf, view, view1, isData, hand, flatV, flatD, allD, mkAgg, mkVal, beq_lit, IntKind.bits, htake_self, htake_push, hget_hpush_self, hset_push, rowOf_self, okIn, lowIn, lowIn1, fzC_d, fzC_row, f18l0, h0, h4, h5, h7, h8, c, p55, headD, toHead, w1, w2, a1, a1', a2, a3, a4]
            try rfl
          · simp [-List.getD_eq_getElem?_getD, -List.map_map, evBody, evCode, evOps, evOper, evOp, opd, Env.get, Env.put, Env.keep, zipEnv, V.ok, V.sto, V.cells, D.cells, V.isAgg, binD, binInt, binStr, shInt, unD, eqOf, asI, leave, resOf, mapO, fzV, tupOf, view, view1, isData, hand, flatV, flatD, allD, mkAgg, mkVal, beq_lit, IntKind.bits, htake_self, htake_push, hget_hpush_self, hset_push, rowOf_self, okIn, lowIn, lowIn1, fzC_d, fzC_row]
          · simp [-List.getD_eq_getElem?_getD, -List.map_map, evBody, evCode, evOps, evOper, evOp, opd, Env.get, Env.put, Env.keep, zipEnv, V.ok, V.sto, V.cells, D.cells, V.isAgg, binD, binInt, binStr, shInt, unD, eqOf, asI, leave, resOf, mapO, fzV, tupOf, view, view1, isData, hand, flatV, flatD, allD, mkAgg, mkVal, beq_lit, IntKind.bits, htake_self, htake_push, hget_hpush_self, hset_push, rowOf_self, okIn, lowIn, lowIn1, fzC_d, fzC_row]
        · rw [q2]
          have g0 := gd 0
          have g1 := gd 1
          rw [q1] at ld g0 g1
          simp only [List.length_cons, List.getD_cons_zero, List.getD_cons_succ, Nat.add_zero] at ld g0 g1
          have a1 : (k : Int) < (body.length : Int) := by omega
          have a1' : k < body.length := by omega
          have a2 : (k : Int) + 1 < (body.length : Int) := by omega
          have a2' : k + 1 < body.length := by omega
          have a4 : ((body.getD k 0).toNat : Int) = 13 := by rw [← g0]; rfl
          have a5 : ¬ ((body.getD (k + 1) 0).toNat : Int) = 10 := by rw [← g1]; intro h; exact q3 ((u8_eq c1 10).1 h)
          simp only [PItems]
          rw [evLoop_eq]
          refine ⟨?_, rowT g ts, ?_, ?_, ?_⟩
          rotate_left
          · simp [-List.getD_eq_getElem?_getD, -List.map_map, evBody, evCode, evOps, evOper, evOp, opd, Env.get, Env.put, Env.keep, zipEnv, V.ok, V.sto, V.cells, D.cells, V.isAgg, binD, binInt, binStr, shInt, unD, eqOf, asI, leave, resOf, mapO, fzV, tupOf, view, view1, isData, hand, flatV, flatD, allD, mkAgg, mkVal, beq_lit, IntKind.bits, htake_self, htake_push, hget_hpush_self, hset_push, rowOf_self, okIn, lowIn, lowIn1, fzC_d, fzC_row, f18l0, h0, h4, h5, h7, h8, c, p55, headD, toHead, w1, w2, a1, a1', a2, a2', a4, a5, k1, t1]
            try rfl
          · simp [-List.getD_eq_getElem?_getD, -List.map_map, evBody, evCode, evOps, evOper, evOp, opd, Env.get, Env.put, Env.keep, zipEnv, V.ok, V.sto, V.cells, D.cells, V.isAgg, binD, binInt, binStr, shInt, unD, eqOf, asI, leave, resOf, mapO, fzV, tupOf, view, view1, isData, hand, flatV, flatD, allD, mkAgg, mkVal, beq_lit, IntKind.bits, htake_self, htake_push, hget_hpush_self, hset_push, rowOf_self, okIn, lowIn, lowIn1, fzC_d, fzC_row]
          · simp [-List.getD_eq_getElem?_getD, -List.map_map, evBody, evCode, evOps, evOper, evOp, opd, Env.get, Env.put, Env.keep, zipEnv, V.ok, V.sto, V.cells, D.cells, V.isAgg, binD, binInt, binStr, shInt, unD, eqOf, asI, leave, resOf, mapO, fzV, tupOf, view, view1, isData, hand, flatV, flatD, allD, mkAgg, mkVal, beq_lit, IntKind.bits, htake_self, htake_push, hget_hpush_self, hset_push, rowOf_self, okIn, lowIn, lowIn1, fzC_d, fzC_row]
        · rw [q2]
          simp only [Res.bind]
          have g0 := gd 0
          have g1 := gd 1
          have dd : body.drop (k + 2) = t' := by
            have : (body.drop k).drop 2 = body.drop (k + 2) := by rw [List.drop_drop]
            rw [← this, q1]; rfl
          rw [q1] at ld g0 g1
          simp only [List.length_cons, List.getD_cons_zero, List.getD_cons_succ, Nat.add_zero] at ld g0 g1
          have a1 : (k : Int) < (body.length : Int) := by omega
          have a1' : k < body.length := by omega
          have a2 : (k : Int) + 1 < (body.length : Int) := by omega
          have a2' : k + 1 < body.length := by omega
          have a3 : ¬ (body.length : Int) < (k : Int) + 2 := by omega
          have a4 : ((body.getD k 0).toNat : Int) = 13 := by rw [← g0]; rfl
          have a5 : ((body.getD (k + 1) 0).toNat : Int) = 10 := by rw [← g1]; rfl
          have a6 : (k : Int) ≤ (body.length : Int) := by omega
          have a6' : k ≤ body.length := by omega
          have a7 : (k : Int) + 2 ≤ (body.length : Int) := by omega
          have q3 := rowT_row (H := H) (k := g) (ts := ts) rfl
          have q4 := rowT_set (H := H) (k := g + 1) (ts := ts) (t := body.take k) rfl (rowT g ts)
          have rm : (ts.length + 1) * 16 ≤ room := by unfold room; omega
          have ih := l18 n0 s H N hN m (i + 1) (g + 1) (ts ++ [body.take k]) t'
          have conv : ∀ o, PItems H (hlen H) s (ts ++ [body.take k]) (pItems m t') o → PItems H (hlen H) s ts ((pItems m t').bind fun xs r' => .ok (body.take k :: xs) r') o := by
            intro o h
            cases hq : pItems m t' with
            | short => rw [hq] at h; exact h
            | bad => rw [hq] at h; exact h
            | ok xs r' =>
              rw [hq] at h
              simp only [PItems, Res.bind] at h ⊢
              rw [List.append_assoc] at h
              exact h
          apply conv
          clear conv
          generalize pItems m t' = PM at ih ⊢
          have lx : (ts ++ [body.take k]).length = ts.length + 1 := by simp
          rw [evLoop_eq]
          generalize evLoop (evCode (ev R) R.glob n0 evLoop f18l0) [0, 4, 5, 7, 8] = F at ih ⊢
          rw [lx] at ih
          simp [-List.getD_eq_getElem?_getD, -List.map_map, evBody, evCode, evOps, evOper, evOp, opd, Env.get, Env.put, Env.keep, zipEnv, V.ok, V.sto, V.cells, D.cells, V.isAgg, binD, binInt, binStr, shInt, unD, eqOf, asI, leave, resOf, mapO, fzV, tupOf, view, view1, isData, hand, flatV, flatD, allD, mkAgg, mkVal, beq_lit, IntKind.bits, htake_self, htake_push, hget_hpush_self, hset_push, rowOf_self, okIn, lowIn, lowIn1, fzC_d, fzC_row, f18l0, h0, h4, h5, h7, h8, c, p55, headD, toHead, w1, w2, w3, a1, a1', a2, a2', a3, a4, a5, a6, a6', a7, k1, k2, t1, t2, q3, q4, rm, src, dd, bound]
          refine ih _ (by omega) (by omega) (by omega) ?_ ?_ ?_ ?_ ?_ <;> rfl
theorem e18 (H : Hp) (s : Txt) (hs : s.length ≤ 1000000000) : ev R 18 [.d (.str s)] H = some (.tup [.d (txts (ordX s)), .d (.int .i64 (ordN s))], H) := by
  refine ev_fn (fn := f18) rfl rfl ?_
  have p55 := pureCall_eq (cl := ev R) fun H => e49 H s (by omega) 42 42 1 8 rfl
  rw [head_is s 42 1 8 (by omega) (by omega) (by omega)] at p55
  unfold ordX ordN pOrder
  cases hp : pNum 42 1 8 s with
  | short =>
    rw [hp] at p55
    simp only [Res.bind]
    simp [-List.getD_eq_getElem?_getD, -List.map_map, evBody, evCode, evOps, evOper, evOp, opd, Env.get, Env.put, Env.keep, zipEnv, V.ok, V.sto, V.cells, D.cells, V.isAgg, binD, binInt, binStr, shInt, unD, eqOf, asI, leave, resOf, mapO, fzV, tupOf, view, view1, isData, hand, flatV, flatD, allD, mkAgg, mkVal, beq_lit, IntKind.bits, htake_self, htake_push, hget_hpush_self, hset_push, rowOf_self, okIn, lowIn, lowIn1, fzC_d, fzC_row, f18, p55, headD, toHead]
  | bad =>
    rw [hp] at p55
    simp only [Res.bind]
    simp [-List.getD_eq_getElem?_getD, -List.map_map, evBody, evCode, evOps, evOper, evOp, opd, Env.get, Env.put, Env.keep, zipEnv, V.ok, V.sto, V.cells, D.cells, V.isAgg, binD, binInt, binStr, shInt, unD, eqOf, asI, leave, resOf, mapO, fzV, tupOf, view, view1, isData, hand, flatV, flatD, allD, mkAgg, mkVal, beq_lit, IntKind.bits, htake_self, htake_push, hget_hpush_self, hset_push, rowOf_self, okIn, lowIn, lowIn1, fzC_d, fzC_row, f18, p55, headD, toHead]
  | ok z rest =>
    obtain ⟨N, rfl, nl, nh, rl⟩ := num_in 42 1 8 (by omega) (by omega) s rest z hp
    rw [hp] at p55
    simp only [Res.bind, Int.toNat_natCast]
    have L := l18 (hlen H) s H N nh N 0 0 [] rest [(0, .d (.str s)), (4, .d (.int .i64 N)), (5, .d (.str rest)), (7, .slc (hlen H) 0 0 0), (8, .d (.int .i64 0))] (by omega) (by simp; omega) (by omega) rfl rfl rfl rfl rfl
    have e0 : rowT 0 [] = .row 0 1 [] := rfl
    rw [e0] at L
    cases hq : pItems N rest with
    | short =>
      rw [hq] at L
      obtain ⟨e', ob, he, g2, g3⟩ := L
      simp [-List.getD_eq_getElem?_getD, -List.map_map, evBody, evCode, evOps, evOper, evOp, opd, Env.get, Env.put, Env.keep, zipEnv, V.ok, V.sto, V.cells, D.cells, V.isAgg, binD, binInt, binStr, shInt, unD, eqOf, asI, leave, resOf, mapO, fzV, tupOf, view, view1, isData, hand, flatV, flatD, allD, mkAgg, mkVal, beq_lit, IntKind.bits, htake_self, htake_push, hget_hpush_self, hset_push, rowOf_self, okIn, lowIn, lowIn1, fzC_d, fzC_row, f18, p55, headD, toHead, he, g2, g3]
    | bad =>
      rw [hq] at L
      obtain ⟨e', ob, he, g2, g3⟩ := L
      simp [-List.getD_eq_getElem?_getD, -List.map_map, evBody, evCode, evOps, evOper, evOp, opd, Env.get, Env.put, Env.keep, zipEnv, V.ok, V.sto, V.cells, D.cells, V.isAgg, binD, binInt, binStr, shInt, unD, eqOf, asI, leave, resOf, mapO, fzV, tupOf, view, view1, isData, hand, flatV, flatD, allD, mkAgg, mkVal, beq_lit, IntKind.bits, htake_self, htake_push, hget_hpush_self, hset_push, rowOf_self, okIn, lowIn, lowIn1, fzC_d, fzC_row, f18, p55, headD, toHead, he, g2, g3]
    | ok xs r =>
      rw [hq] at L
      obtain ⟨e', g, he, g0, g5, g7⟩ := L
      simp only [List.nil_append] at he g7
      have lr : r.length ≤ rest.length := by
        obtain ⟨u, hu, _⟩ := (good_items N).ok rest xs r hq
        have := congrArg List.length hu
        rw [List.length_append] at this
        omega
      have w : IntKind.i64.wrap ((s.length : Int) - (r.length : Int)) = (s.length : Int) - (r.length : Int) := IntWalk.i64_in _ (by omega)
      have fzr := rowT_fz (H := H) (X := H) rfl g xs
      simp [-List.getD_eq_getElem?_getD, -List.map_map, evBody, evCode, evOps, evOper, evOp, opd, Env.get, Env.put, Env.keep, zipEnv, V.ok, V.sto, V.cells, D.cells, V.isAgg, binD, binInt, binStr, shInt, unD, eqOf, asI, leave, resOf, mapO, fzV, tupOf, view, view1, isData, hand, flatV, flatD, allD, mkAgg, mkVal, beq_lit, IntKind.bits, htake_self, htake_push, hget_hpush_self, hset_push, rowOf_self, okIn, lowIn, lowIn1, fzC_d, fzC_row, f18, p55, headD, toHead, he, g0, g5, g7, w, fzr]
end Go.Proofs.YtpmphmpaeooeeaaDoor.Code

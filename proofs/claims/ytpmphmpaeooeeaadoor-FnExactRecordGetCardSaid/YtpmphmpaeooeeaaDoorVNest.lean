/- Rows of rows of texts, and marking them in place. -/
import Derived.Test.YtpmphmpaeooeeaaDoorVMarks
namespace Go.Proofs.YtpmphmpaeooeeaaDoor.Code
open Go Go.Ev Go.Proofs
set_option maxRecDepth 100000
set_option linter.unusedSimpArgs false
set_option linter.unusedVariables false
/-- A row's texts. -/
def dat (x : List Txt) : List V := (x.map D.str).map V.d
theorem rowT_is (x : List Txt) : rowT 0 x = .row 0 1 (dat x) := rfl
theorem dat_len (x : List Txt) : (dat x).length = x.length := by simp [dat]
def refs1 (k : Nat) : List (List Txt) → List V
  | [] => []
  | x :: r => .slc k 0 0 x.length :: refs1 (k + 1) r
theorem refs1_len : ∀ (xss : List (List Txt)) (k : Nat), (refs1 k xss).length = xss.length
  | [], _ => rfl
  | x :: r, k => by simp [refs1, refs1_len r]
theorem refs1_get : ∀ (xss : List (List Txt)) (k j : Nat), j < xss.length → (refs1 k xss)[j]? = some (.slc (k + j) 0 0 (xss.getD j []).length)
  | x :: r, k, 0, _ => by simp [refs1]
  | x :: r, k, j + 1, h => by
    simp only [List.length_cons] at h
    simp only [refs1, List.getElem?_cons_succ, List.getD_cons_succ]
    rw [refs1_get r (k + 1) j (by omega)]
    congr 2; omega
theorem rowOf_hset_ne {X : Hp} {r r' g : Nat} (o : Ev.Obj) (h : r' ≠ r) : rowOf (hset X r o) r' g = rowOf X r' g := by
  simp only [rowOf, hget_hset_ne o h]
theorem rowOf_lt {X : Hp} {r g : Nat} {p : Nat × List V} (h : rowOf X r g = some p) : r < hlen X := by
  unfold rowOf at h
  split at h
  · rename_i hg; exact hget_lt hg
  · simp at h
theorem rowOf_hset_self {X : Hp} {r : Nat} (g e : Nat) (xs : List V) (h : r < hlen X) : rowOf (hset X r (.row g e xs)) r g = some (e, xs) := by
  simp [rowOf, hget_hset_self _ h]
theorem hget_of_row {X : Hp} {r g e : Nat} {xs : List V} (h : rowOf X r g = some (e, xs)) : hget X r = some (.row g e xs) := by
  unfold rowOf at h
  split at h
  · rename_i g' e' xs' hg
    cases hb : Nat.beq g' g with
    | false => rw [hb] at h; simp at h
    | true =>
      rw [hb] at h
      have := Nat.eq_of_beq_eq_true hb
      simp only [cond_true, Option.some.injEq, Prod.mk.injEq] at h
      obtain ⟨rfl, rfl⟩ := h
      subst this
      exact hg
  · simp at h
theorem hset_as {X : Hp} {r : Nat} {o : Ev.Obj} (h : hget X r = some o) : hset X r o = X := by
  induction X generalizing r with
  | nil => rfl
  | cons x X ih =>
    cases r with
    | zero => simp only [hget, Option.some.injEq] at h; subst h; rfl
    | succ r => simp only [hget] at h; simp only [hset, ih h]
theorem dat_set (ys : List Txt) (i : Nat) (v : Txt) : (dat ys).set i (.d (.str v)) = dat (ys.set i v) := by simp [dat, List.map_set]
theorem dat_store (X : Hp) (r i : Nat) (ys : List Txt) (v : Txt) (hi : i < ys.length) (hr : rowOf X r 0 = some (1, dat ys)) : hstore X r 0 i 0 [.d (.str v)] = some (hset X r (rowT 0 (ys.set i v))) := by
  have g : (dat ys)[i]? = some (.d (.str (ys.getD i []))) := by
    simp [dat, List.getD_eq_getElem?_getD, hi]
  have h := dat_set ys i v
  rw [rowT_is, ← h]
  simp [hstore, hr, g, V.cells, reCell, V.isAgg]
theorem take_set (ys : List Txt) (i : Nat) (v : Txt) (hi : i < ys.length) : (ys.set i v).take (i + 1) = ys.take i ++ [v] := by
  rw [List.take_set, List.take_add_one, List.getElem?_eq_getElem hi, Option.toList_some]
  rw [List.set_append_right _ _ (by simp; omega)]
  have : i - (ys.take i).length = 0 := by simp; omega
  rw [this]
  rfl
theorem l52 (n0 r N : Nat) (hN : N ≤ 100000) : ∀ (n i b : Nat) (X : Hp) (ys : List Txt) (e : Env), i + n = N → ys.length = N → b + n ≤ 100000 → rowOf X r 0 = some (1, dat ys) → e.get 0 = .slc r 0 0 N → e.get 1 = .d (.int .i64 b) → e.get 5 = .d (.int .i64 i) →
    ∃ e', evLoop (evCode (ev R) R.glob n0 evLoop f52l0) [0, 1, 5] ⟨e, X⟩ = some (.exit 0, ⟨e', hset X r (rowT 0 (ys.take i ++ marks b n))⟩) ∧ e'.get 1 = .d (.int .i64 (b + n : Nat))
  | 0, i, b, X, ys, e, hi, hl, hb, hr, h0, h1, h5 => by
    have c : ¬ (i : Int) < (N : Int) := by omega
    have hX : hset X r (rowT 0 (ys.take i ++ marks b 0)) = X := by
      rw [marks, List.append_nil, List.take_of_length_le (by omega), rowT_is]
      exact hset_as (hget_of_row hr)
    rw [hX, evLoop_eq]
    refine ⟨?_, ?_, ?_⟩
    rotate_left
    · simp [-List.getD_eq_getElem?_getD, -List.map_map, evBody, evCode, evOps, evOper, evOp, opd, Env.get, Env.put, Env.keep, zipEnv, V.ok, V.sto, V.cells, D.cells, V.isAgg, binD, binInt, binStr, shInt, unD, eqOf, asI, leave, resOf, mapO, fzV, tupOf, view, view1, isData, hand, flatV, flatD, allD, mkAgg, mkVal, beq_lit, IntKind.bits, htake_self, htake_push, hget_hpush_self, hset_push, rowOf_self, okIn, lowIn, lowIn1, fzC_d, fzC_row, f52l0, h0, h1, h5, c]
      try rfl
    · simp [-List.getD_eq_getElem?_getD, -List.map_map, evBody, evCode, evOps, evOper, evOp, opd, Env.get, Env.put, Env.keep, zipEnv, V.ok, V.sto, V.cells, D.cells, V.isAgg, binD, binInt, binStr, shInt, unD, eqOf, asI, leave, resOf, mapO, fzV, tupOf, view, view1, isData, hand, flatV, flatD, allD, mkAgg, mkVal, beq_lit, IntKind.bits, htake_self, htake_push, hget_hpush_self, hset_push, rowOf_self, okIn, lowIn, lowIn1, fzC_d, fzC_row, h1]
  | n + 1, i, b, X, ys, e, hi, hl, hb, hr, h0, h1, h5 => by
    have c : (i : Int) < (N : Int) := by omega
    have c' : i < N := by omega
    have p := pureCall_eq (cl := ev R) fun H => e76 H b (by omega)
    have w1 : IntKind.i64.wrap ((i : Int) + 1) = ((i + 1 : Nat) : Int) := by rw [IntWalk.i64_in _ (by omega)]; rfl
    have w2 : IntKind.i64.wrap ((b : Int) + 1) = ((b + 1 : Nat) : Int) := by rw [IntWalk.i64_in _ (by omega)]; rfl
    have st := dat_store X r i ys (markV b) (by omega) hr
    have hlt := rowOf_lt hr
    have ih := l52 n0 r N hN n (i + 1) (b + 1) (hset X r (rowT 0 (ys.set i (markV b)))) (ys.set i (markV b))
    rw [take_set ys i (markV b) (by omega), hset_hset, List.append_assoc] at ih
    have em : [markV b] ++ marks (b + 1) n = marks b (n + 1) := rfl
    have eb : b + 1 + n = b + (n + 1) := by omega
    rw [em, eb] at ih
    have rr : rowOf (hset X r (rowT 0 (ys.set i (markV b)))) r 0 = some (1, dat (ys.set i (markV b))) := rowOf_hset_self 0 1 _ hlt
    generalize hset X r (rowT 0 (ys.set i (markV b))) = X' at *
    clear em
    generalize markV b = x at *
    generalize ((b + (n + 1) : Nat) : Int) = q at *
    rw [evLoop_eq]
    generalize evLoop (evCode (ev R) R.glob n0 evLoop f52l0) [0, 1, 5] = F at ih ⊢
    simp [-List.getD_eq_getElem?_getD, -List.map_map, evBody, evCode, evOps, evOper, evOp, opd, Env.get, Env.put, Env.keep, zipEnv, V.ok, V.sto, V.cells, D.cells, V.isAgg, binD, binInt, binStr, shInt, unD, eqOf, asI, leave, resOf, mapO, fzV, tupOf, view, view1, isData, hand, flatV, flatD, allD, mkAgg, mkVal, beq_lit, IntKind.bits, htake_self, htake_push, hget_hpush_self, hset_push, rowOf_self, okIn, lowIn, lowIn1, fzC_d, fzC_row, f52l0, h0, h1, h5, c, c', p, w1, w2, hr, st]
    refine ih _ (by omega) (by simp; omega) (by omega) rr ?_ ?_ ?_ <;> rfl
theorem e52 (X : Hp) (r a : Nat) (xs : List Txt) (ha : a + xs.length ≤ 100000) (hr : rowOf X r 0 = some (1, dat xs)) : ev R 52 [.slc r 0 0 xs.length, .d (.int .i64 a)] X = some (.d (.int .i64 (a + xs.length : Nat)), hset X r (rowT 0 (marks a xs.length))) := by
  refine ev_fn (fn := f52) rfl rfl ?_
  obtain ⟨e', he, h1⟩ := l52 (hlen X) r xs.length (by omega) xs.length 0 a X xs [(0, .slc r 0 0 xs.length), (1, .d (.int .i64 a)), (5, .d (.int .i64 0))] (by omega) rfl (by omega) hr rfl rfl rfl
  rw [List.take_zero, List.nil_append] at he
  have hl := hlen_hset X r (rowT 0 (marks a xs.length))
  have tk := htake_self (hset X r (rowT 0 (marks a xs.length)))
  rw [hl] at tk
  generalize ((a + xs.length : Nat) : Int) = q at *
  generalize hset X r (rowT 0 (marks a xs.length)) = Y at *
  simp [-List.getD_eq_getElem?_getD, -List.map_map, evBody, evCode, evOps, evOper, evOp, opd, Env.get, Env.put, Env.keep, zipEnv, V.ok, V.sto, V.cells, D.cells, V.isAgg, binD, binInt, binStr, shInt, unD, eqOf, asI, leave, resOf, mapO, fzV, tupOf, view, view1, isData, hand, flatV, flatD, allD, mkAgg, mkVal, beq_lit, IntKind.bits, htake_self, htake_push, hget_hpush_self, hset_push, rowOf_self, okIn, lowIn, lowIn1, fzC_d, fzC_row, f52, he, h1, tk]
/-- The rows of k, k + 1, .. marked, and nothing else. -/
def markH (X : Hp) (k b : Nat) : List (List Txt) → Hp
  | [] => X
  | x :: r => markH (hset X k (rowT 0 (marks b x.length))) (k + 1) (b + x.length) r
theorem markH_len : ∀ (xss : List (List Txt)) (X : Hp) (k b : Nat), hlen (markH X k b xss) = hlen X
  | [], _, _, _ => rfl
  | x :: r, X, k, b => by rw [markH, markH_len r, hlen_hset]
theorem markH_ne : ∀ (xss : List (List Txt)) (X : Hp) (k b q g : Nat), q < k ∨ k + xss.length ≤ q → rowOf (markH X k b xss) q g = rowOf X q g
  | [], _, _, _, _, _, _ => rfl
  | x :: r, X, k, b, q, g, h => by
    simp only [List.length_cons] at h
    rw [markH, markH_ne r _ _ _ _ _ (by omega), rowOf_hset_ne _ (by omega)]
theorem markH_get : ∀ (xss : List (List Txt)) (X : Hp) (k b j : Nat), j < xss.length → k + xss.length ≤ hlen X → rowOf (markH X k b xss) (k + j) 0 = some (1, dat ((marksS b xss).getD j []))
  | x :: r, X, k, b, 0, h, hX => by
    simp only [List.length_cons] at hX
    rw [markH, markH_ne r _ _ _ _ _ (by omega), Nat.add_zero, rowT_is, rowOf_hset_self _ _ _ (by omega)]
    rfl
  | x :: r, X, k, b, j + 1, h, hX => by
    simp only [List.length_cons] at hX h
    rw [markH]
    have := markH_get r (hset X k (rowT 0 (marks b x.length))) (k + 1) (b + x.length) j (by omega) (by rw [hlen_hset]; omega)
    rw [show k + (j + 1) = k + 1 + j by omega, this]
    rfl
theorem refs1_marks : ∀ (xss : List (List Txt)) (k b : Nat), refs1 k (marksS b xss) = refs1 k xss
  | [], _, _ => rfl
  | x :: r, k, b => by simp only [marksS, refs1, marks_len, refs1_marks r]
/-- Rows k, k + 1, .., and the row of them. -/
def Nest (X : Hp) (k : Nat) (xss : List (List Txt)) : Prop := (∀ j, j < xss.length → rowOf X (k + j) 0 = some (1, dat (xss.getD j []))) ∧ rowOf X (k + xss.length) 0 = some (1, refs1 k xss)
theorem Nest.push {X : Hp} {k : Nat} {xss : List (List Txt)} (h : Nest X k xss) (o : Ev.Obj) : Nest (hpush X o) k xss :=
  ⟨fun j hj => rowOf_push (h.1 j hj), rowOf_push h.2⟩
theorem Nest.mark {X : Hp} {k : Nat} {xss : List (List Txt)} (h : Nest X k xss) (b : Nat) : Nest (markH X k b xss) k (marksS b xss) := by
  have hl := rowOf_lt h.2
  refine ⟨fun j hj => ?_, ?_⟩
  · rw [marksS_len] at hj
    exact markH_get xss X k b j hj (by omega)
  · rw [marksS_len, markH_ne xss X k b _ _ (by omega), refs1_marks]
    exact h.2
theorem fz_refs {X : Hp} : ∀ (xss : List (List Txt)) (k : Nat), (∀ j, j < xss.length → rowOf X (k + j) 0 = some (1, dat (xss.getD j []))) → mapO (fz 0 7 X) (refs1 k xss) = some (textss xss)
  | [], _, _ => rfl
  | x :: r, k, h => by
    have h0 := h 0 (by simp)
    simp only [Nat.add_zero, List.getD_cons_zero] at h0
    have f := fz_row (n := 0) (d := 6) (i := 0) (k := x.length) (by omega) h0 (by simp [dat]) (ys := x.map D.str) (by
      rw [List.drop_zero, List.take_of_length_le (by simp [dat])]; exact mapO_d _)
    have ih := fz_refs (X := X) r (k + 1) (fun j hj => by
      have := h (j + 1) (by simp; omega)
      rw [show k + (j + 1) = k + 1 + j by omega, List.getD_cons_succ] at this
      exact this)
    simp only [refs1, mapO, f, ih]
    rfl
theorem Nest.fz {X : Hp} {k : Nat} {xss : List (List Txt)} (h : Nest X k xss) : Ev.fz 0 deep X (.slc (k + xss.length) 0 0 xss.length) = some (.vals 1 (textss xss)) := by
  have f := fz_row (n := 0) (d := 7) (i := 0) (k := xss.length) (by omega) h.2 (by rw [refs1_len]; omega) (ys := textss xss) (by
    rw [List.drop_zero, List.take_of_length_le (by rw [refs1_len]; omega)]; exact fz_refs xss k h.1)
  rw [show deep = 7 + 1 from rfl]
  exact f
theorem allD_refs (xss : List (List Txt)) (k : Nat) (h : xss ≠ []) : allD (refs1 k xss) = none := by
  cases xss with
  | nil => exact absurd rfl h
  | cons x r => rfl
theorem Nest.view {X : Hp} {k : Nat} {xss : List (List Txt)} (h : Nest X k xss) (hn : xss ≠ []) : Ev.view X (.slc (k + xss.length) 0 0 xss.length) = some (.vals 1 (textss xss)) := by
  have h2 := h.2
  have h3 := h.fz
  have a := allD_refs xss k hn
  simp only [Ev.view, view1, h2, a, refs1_len, h3]
  simp
theorem l21 (n0 k : Nat) (xss : List (List Txt)) (hx : xss.length ≤ 100000) : ∀ (n i b : Nat) (X : Hp) (e : Env), i + n = xss.length → b + total (xss.drop i) ≤ 100000 → (∀ j, i ≤ j → j < xss.length → rowOf X (k + j) 0 = some (1, dat (xss.getD j []))) → rowOf X (k + xss.length) 0 = some (1, refs1 k xss) → e.get 0 = .slc (k + xss.length) 0 0 xss.length → e.get 1 = .d (.int .i64 b) → e.get 5 = .d (.int .i64 i) →
    ∃ e', evLoop (evCode (ev R) R.glob n0 evLoop f21l0) [0, 1, 5] ⟨e, X⟩ = some (.exit 0, ⟨e', markH X (k + i) b (xss.drop i)⟩) ∧ e'.get 1 = .d (.int .i64 (b + total (xss.drop i) : Nat))
  | 0, i, b, X, e, hi, hb, hj, hr, h0, h1, h5 => by
    have c : ¬ (i : Int) < (xss.length : Int) := by omega
    have c' : ¬ i < xss.length := by omega
    rw [List.drop_of_length_le (by omega), markH, total, Nat.add_zero, evLoop_eq]
    refine ⟨?_, ?_, ?_⟩
    rotate_left
    · simp [-List.getD_eq_getElem?_getD, -List.map_map, evBody, evCode, evOps, evOper, evOp, opd, Env.get, Env.put, Env.keep, zipEnv, V.ok, V.sto, V.cells, D.cells, V.isAgg, binD, binInt, binStr, shInt, unD, eqOf, asI, leave, resOf, mapO, fzV, tupOf, view, view1, isData, hand, flatV, flatD, allD, mkAgg, mkVal, beq_lit, IntKind.bits, htake_self, htake_push, hget_hpush_self, hset_push, rowOf_self, okIn, lowIn, lowIn1, fzC_d, fzC_row, f21l0, h0, h1, h5, c, c']
      try rfl
    · simp [-List.getD_eq_getElem?_getD, -List.map_map, evBody, evCode, evOps, evOper, evOp, opd, Env.get, Env.put, Env.keep, zipEnv, V.ok, V.sto, V.cells, D.cells, V.isAgg, binD, binInt, binStr, shInt, unD, eqOf, asI, leave, resOf, mapO, fzV, tupOf, view, view1, isData, hand, flatV, flatD, allD, mkAgg, mkVal, beq_lit, IntKind.bits, htake_self, htake_push, hget_hpush_self, hset_push, rowOf_self, okIn, lowIn, lowIn1, fzC_d, fzC_row, h1]
  | n + 1, i, b, X, e, hi, hb, hj, hr, h0, h1, h5 => by
    have c : (i : Int) < (xss.length : Int) := by omega
    have c' : i < xss.length := by omega
    have hd : xss.drop i = xss.getD i [] :: xss.drop (i + 1) := by
      rw [List.getD_eq_getElem?_getD, List.getElem?_eq_getElem c']
      exact List.drop_eq_getElem_cons c'
    rw [hd, total] at hb
    rw [hd, markH, total]
    have hx' := hj i (Nat.le_refl _) c'
    have ld : hload X (k + xss.length) 0 i 0 1 = some [.slc (k + i) 0 0 (xss.getD i []).length] := by
      simp [hload, hr, refs1_get xss k i c', V.cells]
    obtain ⟨x, hxi⟩ : ∃ x, xss.getD i [] = x := ⟨_, rfl⟩
    rw [hxi] at hb hx' ld ⊢
    have q := e52 X (k + i) b x (by omega) hx'
    have w1 : IntKind.i64.wrap ((i : Int) + 1) = ((i + 1 : Nat) : Int) := by rw [IntWalk.i64_in _ (by omega)]; rfl
    have ih := l21 n0 k xss hx n (i + 1) (b + x.length) (hset X (k + i) (rowT 0 (marks b x.length)))
    have e1 : b + x.length + total (xss.drop (i + 1)) = b + (x.length + total (xss.drop (i + 1))) := by omega
    have e2 : k + (i + 1) = k + i + 1 := by omega
    rw [e1, e2] at ih
    have j1 : ∀ j, i + 1 ≤ j → j < xss.length → rowOf (hset X (k + i) (rowT 0 (marks b x.length))) (k + j) 0 = some (1, dat (xss.getD j [])) := fun j h1 h2 => by
      rw [rowOf_hset_ne _ (by omega)]; exact hj j (by omega) h2
    have j2 : rowOf (hset X (k + i) (rowT 0 (marks b x.length))) (k + xss.length) 0 = some (1, refs1 k xss) := by
      rw [rowOf_hset_ne _ (by omega)]; exact hr
    generalize hset X (k + i) (rowT 0 (marks b x.length)) = X' at *
    generalize ((b + x.length : Nat) : Int) = z1 at *
    generalize ((b + (x.length + total (xss.drop (i + 1))) : Nat) : Int) = z2 at *
    generalize k + xss.length = K at *
    generalize k + i = K1 at *
    rw [evLoop_eq]
    generalize evLoop (evCode (ev R) R.glob n0 evLoop f21l0) [0, 1, 5] = F at ih ⊢
    simp [-List.getD_eq_getElem?_getD, -List.map_map, evBody, evCode, evOps, evOper, evOp, opd, Env.get, Env.put, Env.keep, zipEnv, V.ok, V.sto, V.cells, D.cells, V.isAgg, binD, binInt, binStr, shInt, unD, eqOf, asI, leave, resOf, mapO, fzV, tupOf, view, view1, isData, hand, flatV, flatD, allD, mkAgg, mkVal, beq_lit, IntKind.bits, htake_self, htake_push, hget_hpush_self, hset_push, rowOf_self, okIn, lowIn, lowIn1, fzC_d, fzC_row, f21l0, h0, h1, h5, c, c', q, w1, hr, ld]
    refine ih _ (by omega) (by omega) j1 j2 ?_ ?_ ?_ <;> rfl
theorem e21 (X : Hp) (k b : Nat) (xss : List (List Txt)) (hx : xss.length ≤ 100000) (hb : b + total xss ≤ 100000) (h : Nest X k xss) : ev R 21 [.slc (k + xss.length) 0 0 xss.length, .d (.int .i64 b)] X = some (.d (.int .i64 (b + total xss : Nat)), markH X k b xss) := by
  refine ev_fn (fn := f21) rfl rfl ?_
  obtain ⟨e', he, h1⟩ := l21 (hlen X) k xss hx xss.length 0 b X [(0, .slc (k + xss.length) 0 0 xss.length), (1, .d (.int .i64 b)), (5, .d (.int .i64 0))] (by omega) (by rw [List.drop_zero]; exact hb) (fun j _ hj => h.1 j hj) h.2 rfl rfl rfl
  rw [List.drop_zero, Nat.add_zero] at he
  rw [List.drop_zero] at h1
  have hl := markH_len xss X k b
  have tk := htake_self (markH X k b xss)
  rw [hl] at tk
  generalize ((b + total xss : Nat) : Int) = q at *
  generalize markH X k b xss = Y at *
  simp [-List.getD_eq_getElem?_getD, -List.map_map, evBody, evCode, evOps, evOper, evOp, opd, Env.get, Env.put, Env.keep, zipEnv, V.ok, V.sto, V.cells, D.cells, V.isAgg, binD, binInt, binStr, shInt, unD, eqOf, asI, leave, resOf, mapO, fzV, tupOf, view, view1, isData, hand, flatV, flatD, allD, mkAgg, mkVal, beq_lit, IntKind.bits, htake_self, htake_push, hget_hpush_self, hset_push, rowOf_self, okIn, lowIn, lowIn1, fzC_d, fzC_row, f21, he, h1, tk]
end Go.Proofs.YtpmphmpaeooeeaaDoor.Code

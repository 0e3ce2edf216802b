/- Lemmas (several texts in one). -/
import Derived.Test.YtpmphmpaeooeeaaDoorM3
import Derived.Lib.ItoaMem
/- Rows of rows of texts, and marking them in place. -/
namespace Go.Proofs.YtpmphmpaeooeeaaDoorO.Code
open Go Go.Ev Go.Proofs
set_option maxRecDepth 100000
set_option linter.unusedSimpArgs false
set_option linter.unusedVariables false
/-- A row's texts. -/
def dat (x : List Txt) : List V := (x.map D.str).map V.d
theorem rowT_is (x : List Txt) : rowT 0 x = .row 0 1 (dat x) := rfl
theorem dat_len (x : List Txt) : (dat x).length = x.length := by simp [dat]
def refs1 (k : Nat) : List (List Txt) → List V
  | [] => []
  | x :: r => .slc k 0 0 x.length :: refs1 (k + 1) r
theorem refs1_len : ∀ (xss : List (List Txt)) (k : Nat), (refs1 k xss).length = xss.length
  | [], _ => rfl
  | x :: r, k => by simp [refs1, refs1_len r]
theorem refs1_get : ∀ (xss : List (List Txt)) (k j : Nat), j < xss.length → (refs1 k xss)[j]? = some (.slc (k + j) 0 0 (xss.getD j []).length)
  | x :: r, k, 0, _ => by simp [refs1]
  | x :: r, k, j + 1, h => by
    simp only [List.length_cons] at h
    simp only [refs1, List.getElem?_cons_succ, List.getD_cons_succ]
    rw [refs1_get r (k + 1) j (by omega)]
    congr 2; omega
theorem rowOf_hset_ne {X : Hp} {r r' g : Nat} (o : Ev.Obj) (h : r' ≠ r) : rowOf (hset X r o) r' g = rowOf X r' g := by
  simp only [rowOf, hget_hset_ne o h]
theorem rowOf_lt {X : Hp} {r g : Nat} {p : Nat × List V} (h : rowOf X r g = some p) : r < hlen X := by
  unfold rowOf at h
  split at h
  · rename_i hg; exact hget_lt hg
  · simp at h
theorem rowOf_hset_self {X : Hp} {r : Nat} (g e : Nat) (xs : List V) (h : r < hlen X) : rowOf (hset X r (.row g e xs)) r g = some (e, xs) := by
  simp [rowOf, hget_hset_self _ h]
theorem hget_of_row {X : Hp} {r g e : Nat} {xs : List V} (h : rowOf X r g = some (e, xs)) : hget X r = some (.row g e xs) := by
  unfold rowOf at h
  split at h
  · rename_i g' e' xs' hg
    cases hb : Nat.beq g' g with
    | false => rw [hb] at h; simp at h
    | true =>
      rw [hb] at h
      have := Nat.eq_of_beq_eq_true hb
      simp only [cond_true, Option.some.injEq, Prod.mk.injEq] at h
      obtain ⟨rfl, rfl⟩ := h
      subst this
      exact hg
  · simp at h
theorem hset_as {X : Hp} {r : Nat} {o : Ev.Obj} (h : hget X r = some o) : hset X r o = X := by
  induction X generalizing r with
  | nil => rfl
  | cons x X ih =>
    cases r with
    | zero => simp only [hget, Option.some.injEq] at h; subst h; rfl
    | succ r => simp only [hget] at h; simp only [hset, ih h]
theorem dat_set (ys : List Txt) (i : Nat) (v : Txt) : (dat ys).set i (.d (.str v)) = dat (ys.set i v) := by simp [dat, List.map_set]
theorem dat_store (X : Hp) (r i : Nat) (ys : List Txt) (v : Txt) (hi : i < ys.length) (hr : rowOf X r 0 = some (1, dat ys)) : hstore X r 0 i 0 [.d (.str v)] = some (hset X r (rowT 0 (ys.set i v))) := by
  have g : (dat ys)[i]? = some (.d (.str (ys.getD i []))) := by
    simp [dat, List.getD_eq_getElem?_getD, hi]
  have h := dat_set ys i v
  rw [rowT_is, ← h]
  simp [hstore, hr, g, V.cells, reCell, V.isAgg]
theorem take_set (ys : List Txt) (i : Nat) (v : Txt) (hi : i < ys.length) : (ys.set i v).take (i + 1) = ys.take i ++ [v] := by
  rw [List.take_set, List.take_add_one, List.getElem?_eq_getElem hi, Option.toList_some]
  rw [List.set_append_right _ _ (by simp; omega)]
  have : i - (ys.take i).length = 0 := by simp; omega
  rw [this]
  rfl
theorem l52 (n0 r N : Nat) (hN : N ≤ 50000000) : ∀ (n i b : Nat) (X : Hp) (ys : List Txt) (e : Env), i + n = N → ys.length = N → b + n ≤ 50000000 → rowOf X r 0 = some (1, dat ys) → e.get 0 = .slc r 0 0 N → e.get 1 = .d (.int .i64 b) → e.get 5 = .d (.int .i64 i) →
    ∃ e', evLoop (evCode (ev R) R.glob n0 evLoop f52l0) [0, 1, 5] ⟨e, X⟩ = some (.exit 0, ⟨e', hset X r (rowT 0 (ys.take i ++ marks b n))⟩) ∧ e'.get 1 = .d (.int .i64 (b + n : Nat))
  | 0, i, b, X, ys, e, hi, hl, hb, hr, h0, h1, h5 => by
    have c : ¬ (i : Int) < (N : Int) := by omega
    have hX : hset X r (rowT 0 (ys.take i ++ marks b 0)) = X := by
      rw [marks, List.append_nil, List.take_of_length_le (by omega), rowT_is]
      exact hset_as (hget_of_row hr)
    rw [hX, evLoop_eq]
    refine ⟨?_, ?_, ?_⟩
    rotate_left
    · simp [-List.getD_eq_getElem?_getD, -List.map_map, evBody, evCode, evOps, evOper, evOp, opd, Env.get, Env.put, Env.keep, zipEnv, V.ok, V.sto, V.cells, D.cells, V.isAgg, binD, binInt, binStr, shInt, unD, eqOf, asI, leave, resOf, mapO, fzV, tupOf, view, view1, isData, hand, flatV, flatD, allD, mkAgg, mkVal, beq_lit, IntKind.bits, htake_self, htake_push, hget_hpush_self, hset_push, rowOf_self, okIn, lowIn, lowIn1, fzC_d, fzC_row, f52l0, h0, h1, h5, c]
      try rfl
    · simp [-List.getD_eq_getElem?_getD, -List.map_map, evBody, evCode, evOps, evOper, evOp, opd, Env.get, Env.put, Env.keep, zipEnv, V.ok, V.sto, V.cells, D.cells, V.isAgg, binD, binInt, binStr, shInt, unD, eqOf, asI, leave, resOf, mapO, fzV, tupOf, view, view1, isData, hand, flatV, flatD, allD, mkAgg, mkVal, beq_lit, IntKind.bits, htake_self, htake_push, hget_hpush_self, hset_push, rowOf_self, okIn, lowIn, lowIn1, fzC_d, fzC_row, h1]
  | n + 1, i, b, X, ys, e, hi, hl, hb, hr, h0, h1, h5 => by
    have c : (i : Int) < (N : Int) := by omega
    have c' : i < N := by omega
    have p := pureCall_eq (cl := ev R) fun H => e76 H b (by omega)
    have w1 : IntKind.i64.wrap ((i : Int) + 1) = ((i + 1 : Nat) : Int) := by rw [IntWalk.i64_in _ (by omega)]; rfl
    have w2 : IntKind.i64.wrap ((b : Int) + 1) = ((b + 1 : Nat) : Int) := by rw [IntWalk.i64_in _ (by omega)]; rfl
    have st := dat_store X r i ys (markV b) (by omega) hr
    have hlt := rowOf_lt hr
    have ih := l52 n0 r N hN n (i + 1) (b + 1) (hset X r (rowT 0 (ys.set i (markV b)))) (ys.set i (markV b))
    rw [take_set ys i (markV b) (by omega), hset_hset, List.append_assoc] at ih
    have em : [markV b] ++ marks (b + 1) n = marks b (n + 1) := rfl
    have eb : b + 1 + n = b + (n + 1) := by omega
    rw [em, eb] at ih
    have rr : rowOf (hset X r (rowT 0 (ys.set i (markV b)))) r 0 = some (1, dat (ys.set i (markV b))) := rowOf_hset_self 0 1 _ hlt
    generalize hset X r (rowT 0 (ys.set i (markV b))) = X' at *
    clear em
    generalize markV b = x at *
    generalize ((b + (n + 1) : Nat) : Int) = q at *
    rw [evLoop_eq]
    generalize evLoop (evCode (ev R) R.glob n0 evLoop f52l0) [0, 1, 5] = F at ih ⊢
    simp [-List.getD_eq_getElem?_getD, -List.map_map, evBody, evCode, evOps, evOper, evOp, opd, Env.get, Env.put, Env.keep, zipEnv, V.ok, V.sto, V.cells, D.cells, V.isAgg, binD, binInt, binStr, shInt, unD, eqOf, asI, leave, resOf, mapO, fzV, tupOf, view, view1, isData, hand, flatV, flatD, allD, mkAgg, mkVal, beq_lit, IntKind.bits, htake_self, htake_push, hget_hpush_self, hset_push, rowOf_self, okIn, lowIn, lowIn1, fzC_d, fzC_row, f52l0, h0, h1, h5, c, c', p, w1, w2, hr, st]
    refine ih _ (by omega) (by simp; omega) (by omega) rr ?_ ?_ ?_ <;> rfl
theorem e52 (X : Hp) (r a : Nat) (xs : List Txt) (ha : a + xs.length ≤ 50000000) (hr : rowOf X r 0 = some (1, dat xs)) : ev R 52 [.slc r 0 0 xs.length, .d (.int .i64 a)] X = some (.d (.int .i64 (a + xs.length : Nat)), hset X r (rowT 0 (marks a xs.length))) := by
  refine ev_fn (fn := f52) rfl rfl ?_
  obtain ⟨e', he, h1⟩ := l52 (hlen X) r xs.length (by omega) xs.length 0 a X xs [(0, .slc r 0 0 xs.length), (1, .d (.int .i64 a)), (5, .d (.int .i64 0))] (by omega) rfl (by omega) hr rfl rfl rfl
  rw [List.take_zero, List.nil_append] at he
  have hl := hlen_hset X r (rowT 0 (marks a xs.length))
  have tk := htake_self (hset X r (rowT 0 (marks a xs.length)))
  rw [hl] at tk
  generalize ((a + xs.length : Nat) : Int) = q at *
  generalize hset X r (rowT 0 (marks a xs.length)) = Y at *
  simp [-List.getD_eq_getElem?_getD, -List.map_map, evBody, evCode, evOps, evOper, evOp, opd, Env.get, Env.put, Env.keep, zipEnv, V.ok, V.sto, V.cells, D.cells, V.isAgg, binD, binInt, binStr, shInt, unD, eqOf, asI, leave, resOf, mapO, fzV, tupOf, view, view1, isData, hand, flatV, flatD, allD, mkAgg, mkVal, beq_lit, IntKind.bits, htake_self, htake_push, hget_hpush_self, hset_push, rowOf_self, okIn, lowIn, lowIn1, fzC_d, fzC_row, f52, he, h1, tk]
/-- The rows of k, k + 1, .. marked, and nothing else. -/
def markH (X : Hp) (k b : Nat) : List (List Txt) → Hp
  | [] => X
  | x :: r => markH (hset X k (rowT 0 (marks b x.length))) (k + 1) (b + x.length) r
theorem markH_len : ∀ (xss : List (List Txt)) (X : Hp) (k b : Nat), hlen (markH X k b xss) = hlen X
  | [], _, _, _ => rfl
  | x :: r, X, k, b => by rw [markH, markH_len r, hlen_hset]
theorem markH_ne : ∀ (xss : List (List Txt)) (X : Hp) (k b q g : Nat), q < k ∨ k + xss.length ≤ q → rowOf (markH X k b xss) q g = rowOf X q g
  | [], _, _, _, _, _, _ => rfl
  | x :: r, X, k, b, q, g, h => by
    simp only [List.length_cons] at h
    rw [markH, markH_ne r _ _ _ _ _ (by omega), rowOf_hset_ne _ (by omega)]
theorem markH_get : ∀ (xss : List (List Txt)) (X : Hp) (k b j : Nat), j < xss.length → k + xss.length ≤ hlen X → rowOf (markH X k b xss) (k + j) 0 = some (1, dat ((marksS b xss).getD j []))
  | x :: r, X, k, b, 0, h, hX => by
    simp only [List.length_cons] at hX
    rw [markH, markH_ne r _ _ _ _ _ (by omega), Nat.add_zero, rowT_is, rowOf_hset_self _ _ _ (by omega)]
    rfl
  | x :: r, X, k, b, j + 1, h, hX => by
    simp only [List.length_cons] at hX h
    rw [markH]
    have := markH_get r (hset X k (rowT 0 (marks b x.length))) (k + 1) (b + x.length) j (by omega) (by rw [hlen_hset]; omega)
    rw [show k + (j + 1) = k + 1 + j by omega, this]
    rfl
theorem refs1_marks : ∀ (xss : List (List Txt)) (k b : Nat), refs1 k (marksS b xss) = refs1 k xss
  | [], _, _ => rfl
  | x :: r, k, b => by simp only [marksS, refs1, marks_len, refs1_marks r]
/-- Rows k, k + 1, .., and the row of them. -/
def Nest (X : Hp) (k : Nat) (xss : List (List Txt)) : Prop := (∀ j, j < xss.length → rowOf X (k + j) 0 = some (1, dat (xss.getD j []))) ∧ rowOf X (k + xss.length) 0 = some (1, refs1 k xss)
theorem Nest.push {X : Hp} {k : Nat} {xss : List (List Txt)} (h : Nest X k xss) (o : Ev.Obj) : Nest (hpush X o) k xss :=
  ⟨fun j hj => rowOf_push (h.1 j hj), rowOf_push h.2⟩
theorem Nest.mark {X : Hp} {k : Nat} {xss : List (List Txt)} (h : Nest X k xss) (b : Nat) : Nest (markH X k b xss) k (marksS b xss) := by
  have hl := rowOf_lt h.2
  refine ⟨fun j hj => ?_, ?_⟩
  · rw [marksS_len] at hj
    exact markH_get xss X k b j hj (by omega)
  · rw [marksS_len, markH_ne xss X k b _ _ (by omega), refs1_marks]
    exact h.2
theorem fz_refs {X : Hp} : ∀ (xss : List (List Txt)) (k : Nat), (∀ j, j < xss.length → rowOf X (k + j) 0 = some (1, dat (xss.getD j []))) → mapO (fz 0 7 X) (refs1 k xss) = some (textss xss)
  | [], _, _ => rfl
  | x :: r, k, h => by
    have h0 := h 0 (by simp)
    simp only [Nat.add_zero, List.getD_cons_zero] at h0
    have f := fz_row (n := 0) (d := 6) (i := 0) (k := x.length) (by omega) h0 (by simp [dat]) (ys := x.map D.str) (by
      rw [List.drop_zero, List.take_of_length_le (by simp [dat])]; exact mapO_d _)
    have ih := fz_refs (X := X) r (k + 1) (fun j hj => by
      have := h (j + 1) (by simp; omega)
      rw [show k + (j + 1) = k + 1 + j by omega, List.getD_cons_succ] at this
      exact this)
    simp only [refs1, mapO, f, ih]
    rfl
theorem Nest.fz {X : Hp} {k : Nat} {xss : List (List Txt)} (h : Nest X k xss) : Ev.fz 0 deep X (.slc (k + xss.length) 0 0 xss.length) = some (.vals 1 (textss xss)) := by
  have f := fz_row (n := 0) (d := 7) (i := 0) (k := xss.length) (by omega) h.2 (by rw [refs1_len]; omega) (ys := textss xss) (by
    rw [List.drop_zero, List.take_of_length_le (by rw [refs1_len]; omega)]; exact fz_refs xss k h.1)
  rw [show deep = 7 + 1 from rfl]
  exact f
theorem allD_refs (xss : List (List Txt)) (k : Nat) (h : xss ≠ []) : allD (refs1 k xss) = none := by
  cases xss with
  | nil => exact absurd rfl h
  | cons x r => rfl
theorem Nest.view {X : Hp} {k : Nat} {xss : List (List Txt)} (h : Nest X k xss) (hn : xss ≠ []) : Ev.view X (.slc (k + xss.length) 0 0 xss.length) = some (.vals 1 (textss xss)) := by
  have h2 := h.2
  have h3 := h.fz
  have a := allD_refs xss k hn
  simp only [Ev.view, view1, h2, a, refs1_len, h3]
  simp
theorem l21 (n0 k : Nat) (xss : List (List Txt)) (hx : xss.length ≤ 50000000) : ∀ (n i b : Nat) (X : Hp) (e : Env), i + n = xss.length → b + total (xss.drop i) ≤ 50000000 → (∀ j, i ≤ j → j < xss.length → rowOf X (k + j) 0 = some (1, dat (xss.getD j []))) → rowOf X (k + xss.length) 0 = some (1, refs1 k xss) → e.get 0 = .slc (k + xss.length) 0 0 xss.length → e.get 1 = .d (.int .i64 b) → e.get 5 = .d (.int .i64 i) →
    ∃ e', evLoop (evCode (ev R) R.glob n0 evLoop f21l0) [0, 1, 5] ⟨e, X⟩ = some (.exit 0, ⟨e', markH X (k + i) b (xss.drop i)⟩) ∧ e'.get 1 = .d (.int .i64 (b + total (xss.drop i) : Nat))
  | 0, i, b, X, e, hi, hb, hj, hr, h0, h1, h5 => by
    have c : ¬ (i : Int) < (xss.length : Int) := by omega
    have c' : ¬ i < xss.length := by omega
    rw [List.drop_of_length_le (by omega), markH, total, Nat.add_zero, evLoop_eq]
    refine ⟨?_, ?_, ?_⟩
    rotate_left
    · simp [-List.getD_eq_getElem?_getD, -List.map_map, evBody, evCode, evOps, evOper, evOp, opd, Env.get, Env.put, Env.keep, zipEnv, V.ok, V.sto, V.cells, D.cells, V.isAgg, binD, binInt, binStr, shInt, unD, eqOf, asI, leave, resOf, mapO, fzV, tupOf, view, view1, isData, hand, flatV, flatD, allD, mkAgg, mkVal, beq_lit, IntKind.bits, htake_self, htake_push, hget_hpush_self, hset_push, rowOf_self, okIn, lowIn, lowIn1, fzC_d, fzC_row, f21l0, h0, h1, h5, c, c']
      try rfl
    · simp [-List.getD_eq_getElem?_getD, -List.map_map, evBody, evCode, evOps, evOper, evOp, opd, Env.get, Env.put, Env.keep, zipEnv, V.ok, V.sto, V.cells, D.cells, V.isAgg, binD, binInt, binStr, shInt, unD, eqOf, asI, leave, resOf, mapO, fzV, tupOf, view, view1, isData, hand, flatV, flatD, allD, mkAgg, mkVal, beq_lit, IntKind.bits, htake_self, htake_push, hget_hpush_self, hset_push, rowOf_self, okIn, lowIn, lowIn1, fzC_d, fzC_row, h1]
  | n + 1, i, b, X, e, hi, hb, hj, hr, h0, h1, h5 => by
    have c : (i : Int) < (xss.length : Int) := by omega
    have c' : i < xss.length := by omega
    have hd : xss.drop i = xss.getD i [] :: xss.drop (i + 1) := by
      rw [List.getD_eq_getElem?_getD, List.getElem?_eq_getElem c']
      exact List.drop_eq_getElem_cons c'
    rw [hd, total] at hb
    rw [hd, markH, total]
    have hx' := hj i (Nat.le_refl _) c'
    have ld : hload X (k + xss.length) 0 i 0 1 = some [.slc (k + i) 0 0 (xss.getD i []).length] := by
      simp [hload, hr, refs1_get xss k i c', V.cells]
    obtain ⟨x, hxi⟩ : ∃ x, xss.getD i [] = x := ⟨_, rfl⟩
    rw [hxi] at hb hx' ld ⊢
    have q := e52 X (k + i) b x (by omega) hx'
    have w1 : IntKind.i64.wrap ((i : Int) + 1) = ((i + 1 : Nat) : Int) := by rw [IntWalk.i64_in _ (by omega)]; rfl
    have ih := l21 n0 k xss hx n (i + 1) (b + x.length) (hset X (k + i) (rowT 0 (marks b x.length)))
    have e1 : b + x.length + total (xss.drop (i + 1)) = b + (x.length + total (xss.drop (i + 1))) := by omega
    have e2 : k + (i + 1) = k + i + 1 := by omega
    rw [e1, e2] at ih
    have j1 : ∀ j, i + 1 ≤ j → j < xss.length → rowOf (hset X (k + i) (rowT 0 (marks b x.length))) (k + j) 0 = some (1, dat (xss.getD j [])) := fun j h1 h2 => by
      rw [rowOf_hset_ne _ (by omega)]; exact hj j (by omega) h2
    have j2 : rowOf (hset X (k + i) (rowT 0 (marks b x.length))) (k + xss.length) 0 = some (1, refs1 k xss) := by
      rw [rowOf_hset_ne _ (by omega)]; exact hr
    generalize hset X (k + i) (rowT 0 (marks b x.length)) = X' at *
    generalize ((b + x.length : Nat) : Int) = z1 at *
    generalize ((b + (x.length + total (xss.drop (i + 1))) : Nat) : Int) = z2 at *
    generalize k + xss.length = K at *
    generalize k + i = K1 at *
    rw [evLoop_eq]
    generalize evLoop (evCode (ev R) R.glob n0 evLoop f21l0) [0, 1, 5] = F at ih ⊢
    simp [-List.getD_eq_getElem?_getD, -List.map_map, evBody, evCode, evOps, evOper, evOp, opd, Env.get, Env.put, Env.keep, zipEnv, V.ok, V.sto, V.cells, D.cells, V.isAgg, binD, binInt, binStr, shInt, unD, eqOf, asI, leave, resOf, mapO, fzV, tupOf, view, view1, isData, hand, flatV, flatD, allD, mkAgg, mkVal, beq_lit, IntKind.bits, htake_self, htake_push, hget_hpush_self, hset_push, rowOf_self, okIn, lowIn, lowIn1, fzC_d, fzC_row, f21l0, h0, h1, h5, c, c', q, w1, hr, ld]
    refine ih _ (by omega) (by omega) j1 j2 ?_ ?_ ?_ <;> rfl
theorem e21 (X : Hp) (k b : Nat) (xss : List (List Txt)) (hx : xss.length ≤ 50000000) (hb : b + total xss ≤ 50000000) (h : Nest X k xss) : ev R 21 [.slc (k + xss.length) 0 0 xss.length, .d (.int .i64 b)] X = some (.d (.int .i64 (b + total xss : Nat)), markH X k b xss) := by
  refine ev_fn (fn := f21) rfl rfl ?_
  obtain ⟨e', he, h1⟩ := l21 (hlen X) k xss hx xss.length 0 b X [(0, .slc (k + xss.length) 0 0 xss.length), (1, .d (.int .i64 b)), (5, .d (.int .i64 0))] (by omega) (by rw [List.drop_zero]; exact hb) (fun j _ hj => h.1 j hj) h.2 rfl rfl rfl
  rw [List.drop_zero, Nat.add_zero] at he
  rw [List.drop_zero] at h1
  have hl := markH_len xss X k b
  have tk := htake_self (markH X k b xss)
  rw [hl] at tk
  generalize ((b + total xss : Nat) : Int) = q at *
  generalize markH X k b xss = Y at *
  simp [-List.getD_eq_getElem?_getD, -List.map_map, evBody, evCode, evOps, evOper, evOp, opd, Env.get, Env.put, Env.keep, zipEnv, V.ok, V.sto, V.cells, D.cells, V.isAgg, binD, binInt, binStr, shInt, unD, eqOf, asI, leave, resOf, mapO, fzV, tupOf, view, view1, isData, hand, flatV, flatD, allD, mkAgg, mkVal, beq_lit, IntKind.bits, htake_self, htake_push, hget_hpush_self, hset_push, rowOf_self, okIn, lowIn, lowIn1, fzC_d, fzC_row, f21, he, h1, tk]
end Go.Proofs.YtpmphmpaeooeeaaDoorO.Code
/- Entries, copied: each list a row of its own. -/
namespace Go.Proofs.YtpmphmpaeooeeaaDoorO.Code
open Go Go.Ev Go.Proofs
set_option maxRecDepth 100000
set_option linter.unusedSimpArgs false
set_option linter.unusedVariables false
/-- A row that is being filled with data. -/
def fillD (z : V) (ds : List D) (i : Nat) : List V := (ds.take i).map V.d ++ List.replicate (ds.length - i) z
theorem fillD_zero (z : V) (ds : List D) : fillD z ds 0 = List.replicate ds.length z := by simp [fillD]
theorem fillD_all (z : V) (ds : List D) : fillD z ds ds.length = ds.map V.d := by simp [fillD]
theorem fillD_get (z : V) (ds : List D) (i : Nat) (hi : i < ds.length) : (fillD z ds i)[i]? = some z := by
  unfold fillD
  rw [List.getElem?_append_right (by simp; omega)]
  have : i - ((ds.take i).map V.d).length = 0 := by simp; omega
  rw [this, List.getElem?_replicate, if_pos (by omega)]
theorem fillD_set (z : V) (ds : List D) (i : Nat) (hi : i < ds.length) : (fillD z ds i).set i (V.d (ds.getD i .nilp)) = fillD z ds (i + 1) := by
  unfold fillD
  have h1 : ((ds.take i).map V.d).length = i := by simp; omega
  rw [List.set_append_right _ _ (by omega), h1, Nat.sub_self]
  obtain ⟨m, hm⟩ : ∃ m, ds.length - i = m + 1 := ⟨ds.length - i - 1, by omega⟩
  have h2 : ds.length - (i + 1) = m := by omega
  rw [hm, h2, List.replicate_succ, List.set_cons_zero]
  have h3 : ds.take (i + 1) = ds.take i ++ [ds.getD i .nilp] := by
    rw [List.take_add_one]
    simp [List.getD_eq_getElem?_getD, hi]
  rw [h3]
  simp
theorem fillA_store (H : Hp) (e : Nat) (ds : List D) (i : Nat) (a b y z : D) (hi : i < ds.length) (hx : ds.getD i .nilp = .agg [a, b]) : hstore (hpush H (.row 0 e (fillD (.d (.agg [y, z])) ds i))) (hlen H) 0 i 0 [.d a, .d b] = some (hpush H (.row 0 e (fillD (.d (.agg [y, z])) ds (i + 1)))) := by
  have st := fillD_set (.d (.agg [y, z])) ds i hi
  rw [hx] at st
  simp [hstore, rowOf_self, fillD_get (.d (.agg [y, z])) ds i hi, V.cells, reCell, V.isAgg, mkAgg, allD, hset_push, st]
section
variable (H : Hp) (a b c d : Ev.Obj)
theorem get2_0 : hget (hpush (hpush H a) b) (hlen H) = some a := by rw [hget_hpush_lt _ (by rw [hlen_hpush]; omega), hget_hpush_self]
theorem get2_1 : hget (hpush (hpush H a) b) (hlen H + 1) = some b := by rw [← hlen_hpush H a, hget_hpush_self]
theorem get3_0 : hget (hpush (hpush (hpush H a) b) c) (hlen H) = some a := by rw [hget_hpush_lt _ (by simp only [hlen_hpush]; omega), get2_0]
theorem get3_1 : hget (hpush (hpush (hpush H a) b) c) (hlen H + 1) = some b := by rw [hget_hpush_lt _ (by simp only [hlen_hpush]; omega), get2_1]
theorem get3_2 : hget (hpush (hpush (hpush H a) b) c) (hlen H + 1 + 1) = some c := by rw [← hlen_hpush H a, ← hlen_hpush (hpush H a) b, hget_hpush_self]
theorem set3_1 : hset (hpush (hpush (hpush H a) b) c) (hlen H + 1) d = hpush (hpush (hpush H a) d) c := by
  rw [hset_push_lt (by simp only [hlen_hpush]; omega), ← hlen_hpush H a, hset_push]
theorem set3_2 : hset (hpush (hpush (hpush H a) b) c) (hlen H + 1 + 1) d = hpush (hpush (hpush H a) b) d := by
  rw [← hlen_hpush H a, ← hlen_hpush (hpush H a) b, hset_push]
theorem take3 : htake (hpush (hpush (hpush H a) b) c) (hlen H) = H := by simp [htake, hpush, hlen]
end
theorem e85 (H : Hp) (x : Txt) (n : Int) : ev R 85 [.d (.agg [.str x, .int .i64 n])] H = some (.d (.agg [.str x, .int .i64 n]), H) := by
  refine ev_fn (fn := f85) rfl rfl ?_
  simp [-List.getD_eq_getElem?_getD, -List.map_map, evBody, evCode, evOps, evOper, evOp, opd, Env.get, Env.put, Env.keep, zipEnv, V.ok, V.sto, V.cells, D.cells, V.isAgg, binD, binInt, binStr, shInt, unD, eqOf, asI, leave, resOf, mapO, fzV, tupOf, view, view1, isData, hand, flatV, flatD, allD, mkAgg, mkVal, beq_lit, IntKind.bits, htake_self, htake_push, hget_hpush_self, hset_push, rowOf_self, okIn, lowIn, lowIn1, fzC_d, fzC_row, f85, hlen_hpush, hload, hstore, rowOf, reCell, get3_0, get3_1, get3_2, set3_1, set3_2, take3]
theorem e86 (H : Hp) (x y : Txt) : ev R 86 [.d (.agg [.str x, .str y])] H = some (.d (.agg [.str x, .str y]), H) := by
  refine ev_fn (fn := f86) rfl rfl ?_
  simp [-List.getD_eq_getElem?_getD, -List.map_map, evBody, evCode, evOps, evOper, evOp, opd, Env.get, Env.put, Env.keep, zipEnv, V.ok, V.sto, V.cells, D.cells, V.isAgg, binD, binInt, binStr, shInt, unD, eqOf, asI, leave, resOf, mapO, fzV, tupOf, view, view1, isData, hand, flatV, flatD, allD, mkAgg, mkVal, beq_lit, IntKind.bits, htake_self, htake_push, hget_hpush_self, hset_push, rowOf_self, okIn, lowIn, lowIn1, fzC_d, fzC_row, f86, hlen_hpush, hload, hstore, rowOf, reCell, get3_0, get3_1, get3_2, set3_1, set3_2, take3]
theorem e33 (H : Hp) (xs : List Txt) (hx : (xs.length : Int) * 16 ≤ 140737488355328) : ev R 33 [.d (txts xs)] H = some (.slc (hlen H) 0 0 xs.length, hpush H (rowT 0 xs)) := by
  refine ev_fn (fn := f33) rfl rfl ?_
  obtain ⟨e', he, h3⟩ := l33 (hlen H) xs (by omega) H xs.length 0 [(0, .d (txts xs)), (3, .slc (hlen H) 0 0 xs.length), (4, .d (.int .i64 0))] (by omega) rfl rfl rfl
  rw [filled_zero] at he
  simp only [txts] at he
  have r : (xs.length : Int) * 16 ≤ (room : Int) := by unfold room; omega
  have a := allD_d (xs.map D.str)
  have hr := rowT_row (H := H) (k := 0) (ts := xs) rfl
  have e1 : Ev.Obj.row 0 1 ((xs.map D.str).map V.d) = rowT 0 xs := rfl
  rw [e1] at he
  have tk := htake_push H (rowT 0 xs)
  generalize (xs.map D.str).map V.d = vs at a hr e1
  generalize rowT 0 xs = o at *
  simp [-List.getD_eq_getElem?_getD, -List.map_map, evBody, evCode, evOps, evOper, evOp, opd, Env.get, Env.put, Env.keep, zipEnv, V.ok, V.sto, V.cells, D.cells, V.isAgg, binD, binInt, binStr, shInt, unD, eqOf, asI, leave, resOf, mapO, fzV, tupOf, view, view1, isData, hand, flatV, flatD, allD, mkAgg, mkVal, beq_lit, IntKind.bits, htake_self, htake_push, hget_hpush_self, hset_push, rowOf_self, okIn, lowIn, lowIn1, fzC_d, fzC_row, f33, txts, he, h3, r, ownL, ownCs, own1, a, hr, tk, e1, ownEs, ownEl, layer]
theorem l58 (n0 : Nat) (xs : List Sc) (hx : xs.length ≤ 9223372036854775807) (H : Hp) : ∀ (n i : Nat) (e : Env), i + n = xs.length → e.get 0 = .d (.vals 2 (xs.map scD)) → e.get 3 = .slc (hlen H) 0 0 xs.length → e.get 4 = .d (.int .i64 i) →
    ∃ e', evLoop (evCode (ev R) R.glob n0 evLoop f58l0) [0, 3, 4] ⟨e, hpush H (.row 0 2 (fillD (.d (.agg [.str [], .int .i64 0])) (xs.map scD) i))⟩ = some (.exit 0, ⟨e', hpush H (.row 0 2 ((xs.map scD).map V.d))⟩) ∧ e'.get 3 = .slc (hlen H) 0 0 xs.length
  | 0, i, e, hn, h0, h3, h4 => by
    have c : ¬ (i : Int) < (xs.length : Int) := by omega
    have c' : ¬ i < xs.length := by omega
    have hi : i = (xs.map scD).length := by rw [List.length_map]; omega
    rw [hi, fillD_all (.d (.agg [.str [], .int .i64 0])), evLoop_eq]
    generalize (xs.map scD).map V.d = vs
    refine ⟨?_, ?_, ?_⟩
    rotate_left
    · simp [-List.getD_eq_getElem?_getD, -List.map_map, evBody, evCode, evOps, evOper, evOp, opd, Env.get, Env.put, Env.keep, zipEnv, V.ok, V.sto, V.cells, D.cells, V.isAgg, binD, binInt, binStr, shInt, unD, eqOf, asI, leave, resOf, mapO, fzV, tupOf, view, view1, isData, hand, flatV, flatD, allD, mkAgg, mkVal, beq_lit, IntKind.bits, htake_self, htake_push, hget_hpush_self, hset_push, rowOf_self, okIn, lowIn, lowIn1, fzC_d, fzC_row, f58l0, h0, h3, h4, c, c']
      try rfl
    · simp [-List.getD_eq_getElem?_getD, -List.map_map, evBody, evCode, evOps, evOper, evOp, opd, Env.get, Env.put, Env.keep, zipEnv, V.ok, V.sto, V.cells, D.cells, V.isAgg, binD, binInt, binStr, shInt, unD, eqOf, asI, leave, resOf, mapO, fzV, tupOf, view, view1, isData, hand, flatV, flatD, allD, mkAgg, mkVal, beq_lit, IntKind.bits, htake_self, htake_push, hget_hpush_self, hset_push, rowOf_self, okIn, lowIn, lowIn1, fzC_d, fzC_row, h3]
  | n + 1, i, e, hn, h0, h3, h4 => by
    have c' : i < xs.length := by omega
    have c : (i : Int) < (xs.length : Int) := by omega
    have g := scs_get xs i c'
    have p := pureCall_eq (cl := ev R) fun H => e85 H (xs.getD i ([], 0)).1 (xs.getD i ([], 0)).2
    have w1 : IntKind.i64.wrap ((i : Int) + 1) = ((i + 1 : Nat) : Int) := by rw [IntWalk.i64_in _ (by omega)]; rfl
    have st := fillA_store H 2 (xs.map scD) i _ _ (.str []) (.int .i64 0) (by rw [List.length_map]; exact c') g
    have ih := l58 n0 xs hx H n (i + 1)
    generalize (xs.getD i ([], 0)) = X at *
    generalize fillD (.d (.agg [.str [], .int .i64 0])) (xs.map scD) (i + 1) = V1 at *
    have rr : rowOf (hpush H (.row 0 2 (fillD (.d (.agg [.str [], .int .i64 0])) (xs.map scD) i))) (hlen H) 0 = some (2, fillD (.d (.agg [.str [], .int .i64 0])) (xs.map scD) i) := rowOf_self _ _ _ _
    generalize hpush H (.row 0 2 (fillD (.d (.agg [.str [], .int .i64 0])) (xs.map scD) i)) = H0 at *
    generalize fillD (.d (.agg [.str [], .int .i64 0])) (xs.map scD) i = V0 at *
    rw [evLoop_eq]
    generalize evLoop (evCode (ev R) R.glob n0 evLoop f58l0) [0, 3, 4] = F at ih ⊢
    simp [-List.getD_eq_getElem?_getD, -List.map_map, evBody, evCode, evOps, evOper, evOp, opd, Env.get, Env.put, Env.keep, zipEnv, V.ok, V.sto, V.cells, D.cells, V.isAgg, binD, binInt, binStr, shInt, unD, eqOf, asI, leave, resOf, mapO, fzV, tupOf, view, view1, isData, hand, flatV, flatD, allD, mkAgg, mkVal, beq_lit, IntKind.bits, htake_self, htake_push, hget_hpush_self, hset_push, rowOf_self, okIn, lowIn, lowIn1, fzC_d, fzC_row, f58l0, h0, h3, h4, c, c', g, p, w1, st, rr]
    refine ih _ (by omega) ?_ ?_ ?_ <;> rfl
theorem e58 (H : Hp) (xs : List Sc) (hx : (xs.length : Int) * 24 ≤ 140737488355328) : ev R 58 [.d (.vals 2 (xs.map scD))] H = some (.slc (hlen H) 0 0 xs.length, hpush H (.row 0 2 ((xs.map scD).map V.d))) := by
  refine ev_fn (fn := f58) rfl rfl ?_
  obtain ⟨e', he, h3⟩ := l58 (hlen H) xs (by omega) H xs.length 0 [(0, .d (.vals 2 (xs.map scD))), (3, .slc (hlen H) 0 0 xs.length), (4, .d (.int .i64 0))] (by omega) rfl rfl rfl
  rw [fillD_zero, List.length_map] at he
  have r : (xs.length : Int) * 24 ≤ (room : Int) := by unfold room; omega
  have a := allD_d (xs.map scD)
  have hr := rowOf_self H 0 2 ((xs.map scD).map V.d)
  have tk := htake_push H (.row 0 2 ((xs.map scD).map V.d))
  generalize (xs.map scD).map V.d = vs at *
  simp [-List.getD_eq_getElem?_getD, -List.map_map, evBody, evCode, evOps, evOper, evOp, opd, Env.get, Env.put, Env.keep, zipEnv, V.ok, V.sto, V.cells, D.cells, V.isAgg, binD, binInt, binStr, shInt, unD, eqOf, asI, leave, resOf, mapO, fzV, tupOf, view, view1, isData, hand, flatV, flatD, allD, mkAgg, mkVal, beq_lit, IntKind.bits, htake_self, htake_push, hget_hpush_self, hset_push, rowOf_self, okIn, lowIn, lowIn1, fzC_d, fzC_row, f58, he, h3, r, ownL, ownCs, own1, a, hr, tk, ownEs, ownEl, layer]
theorem l59 (n0 : Nat) (xs : List Pr) (hx : xs.length ≤ 9223372036854775807) (H : Hp) : ∀ (n i : Nat) (e : Env), i + n = xs.length → e.get 0 = .d (.vals 2 (xs.map prD)) → e.get 3 = .slc (hlen H) 0 0 xs.length → e.get 4 = .d (.int .i64 i) →
    ∃ e', evLoop (evCode (ev R) R.glob n0 evLoop f59l0) [0, 3, 4] ⟨e, hpush H (.row 0 2 (fillD (.d (.agg [.str [], .str []])) (xs.map prD) i))⟩ = some (.exit 0, ⟨e', hpush H (.row 0 2 ((xs.map prD).map V.d))⟩) ∧ e'.get 3 = .slc (hlen H) 0 0 xs.length
  | 0, i, e, hn, h0, h3, h4 => by
    have c : ¬ (i : Int) < (xs.length : Int) := by omega
    have c' : ¬ i < xs.length := by omega
    have hi : i = (xs.map prD).length := by rw [List.length_map]; omega
    rw [hi, fillD_all (.d (.agg [.str [], .str []])), evLoop_eq]
    generalize (xs.map prD).map V.d = vs
    refine ⟨?_, ?_, ?_⟩
    rotate_left
    · simp [-List.getD_eq_getElem?_getD, -List.map_map, evBody, evCode, evOps, evOper, evOp, opd, Env.get, Env.put, Env.keep, zipEnv, V.ok, V.sto, V.cells, D.cells, V.isAgg, binD, binInt, binStr, shInt, unD, eqOf, asI, leave, resOf, mapO, fzV, tupOf, view, view1, isData, hand, flatV, flatD, allD, mkAgg, mkVal, beq_lit, IntKind.bits, htake_self, htake_push, hget_hpush_self, hset_push, rowOf_self, okIn, lowIn, lowIn1, fzC_d, fzC_row, f59l0, h0, h3, h4, c, c']
      try rfl
    · simp [-List.getD_eq_getElem?_getD, -List.map_map, evBody, evCode, evOps, evOper, evOp, opd, Env.get, Env.put, Env.keep, zipEnv, V.ok, V.sto, V.cells, D.cells, V.isAgg, binD, binInt, binStr, shInt, unD, eqOf, asI, leave, resOf, mapO, fzV, tupOf, view, view1, isData, hand, flatV, flatD, allD, mkAgg, mkVal, beq_lit, IntKind.bits, htake_self, htake_push, hget_hpush_self, hset_push, rowOf_self, okIn, lowIn, lowIn1, fzC_d, fzC_row, h3]
  | n + 1, i, e, hn, h0, h3, h4 => by
    have c' : i < xs.length := by omega
    have c : (i : Int) < (xs.length : Int) := by omega
    have g := prs_get xs i c'
    have p := pureCall_eq (cl := ev R) fun H => e86 H (xs.getD i ([], [])).1 (xs.getD i ([], [])).2
    have w1 : IntKind.i64.wrap ((i : Int) + 1) = ((i + 1 : Nat) : Int) := by rw [IntWalk.i64_in _ (by omega)]; rfl
    have st := fillA_store H 2 (xs.map prD) i _ _ (.str []) (.str []) (by rw [List.length_map]; exact c') g
    have ih := l59 n0 xs hx H n (i + 1)
    generalize (xs.getD i ([], [])) = X at *
    generalize fillD (.d (.agg [.str [], .str []])) (xs.map prD) (i + 1) = V1 at *
    have rr : rowOf (hpush H (.row 0 2 (fillD (.d (.agg [.str [], .str []])) (xs.map prD) i))) (hlen H) 0 = some (2, fillD (.d (.agg [.str [], .str []])) (xs.map prD) i) := rowOf_self _ _ _ _
    generalize hpush H (.row 0 2 (fillD (.d (.agg [.str [], .str []])) (xs.map prD) i)) = H0 at *
    generalize fillD (.d (.agg [.str [], .str []])) (xs.map prD) i = V0 at *
    rw [evLoop_eq]
    generalize evLoop (evCode (ev R) R.glob n0 evLoop f59l0) [0, 3, 4] = F at ih ⊢
    simp [-List.getD_eq_getElem?_getD, -List.map_map, evBody, evCode, evOps, evOper, evOp, opd, Env.get, Env.put, Env.keep, zipEnv, V.ok, V.sto, V.cells, D.cells, V.isAgg, binD, binInt, binStr, shInt, unD, eqOf, asI, leave, resOf, mapO, fzV, tupOf, view, view1, isData, hand, flatV, flatD, allD, mkAgg, mkVal, beq_lit, IntKind.bits, htake_self, htake_push, hget_hpush_self, hset_push, rowOf_self, okIn, lowIn, lowIn1, fzC_d, fzC_row, f59l0, h0, h3, h4, c, c', g, p, w1, st, rr]
    refine ih _ (by omega) ?_ ?_ ?_ <;> rfl
theorem e59 (H : Hp) (xs : List Pr) (hx : (xs.length : Int) * 32 ≤ 140737488355328) : ev R 59 [.d (.vals 2 (xs.map prD))] H = some (.slc (hlen H) 0 0 xs.length, hpush H (.row 0 2 ((xs.map prD).map V.d))) := by
  refine ev_fn (fn := f59) rfl rfl ?_
  obtain ⟨e', he, h3⟩ := l59 (hlen H) xs (by omega) H xs.length 0 [(0, .d (.vals 2 (xs.map prD))), (3, .slc (hlen H) 0 0 xs.length), (4, .d (.int .i64 0))] (by omega) rfl rfl rfl
  rw [fillD_zero, List.length_map] at he
  have r : (xs.length : Int) * 32 ≤ (room : Int) := by unfold room; omega
  have a := allD_d (xs.map prD)
  have hr := rowOf_self H 0 2 ((xs.map prD).map V.d)
  have tk := htake_push H (.row 0 2 ((xs.map prD).map V.d))
  generalize (xs.map prD).map V.d = vs at *
  simp [-List.getD_eq_getElem?_getD, -List.map_map, evBody, evCode, evOps, evOper, evOp, opd, Env.get, Env.put, Env.keep, zipEnv, V.ok, V.sto, V.cells, D.cells, V.isAgg, binD, binInt, binStr, shInt, unD, eqOf, asI, leave, resOf, mapO, fzV, tupOf, view, view1, isData, hand, flatV, flatD, allD, mkAgg, mkVal, beq_lit, IntKind.bits, htake_self, htake_push, hget_hpush_self, hset_push, rowOf_self, okIn, lowIn, lowIn1, fzC_d, fzC_row, f59, he, h3, r, ownL, ownCs, own1, a, hr, tk, ownEs, ownEl, layer]
end Go.Proofs.YtpmphmpaeooeeaaDoorO.Code
/- An entry copied: its lists are rows of their own. -/
namespace Go.Proofs.YtpmphmpaeooeeaaDoorO.Code
open Go Go.Ev Go.Proofs
set_option maxRecDepth 100000
set_option linter.unusedSimpArgs false
set_option linter.unusedVariables false
/-- Objects behind a heap. -/
def ap (H l : Hp) : Hp := (H : List Ev.Obj) ++ l
theorem ap0 (H : Hp) (o : Ev.Obj) : hpush H o = ap H [o] := rfl
theorem ap_nil (H : Hp) : ap H [] = H := List.append_nil _
theorem ap_push (H l : Hp) (o : Ev.Obj) : hpush (ap H l) o = ap H ((l : List Ev.Obj) ++ [o]) := by simp [ap, hpush]
theorem ap_len (H l : Hp) : hlen (ap H l) = hlen H + l.length := by simp [ap, hlen]
theorem hget_at : ∀ (H : Hp) (r : Nat), hget H r = H[r]?
  | [], _ => rfl
  | o :: H, 0 => rfl
  | o :: H, r + 1 => by simp only [hget, List.getElem?_cons_succ, hget_at H r]
theorem hset_at : ∀ (H : Hp) (r : Nat) (o : Ev.Obj), hset H r o = H.set r o
  | [], _, _ => rfl
  | x :: H, 0, _ => rfl
  | x :: H, r + 1, o => by simp only [hset, List.set_cons_succ, hset_at H r]
theorem ap_get (H l : Hp) (k : Nat) : hget (ap H l) (hlen H + k) = hget l k := by
  rw [hget_at, hget_at, ap, List.getElem?_append_right (by simp [hlen])]
  simp [hlen]
theorem ap_get0 (H l : Hp) : hget (ap H l) (hlen H) = hget l 0 := ap_get H l 0
theorem ap_set (H l : Hp) (k : Nat) (o : Ev.Obj) : hset (ap H l) (hlen H + k) o = ap H (hset l k o) := by
  rw [hset_at, hset_at, ap, List.set_append_right _ _ (by simp [hlen])]
  simp [hlen, ap]
theorem ap_set0 (H l : Hp) (o : Ev.Obj) : hset (ap H l) (hlen H) o = ap H (hset l 0 o) := ap_set H l 0 o
theorem ap_take (H l : Hp) : htake (ap H l) (hlen H) = H := by simp [ap, htake, hlen]
theorem ap_nlt (H : Hp) (k : Nat) : ¬ hlen H + k < hlen H := by omega
theorem ap_nlt0 (H : Hp) : ¬ hlen H < hlen H := by omega
theorem ap_ble (H : Hp) (k : Nat) : (hlen H).ble (hlen H + k) = true := by simp
def rowS (xs : List Sc) : Ev.Obj := .row 0 2 ((xs.map scD).map V.d)
def rowP (xs : List Pr) : Ev.Obj := .row 0 2 ((xs.map prD).map V.d)
/-- An entry whose lists lie in the rows r, r + 1, r + 2. -/
def enV (r : Nat) (e : En) : V := .agg [.d (.str e.key), .d (.int .i64 e.till), .d (.int .i64 e.kind), .d (.str e.text), .slc r 0 0 e.list.length, .slc (r + 1) 0 0 e.scores.length, .slc (r + 2) 0 0 e.fields.length]
def enH (e : En) : Hp := [rowT 0 e.list, rowS e.scores, rowP e.fields]
theorem e25 (H : Hp) (e : En) (h1 : (e.list.length : Int) * 16 ≤ 140737488355328) (h2 : (e.scores.length : Int) * 24 ≤ 140737488355328) (h3 : (e.fields.length : Int) * 32 ≤ 140737488355328) : ev R 25 [.d (enD e)] H = some (enV (hlen H) e, ap H (enH e)) := by
  refine ev_fn (fn := f25) rfl rfl ?_
  have q1 := fun X => e33 X e.list h1
  have q2 := fun X => e58 X e.scores h2
  have q3 := fun X => e59 X e.fields h3
  have a1 := allD_d (e.list.map D.str)
  have a2 := allD_d (e.scores.map scD)
  have a3 := allD_d (e.fields.map prD)
  have z := ap0 H
  have zl := ap_nlt H
  have zb := ap_ble H
  have g1 := ap_get H
  have s1 := ap_set H
  have t1 := ap_take H
  unfold enV enH enD txts scs prs rowS rowP
  simp only [txts] at q1
  generalize e.list.length = n1 at *
  generalize e.scores.length = n2 at *
  generalize e.fields.length = n3 at *
  obtain ⟨o1, ho1⟩ : ∃ o, rowT 0 e.list = o := ⟨_, rfl⟩
  have w1 : rowT 0 e.list = .row 0 1 ((e.list.map D.str).map V.d) := rfl
  simp only [w1] at q1 ⊢
  generalize (e.list.map D.str).map V.d = v1 at *
  generalize (e.scores.map scD).map V.d = v2 at *
  generalize (e.fields.map prD).map V.d = v3 at *
  generalize e.list.map D.str = d1 at *
  generalize e.scores.map scD = d2 at *
  generalize e.fields.map prD = d3 at *
  simp [-List.getD_eq_getElem?_getD, -List.map_map, evBody, evCode, evOps, evOper, evOp, opd, Env.get, Env.put, Env.keep, zipEnv, V.ok, V.sto, V.cells, D.cells, V.isAgg, binD, binInt, binStr, shInt, unD, eqOf, asI, leave, resOf, mapO, fzV, tupOf, view, view1, isData, hand, flatV, flatD, allD, mkAgg, mkVal, beq_lit, IntKind.bits, htake_self, htake_push, hget_hpush_self, hset_push, rowOf_self, okIn, lowIn, lowIn1, fzC_d, fzC_row, f25, z, ap_push, ap_len, ap_get0, g1, ap_set0, s1, t1, zl, zb, hget, hset, rowOf, hload, hstore, reCell, q1, q2, q3, ownL, ownCs, own1, a1, a2, a3, ownEs, ownEl, layer]
end Go.Proofs.YtpmphmpaeooeeaaDoorO.Code
/- A list of lists that is being made: its rows, wherever they lie, and how they are handed over. -/
namespace Go.Proofs.YtpmphmpaeooeeaaDoorO.Code
open Go Go.Ev Go.Proofs
set_option maxRecDepth 100000
set_option linter.unusedSimpArgs false
set_option linter.unusedVariables false
abbrev Li := Nat × Nat × List Txt
def refsL (L : List Li) : List V := L.map fun p => .slc p.1 p.2.1 0 p.2.2.length
def listsL (L : List Li) : List (List Txt) := L.map fun p => p.2.2
theorem refsL_len (L : List Li) : (refsL L).length = L.length := by simp [refsL]
theorem listsL_len (L : List Li) : (listsL L).length = L.length := by simp [listsL]
theorem refsL_snoc (L : List Li) (k g : Nat) (x : List Txt) : refsL (L ++ [(k, g, x)]) = refsL L ++ [.slc k g 0 x.length] := by simp [refsL]
theorem listsL_snoc (L : List Li) (k g : Nat) (x : List Txt) : listsL (L ++ [(k, g, x)]) = listsL L ++ [x] := by simp [listsL]
/-- In X, made out of H, row o holds the lists of L, which lie where L says. -/
structure Out (H : Hp) (o : Nat) (X : Hp) (g : Nat) (L : List Li) : Prop where
  take : htake X (hlen H) = H
  row : rowOf X o g = some (1, refsL L)
  lies : ∀ p ∈ L, rowOf X p.1 p.2.1 = some (1, dat p.2.2) ∧ o < p.1
  dist : L.Pairwise fun p q => p.1 ≠ q.1
  lo : hlen H ≤ o
theorem htake_le {X : Hp} {n : Nat} (o : Ev.Obj) (h : n ≤ hlen X) : htake (hpush X o) n = htake X n := by
  simp only [htake, hpush, hlen] at *
  rw [List.take_append_of_le_length h]
theorem htake_hset_le {X : Hp} {n r : Nat} (o : Ev.Obj) (h : n ≤ r) : htake (hset X r o) n = htake X n := by
  simp only [htake]
  rw [hset_at, List.take_set_of_le h]
theorem Out.lt {H X : Hp} {o g : Nat} {L : List Li} (h : Out H o X g L) : o < hlen X := rowOf_lt h.row
theorem Out.start (H : Hp) (X : Hp) (hX : htake X (hlen H) = H) (hl : hlen H ≤ hlen X) : Out H (hlen X) (hpush X (.row 0 1 [])) 0 [] :=
  ⟨by rw [htake_le _ hl]; exact hX, rowOf_self _ _ _ _, fun p hp => by simp at hp, List.Pairwise.nil, hl⟩
theorem Out.push {H X : Hp} {o g : Nat} {L : List Li} (h : Out H o X g L) (ob : Ev.Obj) : Out H o (hpush X ob) g L :=
  ⟨by rw [htake_le _ (by have := h.lt; have := h.lo; omega)]; exact h.take, rowOf_push h.row, fun p hp => ⟨rowOf_push (h.lies p hp).1, (h.lies p hp).2⟩, h.dist, h.lo⟩
/-- A row that is none of the list's is changed. -/
theorem Out.other {H X : Hp} {o g : Nat} {L : List Li} (h : Out H o X g L) {r : Nat} (ob : Ev.Obj) (h1 : o < r) (h2 : ∀ p ∈ L, p.1 ≠ r) : Out H o (hset X r ob) g L :=
  ⟨by rw [htake_hset_le _ (by have := h.lo; omega)]; exact h.take, by rw [rowOf_hset_ne _ (by omega)]; exact h.row, fun p hp => ⟨by rw [rowOf_hset_ne _ (h2 p hp)]; exact (h.lies p hp).1, (h.lies p hp).2⟩, h.dist, h.lo⟩
theorem Out.fresh {H X : Hp} {o g : Nat} {L : List Li} (h : Out H o X g L) : ∀ p ∈ L, p.1 < hlen X := fun p hp => rowOf_lt (h.lies p hp).1
theorem Out.add {H X : Hp} {o g : Nat} {L : List Li} (h : Out H o X g L) {k g' : Nat} {x : List Txt} (hr : rowOf X k g' = some (1, dat x)) (hk : o < k) (hn : ∀ p ∈ L, p.1 ≠ k) : Out H o (hset X o (.row (g + 1) 1 (refsL L ++ [.slc k g' 0 x.length]))) (g + 1) (L ++ [(k, g', x)]) := by
  refine ⟨by rw [htake_hset_le _ h.lo]; exact h.take, ?_, fun p hp => ?_, ?_, h.lo⟩
  · rw [rowOf_hset_self _ _ _ h.lt, refsL_snoc]
  · rcases List.mem_append.1 hp with hp | hp
    · have := h.lies p hp
      exact ⟨by rw [rowOf_hset_ne _ (by omega)]; exact this.1, this.2⟩
    · simp only [List.mem_singleton] at hp
      subst hp
      exact ⟨by rw [rowOf_hset_ne _ (by omega)]; exact hr, hk⟩
  · rw [List.pairwise_append]
    refine ⟨h.dist, List.pairwise_singleton _ _, fun p hp q hq => ?_⟩
    simp only [List.mem_singleton] at hq
    subst hq
    exact hn p hp
theorem allD_dat (x : List Txt) : allD (dat x) = some (x.map D.str) := allD_d _
/-- Lists handed over: their rows, and the row of them. -/
def nestH (H : Hp) (xss : List (List Txt)) : Hp := hpush ((H : List Ev.Obj) ++ xss.map (rowT 0)) (.row 0 1 (refs1 (hlen H) xss))
theorem own_refsL (n : Nat) (f : Hp → Hp → V → Option (V × Hp × Hp)) : ∀ (L : List Li) (X base : Hp), (∀ p ∈ L, n ≤ p.1 ∧ rowOf X p.1 p.2.1 = some (1, dat p.2.2)) → (L.Pairwise fun p q => p.1 ≠ q.1) →
    ∃ X', ownEs (layer n (layer n (own1 n))) X base (refsL L) = some (refs1 (hlen base) (listsL L), X', (base : List Ev.Obj) ++ (listsL L).map (rowT 0)) ∧ ∀ r g, (∀ p ∈ L, p.1 ≠ r) → rowOf X' r g = rowOf X r g
  | [], X, base, h, hd => ⟨X, by simp [refsL, listsL, ownEs, refs1], fun _ _ _ => rfl⟩
  | (k, g, x) :: r, X, base, h, hd => by
    obtain ⟨hk, h0⟩ := h (k, g, x) (by simp)
    simp only at hk h0
    obtain ⟨hd1, hd2⟩ := List.pairwise_cons.1 hd
    obtain ⟨X', h1, h2⟩ := own_refsL n f r (hset X k .dead) (hpush base (rowT 0 x)) (fun p hp => by
      obtain ⟨a, b⟩ := h p (by simp [hp])
      exact ⟨a, by rw [rowOf_hset_ne _ (Ne.symm (hd1 p hp))]; exact b⟩) hd2
    have hn : ¬ k < n := by omega
    have a := allD_dat x
    rw [hlen_hpush] at h1
    have e1 : own1 n X base (.slc k g 0 x.length) = some (.slc (hlen base) 0 0 x.length, hset X k .dead, hpush base (rowT 0 x)) := by
      simp only [own1, hn, if_false, h0, a, rowT_is]
    have e2 : layer n (layer n (own1 n)) X base (.slc k g 0 x.length) = some (.slc (hlen base) 0 0 x.length, hset X k .dead, hpush base (rowT 0 x)) := by
      rw [layer, e1]
    refine ⟨X', ?_, fun q g' hq => by
      rw [h2 q g' (fun p hp => hq p (by simp [hp])), rowOf_hset_ne _ (Ne.symm (hq (k, g, x) (by simp)))]⟩
    simp only [refsL, listsL, List.map_cons, ownEs, ownEl, e2, refs1]
    simp only [refsL, listsL] at h1
    rw [h1]
    simp [hpush]
theorem Out.own {H X : Hp} {o g : Nat} {L : List Li} (h : Out H o X g L) : ∃ X', ownL (hlen H) X H [.slc o g 0 L.length] = some ([.slc (hlen H + L.length) 0 0 L.length], X', nestH H (listsL L)) := by
  obtain ⟨X', h1, h2⟩ := own_refsL (hlen H) (own1 (hlen H)) L X H (fun p hp => ⟨by have := (h.lies p hp).2; have := h.lo; omega, (h.lies p hp).1⟩) h.dist
  have hr := h.row
  have hr2 := h2 o g (fun p hp => by have := (h.lies p hp).2; omega)
  rw [hr] at hr2
  have hn : ¬ o < hlen H := by have := h.lo; omega
  have bl : hlen ((H : List Ev.Obj) ++ (listsL L).map (rowT 0)) = hlen H + L.length := by simp [hlen, listsL]
  have d2 : ∃ X, ownEl (layer (hlen H) (layer (hlen H) (layer (hlen H) (own1 (hlen H))))) X H (.slc o g 0 L.length) = some (.slc (hlen H + L.length) 0 0 L.length, X, nestH H (listsL L)) ∨ True := ⟨X, .inr trivial⟩
  have d2 : ∃ Z, ownEl (layer (hlen H) (layer (hlen H) (layer (hlen H) (own1 (hlen H))))) X H (.slc o g 0 L.length) = some (.slc (hlen H + L.length) 0 0 L.length, Z, nestH H (listsL L)) := by
    simp only [ownEl]
    rw [layer]
    cases hx : L with
    | nil =>
      rw [hx] at hr
      refine ⟨hset X o .dead, ?_⟩
      simp only [own1, hn, if_false, hr, refsL, List.map_nil, allD]
      simp [nestH, refs1, listsL]
    | cons y r =>
      rw [← hx]
      have al : allD (refsL L) = none := by rw [hx]; rfl
      refine ⟨hset X' o .dead, ?_⟩
      simp only [own1, hn, if_false, hr, al, h1, hr2, bl]
      rfl
  obtain ⟨Z, d2⟩ := d2
  refine ⟨Z, ?_⟩
  simp only [ownL, ownEs, d2]
theorem Out.ownB {H X : Hp} {o g : Nat} {L : List Li} (h : Out H o X g L) (n : Nat) (B : Hp) (hnH : n ≤ hlen H) : ∃ X', ownL n X B [.slc o g 0 L.length] = some ([.slc (hlen B + L.length) 0 0 L.length], X', nestH B (listsL L)) := by
  obtain ⟨X', h1, h2⟩ := own_refsL n (own1 n) L X B (fun p hp => ⟨by have := (h.lies p hp).2; have := h.lo; omega, (h.lies p hp).1⟩) h.dist
  have hr := h.row
  have hr2 := h2 o g (fun p hp => by have := (h.lies p hp).2; omega)
  rw [hr] at hr2
  have hn : ¬ o < n := by have := h.lo; omega
  have bl : hlen ((B : List Ev.Obj) ++ (listsL L).map (rowT 0)) = hlen B + L.length := by simp [hlen, listsL]
  have d2 : ∃ Z, ownEl (layer n (layer n (layer n (own1 n)))) X B (.slc o g 0 L.length) = some (.slc (hlen B + L.length) 0 0 L.length, Z, nestH B (listsL L)) := by
    simp only [ownEl]
    rw [layer]
    cases hx : L with
    | nil =>
      rw [hx] at hr
      refine ⟨hset X o .dead, ?_⟩
      simp only [own1, hn, if_false, hr, refsL, List.map_nil, allD]
      simp [nestH, refs1, listsL]
    | cons y r =>
      rw [← hx]
      have al : allD (refsL L) = none := by rw [hx]; rfl
      refine ⟨hset X' o .dead, ?_⟩
      simp only [own1, hn, if_false, hr, al, h1, hr2, bl]
      rfl
  obtain ⟨Z, d2⟩ := d2
  refine ⟨Z, ?_⟩
  simp only [ownL, ownEs, d2]
/-- A row of the base lies as it lay. -/
theorem Out.base {H X : Hp} {o g : Nat} {L : List Li} (h : Out H o X g L) {r g' : Nat} {p : Nat × List V} (hr : rowOf H r g' = some p) : rowOf X r g' = some p := by
  have hl := rowOf_lt hr
  have ht := h.take
  have e : hget X r = hget H r := by
    rw [hget_at, hget_at]
    rw [← ht]
    simp only [htake]
    rw [List.getElem?_take_of_lt hl]
  unfold rowOf at hr ⊢
  rw [e]; exact hr
end Go.Proofs.YtpmphmpaeooeeaaDoorO.Code
/- Lists cut into chunks of six: the reference. -/
namespace Go.Proofs.YtpmphmpaeooeeaaDoorO.Code
open Go Go.Ev Go.Proofs
set_option maxRecDepth 100000
set_option linter.unusedSimpArgs false
set_option linter.unusedVariables false
/-- Chunks of six, each behind a word and a key. -/
def chunks (w k : Txt) (xs : List Txt) : Nat → Nat → List (List Txt)
  | 0, _ => []
  | f + 1, i => if i < xs.length then ((w :: k :: ((xs.take (min (i + 6) xs.length)).drop i)) :: chunks w k xs f (i + 6)) else []
/-- What the loop leaves. -/
def Q84 (H : Hp) (xss : List (List Txt)) (o : Option (Ev.Out × St)) : Prop :=
  ∃ e' X' g' L', o = some (.exit 0, ⟨e', X'⟩) ∧ Out H (hlen H) X' g' L' ∧ listsL L' = xss ∧ e'.get 7 = .slc (hlen H) g' 0 L'.length
theorem l84 (H : Hp) (w k : Txt) (xs : List Txt) (hx : xs.length ≤ 1000000) : ∀ (f i g : Nat) (L : List Li) (X : Hp) (e : Env), xs.length ≤ i + 6 * f → L.length + f ≤ 1000000 → i ≤ 2000000 → Out H (hlen H) X g L → e.get 0 = .d (.str w) → e.get 1 = .d (.str k) → e.get 2 = .d (txts xs) → e.get 7 = .slc (hlen H) g 0 L.length → e.get 8 = .d (.int .i64 i) →
    Q84 H (listsL L ++ chunks w k xs f i) (evLoop (evCode (ev R) R.glob (hlen H) evLoop f84l0) [0, 1, 2, 7, 8] ⟨e, X⟩)
  | 0, i, g, L, X, e, h1, h2, hi, hO, g0, g1, g2, g7, g8 => by
    have c : ¬ (i : Int) < (xs.length : Int) := by omega
    have c' : ¬ i < xs.length := by omega
    rw [evLoop_eq]
    unfold Q84
    refine ⟨?_, X, g, L, ?_, hO, by simp [chunks], ?_⟩
    rotate_left
    · simp [-List.getD_eq_getElem?_getD, -List.map_map, evBody, evCode, evOps, evOper, evOp, opd, Env.get, Env.put, Env.keep, zipEnv, V.ok, V.sto, V.cells, D.cells, V.isAgg, binD, binInt, binStr, shInt, unD, eqOf, asI, leave, resOf, mapO, fzV, tupOf, view, view1, isData, hand, flatV, flatD, allD, mkAgg, mkVal, beq_lit, IntKind.bits, htake_self, htake_push, hget_hpush_self, hset_push, rowOf_self, okIn, lowIn, lowIn1, fzC_d, fzC_row, f84l0, g0, g1, g2, g7, g8, txts, c, c']
      try rfl
    · simp [-List.getD_eq_getElem?_getD, -List.map_map, evBody, evCode, evOps, evOper, evOp, opd, Env.get, Env.put, Env.keep, zipEnv, V.ok, V.sto, V.cells, D.cells, V.isAgg, binD, binInt, binStr, shInt, unD, eqOf, asI, leave, resOf, mapO, fzV, tupOf, view, view1, isData, hand, flatV, flatD, allD, mkAgg, mkVal, beq_lit, IntKind.bits, htake_self, htake_push, hget_hpush_self, hset_push, rowOf_self, okIn, lowIn, lowIn1, fzC_d, fzC_row, g7]
  | f + 1, i, g, L, X, e, h1, h2, hi, hO, g0, g1, g2, g7, g8 => by
    by_cases c' : i < xs.length
    · have c : (i : Int) < (xs.length : Int) := by omega
      have hlt := hO.lt
      -- the rows that are made
      obtain ⟨X1, eX1⟩ : ∃ X1, hpush X (.row 0 1 [.d (.str w), .d (.str k)]) = X1 := ⟨_, rfl⟩
      obtain ⟨m, hm⟩ : ∃ m, min (i + 6) xs.length = m := ⟨_, rfl⟩
      have cut : ((xs.map D.str).take m).drop i = (((xs.take m).drop i).map D.str) := by rw [List.map_drop, List.map_take]
      obtain ⟨x, hxx⟩ : ∃ x, (w :: k :: ((xs.take m).drop i)) = x := ⟨_, rfl⟩
      have xl : x.length = 2 + (m - i) := by rw [← hxx]; simp; omega
      have xd : dat x = [.d (.str w), .d (.str k)] ++ (((xs.take m).drop i).map D.str).map V.d := by rw [← hxx]; rfl
      have ch : chunks w k xs (f + 1) i = x :: chunks w k xs f (i + 6) := by rw [chunks, if_pos c', hm, hxx]
      have r1 : rowOf X1 (hlen X) 0 = some (1, [.d (.str w), .d (.str k)]) := by rw [← eX1]; exact rowOf_self _ _ _ _
      obtain ⟨X2, eX2⟩ : ∃ X2, hset X1 (hlen X) (.row 1 1 (.d (.str w) :: .d (.str k) :: (((xs.take m).drop i).map D.str).map V.d)) = X2 := ⟨_, rfl⟩
      have eX2' : X2 = hpush X (.row 1 1 (dat x)) := by rw [← eX2, ← eX1, hset_push, xd]; rfl
      have l2 : hlen X2 = hlen X + 1 := by rw [eX2', hlen_hpush]
      have r2 : rowOf X2 (hlen X) 1 = some (1, dat x) := by rw [eX2']; exact rowOf_self _ _ _ _
      have O2 : Out H (hlen H) X2 g L := by rw [eX2']; exact hO.push _
      obtain ⟨X3, eX3⟩ : ∃ X3, hpush X2 (.row 0 1 [.slc (hlen X) 1 0 x.length]) = X3 := ⟨_, rfl⟩
      have O3 : Out H (hlen H) X3 g L := by rw [← eX3]; exact O2.push _
      have r3 : rowOf X3 (hlen X) 1 = some (1, dat x) := by rw [← eX3]; exact rowOf_push r2
      have r4 : rowOf X3 (hlen X2) 0 = some (1, [.slc (hlen X) 1 0 x.length]) := by rw [← eX3]; exact rowOf_self _ _ _ _
      have ro := O3.row
      have O4 := O3.add r3 hlt (fun p hp => by have := hO.fresh p hp; omega)
      obtain ⟨X4, eX4⟩ : ∃ X4, hset X3 (hlen H) (.row (g + 1) 1 (refsL L ++ [.slc (hlen X) 1 0 x.length])) = X4 := ⟨_, rfl⟩
      rw [eX4] at O4
      rw [xl] at eX3 r4 eX4
      have rl := refsL_len L
      have ih := l84 H w k xs hx f (i + 6) (g + 1) (L ++ [(hlen X, 1, x)]) X4
      rw [listsL_snoc, List.append_assoc, List.length_append, List.length_singleton] at ih
      rw [ch]
      -- numbers
      have w6 : IntKind.i64.wrap ((i : Int) + 8) = (i : Int) + 8 := IntWalk.i64_in _ (by omega)
      have w6' : IntKind.i64.wrap ((i : Int) + 8 - 2) = ((i + 6 : Nat) : Int) := by rw [IntWalk.i64_in _ (by omega)]; omega
      have rm : (L.length + 1) * 24 ≤ room := by unfold room; omega
      have rm2 : (2 + (m - i)) * 16 ≤ room := by unfold room; omega
      have em : [x] ++ chunks w k xs f (i + 6) = x :: chunks w k xs f (i + 6) := rfl
      rw [em] at ih
      have ble : (hlen H).ble (hlen H) = true := by simp
      have ble2 : (hlen H).ble (hlen X) = true := by simp; omega
      generalize listsL L ++ x :: chunks w k xs f (i + 6) = CC at ih ⊢
      rw [evLoop_eq]
      generalize evLoop (evCode (ev R) R.glob (hlen H) evLoop f84l0) [0, 1, 2, 7, 8] = F at ih ⊢
      have dl : ((((xs.take m).drop i).map D.str).map V.d).length = m - i := by simp; omega
      have dl2 : (((xs.take m).drop i).map D.str).length = m - i := by simp; omega
      simp only [txts] at g2 ih
      have tt : (xs.map D.str).length = xs.length := by simp
      generalize ((xs.take m).drop i).map D.str = T at *
      generalize xs.map D.str = TT at *
      obtain ⟨I, hI⟩ : ∃ I : Int, (i : Int) = I := ⟨_, rfl⟩
      obtain ⟨I2, hI2⟩ : ∃ I : Int, ((i + 6 : Nat) : Int) = I := ⟨_, rfl⟩
      have a1 : I.toNat = i := by omega
      have a0 : 0 ≤ I := by omega
      have b0 : 0 ≤ I2 := by omega
      have tl : (TT.length : Int) = (xs.length : Int) := by omega
      obtain ⟨N, hN⟩ : ∃ N : Int, (xs.length : Int) = N := ⟨_, rfl⟩
      rw [hI] at w6 w6' c g8
      rw [hI2] at w6' ih
      rw [hN] at tl c
      by_cases d : I2 > N
      · have hm' : m = xs.length := by omega
        have n1 : N ≤ N := Int.le_refl _
        have n2 : N.toNat = m := by omega
        have n3 : I ≤ (m : Int) := by omega
        have n4 : (0 : Int) ≤ N := by omega
        have n5 : i ≤ m := by omega
        simp [-List.getD_eq_getElem?_getD, -List.map_map, evBody, evCode, evOps, evOper, evOp, opd, Env.get, Env.put, Env.keep, zipEnv, V.ok, V.sto, V.cells, D.cells, V.isAgg, binD, binInt, binStr, shInt, unD, eqOf, asI, leave, resOf, mapO, fzV, tupOf, view, view1, isData, hand, flatV, flatD, allD, mkAgg, mkVal, beq_lit, IntKind.bits, htake_self, htake_push, hget_hpush_self, hset_push, rowOf_self, okIn, lowIn, lowIn1, fzC_d, fzC_row, f84l0, g0, g1, g2, g7, g8, c, w6, w6', tl, d, bound, a0, a1, b0, n1, n2, n3, n4, n5, cut, eX1, r1, src, eX2, eX3, r4, ro, rl, eX4, rm, rm2, ble, ble2, dl, dl2, xl]
        refine ih _ (by omega) (by omega) (by omega) O4 ?_ ?_ ?_ ?_ ?_ <;> rfl
      · have n1 : I2 ≤ N := by omega
        have n2 : I2.toNat = m := by omega
        have n3 : I ≤ (m : Int) := by omega
        have n5 : i ≤ m := by omega
        simp [-List.getD_eq_getElem?_getD, -List.map_map, evBody, evCode, evOps, evOper, evOp, opd, Env.get, Env.put, Env.keep, zipEnv, V.ok, V.sto, V.cells, D.cells, V.isAgg, binD, binInt, binStr, shInt, unD, eqOf, asI, leave, resOf, mapO, fzV, tupOf, view, view1, isData, hand, flatV, flatD, allD, mkAgg, mkVal, beq_lit, IntKind.bits, htake_self, htake_push, hget_hpush_self, hset_push, rowOf_self, okIn, lowIn, lowIn1, fzC_d, fzC_row, f84l0, g0, g1, g2, g7, g8, c, w6, w6', tl, d, bound, a0, a1, b0, n1, n2, n3, n5, cut, eX1, r1, src, eX2, eX3, r4, ro, rl, eX4, rm, rm2, ble, ble2, dl, dl2, xl]
        refine ih _ (by omega) (by omega) (by omega) O4 ?_ ?_ ?_ ?_ ?_ <;> rfl
    · have c : ¬ (i : Int) < (xs.length : Int) := by omega
      rw [evLoop_eq]
      unfold Q84
      refine ⟨?_, X, g, L, ?_, hO, by simp [chunks, c'], ?_⟩
      rotate_left
      · simp [-List.getD_eq_getElem?_getD, -List.map_map, evBody, evCode, evOps, evOper, evOp, opd, Env.get, Env.put, Env.keep, zipEnv, V.ok, V.sto, V.cells, D.cells, V.isAgg, binD, binInt, binStr, shInt, unD, eqOf, asI, leave, resOf, mapO, fzV, tupOf, view, view1, isData, hand, flatV, flatD, allD, mkAgg, mkVal, beq_lit, IntKind.bits, htake_self, htake_push, hget_hpush_self, hset_push, rowOf_self, okIn, lowIn, lowIn1, fzC_d, fzC_row, f84l0, g0, g1, g2, g7, g8, txts, c, c']
        try rfl
      · simp [-List.getD_eq_getElem?_getD, -List.map_map, evBody, evCode, evOps, evOper, evOp, opd, Env.get, Env.put, Env.keep, zipEnv, V.ok, V.sto, V.cells, D.cells, V.isAgg, binD, binInt, binStr, shInt, unD, eqOf, asI, leave, resOf, mapO, fzV, tupOf, view, view1, isData, hand, flatV, flatD, allD, mkAgg, mkVal, beq_lit, IntKind.bits, htake_self, htake_push, hget_hpush_self, hset_push, rowOf_self, okIn, lowIn, lowIn1, fzC_d, fzC_row, g7]
/-- A list cut into orders. -/
def manyV (w k : Txt) (xs : List Txt) : List (List Txt) := chunks w k xs xs.length 0
theorem e84 (H : Hp) (w k : Txt) (xs : List Txt) (hx : xs.length ≤ 900000) : ev R 84 [.d (.str w), .d (.str k), .d (txts xs)] H = some (.slc (hlen H + (manyV w k xs).length) 0 0 (manyV w k xs).length, nestH H (manyV w k xs)) := by
  refine ev_fn (fn := f84) rfl rfl ?_
  have O0 := Out.start H H (htake_self H) (Nat.le_refl _)
  obtain ⟨e', X', g', L', he, hO, hL, h7⟩ := l84 H w k xs (by omega) xs.length 0 0 [] (hpush H (.row 0 1 [])) [(0, .d (.str w)), (1, .d (.str k)), (2, .d (txts xs)), (7, .slc (hlen H) 0 0 0), (8, .d (.int .i64 0))] (by omega) (by simp; omega) (by omega) O0 rfl rfl rfl rfl rfl
  have hL : listsL L' = manyV w k xs := by rw [hL]; rfl
  have tk := hO.take
  obtain ⟨Z, own⟩ := hO.own
  have ll := listsL_len L'
  rw [hL] at own ll
  rw [← ll] at own h7
  generalize manyV w k xs = M at *
  simp only [txts] at he
  generalize nestH H M = NN at *
  simp [-List.getD_eq_getElem?_getD, -List.map_map, evBody, evCode, evOps, evOper, evOp, opd, Env.get, Env.put, Env.keep, zipEnv, V.ok, V.sto, V.cells, D.cells, V.isAgg, binD, binInt, binStr, shInt, unD, eqOf, asI, leave, resOf, mapO, fzV, tupOf, view, view1, isData, hand, flatV, flatD, allD, mkAgg, mkVal, beq_lit, IntKind.bits, htake_self, htake_push, hget_hpush_self, hset_push, rowOf_self, okIn, lowIn, lowIn1, fzC_d, fzC_row, f84, txts, he, h7, tk, own]
end Go.Proofs.YtpmphmpaeooeeaaDoorO.Code
/- Numbers written out, below zero too: both ways. -/
namespace Go.Proofs.YtpmphmpaeooeeaaDoorO.Code
open Go Go.Ev Go.Proofs
set_option maxRecDepth 100000
set_option linter.unusedSimpArgs false
set_option linter.unusedVariables false
def decZ (z : Int) : Txt := if z < 0 then 45 :: decV z.natAbs else decV z.toNat
theorem e65z (H : Hp) (z : Int) (h : -1000000000 ≤ z ∧ z ≤ 1000000000) : ev R 65 [.d (.int .i64 z)] H = some (.d (.str (decZ z)), H) := by
  unfold decZ
  by_cases c : z < 0
  · rw [if_pos c]
    refine ev_fn (fn := f65) rfl rfl ?_
    obtain ⟨n, hn⟩ : ∃ n : Nat, z.natAbs = n := ⟨_, rfl⟩
    have hz : -z = (n : Int) := by omega
    have c1 : ¬ z < -9223372036854775807 := by omega
    have w : IntKind.i64.wrap (-z) = (n : Int) := by rw [IntWalk.i64_in _ (by omega)]; exact hz
    have p := pureCall_eq (cl := ev R) fun H => e65 n H (by omega)
    have dl := decV_len n
    have l : 1 + (decV n).length ≤ strRoom := by unfold strRoom; omega
    rw [hn]
    generalize decV n = x at *
    generalize (n : Int) = N at *
    simp [-List.getD_eq_getElem?_getD, -List.map_map, evBody, evCode, evOps, evOper, evOp, opd, Env.get, Env.put, Env.keep, zipEnv, V.ok, V.sto, V.cells, D.cells, V.isAgg, binD, binInt, binStr, shInt, unD, eqOf, asI, leave, resOf, mapO, fzV, tupOf, view, view1, isData, hand, flatV, flatD, allD, mkAgg, mkVal, beq_lit, IntKind.bits, htake_self, htake_push, hget_hpush_self, hset_push, rowOf_self, okIn, lowIn, lowIn1, fzC_d, fzC_row, f65, c, c1, w, p, l]
  · rw [if_neg c]
    obtain ⟨n, rfl⟩ := Int.eq_ofNat_of_zero_le (show 0 ≤ z by omega)
    exact e65 n H (by omega)
theorem dec_itoa' (n : Nat) : Lib.decDigits n = decV n := by
  induction n using Nat.strongRecOn with
  | _ n ih =>
    rw [Lib.decDigits, decV]
    split
    · rfl
    · rw [ih (n / 10) (by omega)]
theorem itoa_decZ (z : Int) : Lib.itoa z = decZ z := by
  unfold Lib.itoa decZ
  split
  · rw [dec_itoa']
  · rw [dec_itoa']
theorem e35 (H : Hp) (z : Int) (h : -1000000000 ≤ z ∧ z ≤ 1000000000) : ev R 35 [.d (.int .i64 z)] H = some (.d (.str (decZ z)), H) := by
  refine ev_fn (fn := f35) rfl rfl ?_
  have p := pureCall_eq (cl := ev R) fun H => e40 H z (by omega)
  rw [itoa_decZ] at p
  simp [-List.getD_eq_getElem?_getD, -List.map_map, evBody, evCode, evOps, evOper, evOp, opd, Env.get, Env.put, Env.keep, zipEnv, V.ok, V.sto, V.cells, D.cells, V.isAgg, binD, binInt, binStr, shInt, unD, eqOf, asI, leave, resOf, mapO, fzV, tupOf, view, view1, isData, hand, flatV, flatD, allD, mkAgg, mkVal, beq_lit, IntKind.bits, htake_self, htake_push, hget_hpush_self, hset_push, rowOf_self, okIn, lowIn, lowIn1, fzC_d, fzC_row, f35, p]
theorem decZ_len (z : Int) (h : -1000000000 ≤ z ∧ z ≤ 1000000000) : (decZ z).length ≤ 1000000002 := by
  unfold decZ
  split
  · have := decV_len z.natAbs
    rw [List.length_cons]; omega
  · have := decV_len z.toNat
    omega
end Go.Proofs.YtpmphmpaeooeeaaDoorO.Code
/- Which lists an entry may hold: texts in order, fields in order. -/
namespace Go.Proofs.YtpmphmpaeooeeaaDoorO.Code
open Go Go.Ev Go.Proofs
set_option maxRecDepth 100000
set_option linter.unusedSimpArgs false
set_option linter.unusedVariables false
theorem e79 (H : Hp) (s : Txt) : ev R 79 [.d (.str s)] H = some (.d (.bool (decide ((s.length : Int) ≥ 1) && decide ((s.length : Int) ≤ 12))), H) := by
  refine ev_fn (fn := f79) rfl rfl ?_
  have p := p30 (s.length : Int) 1 12
  simp [-List.getD_eq_getElem?_getD, -List.map_map, evBody, evCode, evOps, evOper, evOp, opd, Env.get, Env.put, Env.keep, zipEnv, V.ok, V.sto, V.cells, D.cells, V.isAgg, binD, binInt, binStr, shInt, unD, eqOf, asI, leave, resOf, mapO, fzV, tupOf, view, view1, isData, hand, flatV, flatD, allD, mkAgg, mkVal, beq_lit, IntKind.bits, htake_self, htake_push, hget_hpush_self, hset_push, rowOf_self, okIn, lowIn, lowIn1, fzC_d, fzC_row, f79, p]
theorem e87 (H : Hp) (s : Txt) : ev R 87 [.d (.str s)] H = some (.d (.bool (decide ((s.length : Int) ≥ 1) && decide ((s.length : Int) ≤ 12))), H) := by
  refine ev_fn (fn := f87) rfl rfl ?_
  have p := p34 (s.length : Int) 1 12
  simp [-List.getD_eq_getElem?_getD, -List.map_map, evBody, evCode, evOps, evOper, evOp, opd, Env.get, Env.put, Env.keep, zipEnv, V.ok, V.sto, V.cells, D.cells, V.isAgg, binD, binInt, binStr, shInt, unD, eqOf, asI, leave, resOf, mapO, fzV, tupOf, view, view1, isData, hand, flatV, flatD, allD, mkAgg, mkVal, beq_lit, IntKind.bits, htake_self, htake_push, hget_hpush_self, hset_push, rowOf_self, okIn, lowIn, lowIn1, fzC_d, fzC_row, f87, p]
/-- Is there one? -/
def anyF (p : Nat → Bool) : Nat → Nat → Bool
  | 0, _ => false
  | n + 1, i => p i || anyF p n (i + 1)
/-- A text that is not behind the one ahead of it. -/
def notAsc (xs : List Txt) (i : Nat) : Bool := !Op.bytesLess (xs.getD (i - 1) []) (xs.getD i [])
/-- Texts in order, without twins. -/
def setV (xs : List Txt) : Bool := !anyF (notAsc xs) (xs.length - 1) 1 && okTexts xs
theorem l81 (n0 : Nat) (xs : List Txt) (hx : xs.length ≤ 9223372036854775807) (H : Hp) : ∀ (n i : Nat) (e : Env), xs.length ≤ i + n → i + n ≤ xs.length + 1 → 1 ≤ i → (n = 0 ∨ i + n = xs.length) → e.get 0 = .d (txts xs) → e.get 3 = .d (.int .i64 i) →
    ∃ e', evLoop (evCode (ev R) R.glob n0 evLoop f81l0) [0, 3] ⟨e, H⟩ = some ((bif anyF (notAsc xs) n i then .ret else .exit 0), ⟨e', H⟩) ∧
      (anyF (notAsc xs) n i = true → e'.get 2 = .d (.bool false)) ∧ (anyF (notAsc xs) n i = false → e'.get 0 = .d (txts xs))
  | 0, i, e, h1, h2, h3, h4, g0, g3 => by
    have c : ¬ (i : Int) < (xs.length : Int) := by omega
    have c' : ¬ i < xs.length := by omega
    rw [evLoop_eq]
    simp only [anyF]
    refine ⟨?_, ?_, ?_, ?_⟩
    rotate_left
    · simp [-List.getD_eq_getElem?_getD, -List.map_map, evBody, evCode, evOps, evOper, evOp, opd, Env.get, Env.put, Env.keep, zipEnv, V.ok, V.sto, V.cells, D.cells, V.isAgg, binD, binInt, binStr, shInt, unD, eqOf, asI, leave, resOf, mapO, fzV, tupOf, view, view1, isData, hand, flatV, flatD, allD, mkAgg, mkVal, beq_lit, IntKind.bits, htake_self, htake_push, hget_hpush_self, hset_push, rowOf_self, okIn, lowIn, lowIn1, fzC_d, fzC_row, f81l0, g0, g3, txts, c, c']
      try rfl
    · intro h; simp at h
    · intro _; simp [-List.getD_eq_getElem?_getD, -List.map_map, evBody, evCode, evOps, evOper, evOp, opd, Env.get, Env.put, Env.keep, zipEnv, V.ok, V.sto, V.cells, D.cells, V.isAgg, binD, binInt, binStr, shInt, unD, eqOf, asI, leave, resOf, mapO, fzV, tupOf, view, view1, isData, hand, flatV, flatD, allD, mkAgg, mkVal, beq_lit, IntKind.bits, htake_self, htake_push, hget_hpush_self, hset_push, rowOf_self, okIn, lowIn, lowIn1, fzC_d, fzC_row, g0, txts]
  | n + 1, i, e, h1, h2, h3, h4, g0, g3 => by
    have h4 : i + (n + 1) = xs.length := by omega
    have c' : i < xs.length := by omega
    have ih := l81 n0 xs hx H n (i + 1)
    have ga := txts_get xs i c'
    have gb := txts_get xs (i - 1) (by omega)
    have hp : notAsc xs i = !Op.bytesLess (xs.getD (i - 1) []) (xs.getD i []) := rfl
    obtain ⟨I, hI⟩ : ∃ I : Int, (i : Int) = I := ⟨_, rfl⟩
    obtain ⟨I2, hI2⟩ : ∃ I : Int, ((i + 1 : Nat) : Int) = I := ⟨_, rfl⟩
    obtain ⟨J, hJ⟩ : ∃ I : Int, ((i - 1 : Nat) : Int) = I := ⟨_, rfl⟩
    have w0 : IntKind.i64.wrap (I - 1) = J := by rw [IntWalk.i64_in _ (by omega)]; omega
    have w1 : IntKind.i64.wrap (I + 1) = I2 := by rw [IntWalk.i64_in _ (by omega)]; omega
    have c : I < (xs.length : Int) := by omega
    have cj : J < (xs.length : Int) := by omega
    have p0 : 0 ≤ I := by omega
    have pj : 0 ≤ J := by omega
    have t0 : I.toNat = i := by omega
    have tj : J.toNat = i - 1 := by omega
    have hk : xs.length ≤ i + 1 + n := by omega
    have hk2 : i + 1 + n ≤ xs.length + 1 := by omega
    have hk3 : n = 0 ∨ i + 1 + n = xs.length := by omega
    rw [hI] at g3
    rw [hI2] at ih
    simp only [anyF]
    generalize notAsc xs i = b at *
    generalize anyF (notAsc xs) n (i + 1) = S at *
    generalize xs.getD i [] = x at *
    generalize xs.getD (i - 1) [] = y at *
    rw [evLoop_eq]
    generalize evLoop (evCode (ev R) R.glob n0 evLoop f81l0) [0, 3] = F at ih ⊢
    cases hl : Op.bytesLess y x with
    | false =>
      rw [hl] at hp
      subst hp
      simp only [Bool.not_false, Bool.true_or, cond_true]
      refine ⟨?_, ?_, ?_, ?_⟩
      rotate_left
      · simp [-List.getD_eq_getElem?_getD, -List.map_map, evBody, evCode, evOps, evOper, evOp, opd, Env.get, Env.put, Env.keep, zipEnv, V.ok, V.sto, V.cells, D.cells, V.isAgg, binD, binInt, binStr, shInt, unD, eqOf, asI, leave, resOf, mapO, fzV, tupOf, view, view1, isData, hand, flatV, flatD, allD, mkAgg, mkVal, beq_lit, IntKind.bits, htake_self, htake_push, hget_hpush_self, hset_push, rowOf_self, okIn, lowIn, lowIn1, fzC_d, fzC_row, f81l0, g0, g3, txts, c, cj, p0, pj, t0, tj, w0, ga, gb, hl]
        try rfl
      · intro _; simp [-List.getD_eq_getElem?_getD, -List.map_map, evBody, evCode, evOps, evOper, evOp, opd, Env.get, Env.put, Env.keep, zipEnv, V.ok, V.sto, V.cells, D.cells, V.isAgg, binD, binInt, binStr, shInt, unD, eqOf, asI, leave, resOf, mapO, fzV, tupOf, view, view1, isData, hand, flatV, flatD, allD, mkAgg, mkVal, beq_lit, IntKind.bits, htake_self, htake_push, hget_hpush_self, hset_push, rowOf_self, okIn, lowIn, lowIn1, fzC_d, fzC_row]
      · intro h; simp at h
    | true =>
      rw [hl] at hp
      subst hp
      simp only [Bool.not_true, Bool.false_or]
      simp [-List.getD_eq_getElem?_getD, -List.map_map, evBody, evCode, evOps, evOper, evOp, opd, Env.get, Env.put, Env.keep, zipEnv, V.ok, V.sto, V.cells, D.cells, V.isAgg, binD, binInt, binStr, shInt, unD, eqOf, asI, leave, resOf, mapO, fzV, tupOf, view, view1, isData, hand, flatV, flatD, allD, mkAgg, mkVal, beq_lit, IntKind.bits, htake_self, htake_push, hget_hpush_self, hset_push, rowOf_self, okIn, lowIn, lowIn1, fzC_d, fzC_row, f81l0, g0, g3, txts, c, cj, p0, pj, t0, tj, w0, w1, ga, gb, hl]
      refine ih _ hk hk2 (by omega) hk3 ?_ ?_ <;> rfl
theorem e81 (H : Hp) (xs : List Txt) (hx : xs.length ≤ 9223372036854775807) : ev R 81 [.d (txts xs)] H = some (.d (.bool (setV xs)), H) := by
  refine ev_fn (fn := f81) rfl rfl ?_
  have p := pureCall_eq (cl := ev R) fun H => e80 H xs hx
  obtain ⟨e', he, h1, h2⟩ := l81 (hlen H) xs hx H (xs.length - 1) 1 [(0, .d (txts xs)), (3, .d (.int .i64 1))] (by omega) (by omega) (by omega) (by omega) rfl rfl
  unfold setV
  cases hb : anyF (notAsc xs) (xs.length - 1) 1 with
  | true =>
    have h1 := h1 hb
    simp only [hb, cond_true] at he
    simp [-List.getD_eq_getElem?_getD, -List.map_map, evBody, evCode, evOps, evOper, evOp, opd, Env.get, Env.put, Env.keep, zipEnv, V.ok, V.sto, V.cells, D.cells, V.isAgg, binD, binInt, binStr, shInt, unD, eqOf, asI, leave, resOf, mapO, fzV, tupOf, view, view1, isData, hand, flatV, flatD, allD, mkAgg, mkVal, beq_lit, IntKind.bits, htake_self, htake_push, hget_hpush_self, hset_push, rowOf_self, okIn, lowIn, lowIn1, fzC_d, fzC_row, f81, he, h1]
  | false =>
    have h2 := h2 hb
    simp only [hb, cond_false] at he
    simp [-List.getD_eq_getElem?_getD, -List.map_map, evBody, evCode, evOps, evOper, evOp, opd, Env.get, Env.put, Env.keep, zipEnv, V.ok, V.sto, V.cells, D.cells, V.isAgg, binD, binInt, binStr, shInt, unD, eqOf, asI, leave, resOf, mapO, fzV, tupOf, view, view1, isData, hand, flatV, flatD, allD, mkAgg, mkVal, beq_lit, IntKind.bits, htake_self, htake_push, hget_hpush_self, hset_push, rowOf_self, okIn, lowIn, lowIn1, fzC_d, fzC_row, f81, he, h2, p]
theorem l89 (n0 : Nat) (xs : List Txt) (hx : xs.length ≤ 9223372036854775807) (H : Hp) : ∀ (n i : Nat) (e : Env), xs.length ≤ i + n → i + n ≤ xs.length + 1 → 1 ≤ i → (n = 0 ∨ i + n = xs.length) → e.get 0 = .d (txts xs) → e.get 3 = .d (.int .i64 i) →
    ∃ e', evLoop (evCode (ev R) R.glob n0 evLoop f89l0) [0, 3] ⟨e, H⟩ = some ((bif anyF (notAsc xs) n i then .ret else .exit 0), ⟨e', H⟩) ∧
      (anyF (notAsc xs) n i = true → e'.get 2 = .d (.bool false)) ∧ (anyF (notAsc xs) n i = false → e'.get 0 = .d (txts xs))
  | 0, i, e, h1, h2, h3, h4, g0, g3 => by
    have c : ¬ (i : Int) < (xs.length : Int) := by omega
    have c' : ¬ i < xs.length := by omega
    rw [evLoop_eq]
    simp only [anyF]
    refine ⟨?_, ?_, ?_, ?_⟩
    rotate_left
    · simp [-List.getD_eq_getElem?_getD, -List.map_map, evBody, evCode, evOps, evOper, evOp, opd, Env.get, Env.put, Env.keep, zipEnv, V.ok, V.sto, V.cells, D.cells, V.isAgg, binD, binInt, binStr, shInt, unD, eqOf, asI, leave, resOf, mapO, fzV, tupOf, view, view1, isData, hand, flatV, flatD, allD, mkAgg, mkVal, beq_lit, IntKind.bits, htake_self, htake_push, hget_hpush_self, hset_push, rowOf_self, okIn, lowIn, lowIn1, fzC_d, fzC_row, f89l0, g0, g3, txts, c, c']
      try rfl
    · intro h; simp at h
    · intro _; simp [-List.getD_eq_getElem?_getD, -List.map_map, evBody, evCode, evOps, evOper, evOp, opd, Env.get, Env.put, Env.keep, zipEnv, V.ok, V.sto, V.cells, D.cells, V.isAgg, binD, binInt, binStr, shInt, unD, eqOf, asI, leave, resOf, mapO, fzV, tupOf, view, view1, isData, hand, flatV, flatD, allD, mkAgg, mkVal, beq_lit, IntKind.bits, htake_self, htake_push, hget_hpush_self, hset_push, rowOf_self, okIn, lowIn, lowIn1, fzC_d, fzC_row, g0, txts]
  | n + 1, i, e, h1, h2, h3, h4, g0, g3 => by
    have h4 : i + (n + 1) = xs.length := by omega
    have c' : i < xs.length := by omega
    have ih := l89 n0 xs hx H n (i + 1)
    have ga := txts_get xs i c'
    have gb := txts_get xs (i - 1) (by omega)
    have hp : notAsc xs i = !Op.bytesLess (xs.getD (i - 1) []) (xs.getD i []) := rfl
    obtain ⟨I, hI⟩ : ∃ I : Int, (i : Int) = I := ⟨_, rfl⟩
    obtain ⟨I2, hI2⟩ : ∃ I : Int, ((i + 1 : Nat) : Int) = I := ⟨_, rfl⟩
    obtain ⟨J, hJ⟩ : ∃ I : Int, ((i - 1 : Nat) : Int) = I := ⟨_, rfl⟩
    have w0 : IntKind.i64.wrap (I - 1) = J := by rw [IntWalk.i64_in _ (by omega)]; omega
    have w1 : IntKind.i64.wrap (I + 1) = I2 := by rw [IntWalk.i64_in _ (by omega)]; omega
    have c : I < (xs.length : Int) := by omega
    have cj : J < (xs.length : Int) := by omega
    have p0 : 0 ≤ I := by omega
    have pj : 0 ≤ J := by omega
    have t0 : I.toNat = i := by omega
    have tj : J.toNat = i - 1 := by omega
    have hk : xs.length ≤ i + 1 + n := by omega
    have hk2 : i + 1 + n ≤ xs.length + 1 := by omega
    have hk3 : n = 0 ∨ i + 1 + n = xs.length := by omega
    rw [hI] at g3
    rw [hI2] at ih
    simp only [anyF]
    generalize notAsc xs i = b at *
    generalize anyF (notAsc xs) n (i + 1) = S at *
    generalize xs.getD i [] = x at *
    generalize xs.getD (i - 1) [] = y at *
    rw [evLoop_eq]
    generalize evLoop (evCode (ev R) R.glob n0 evLoop f89l0) [0, 3] = F at ih ⊢
    cases hl : Op.bytesLess y x with
    | false =>
      rw [hl] at hp
      subst hp
      simp only [Bool.not_false, Bool.true_or, cond_true]
      refine ⟨?_, ?_, ?_, ?_⟩
      rotate_left
      · simp [-List.getD_eq_getElem?_getD, -List.map_map, evBody, evCode, evOps, evOper, evOp, opd, Env.get, Env.put, Env.keep, zipEnv, V.ok, V.sto, V.cells, D.cells, V.isAgg, binD, binInt, binStr, shInt, unD, eqOf, asI, leave, resOf, mapO, fzV, tupOf, view, view1, isData, hand, flatV, flatD, allD, mkAgg, mkVal, beq_lit, IntKind.bits, htake_self, htake_push, hget_hpush_self, hset_push, rowOf_self, okIn, lowIn, lowIn1, fzC_d, fzC_row, f89l0, g0, g3, txts, c, cj, p0, pj, t0, tj, w0, ga, gb, hl]
        try rfl
      · intro _; simp [-List.getD_eq_getElem?_getD, -List.map_map, evBody, evCode, evOps, evOper, evOp, opd, Env.get, Env.put, Env.keep, zipEnv, V.ok, V.sto, V.cells, D.cells, V.isAgg, binD, binInt, binStr, shInt, unD, eqOf, asI, leave, resOf, mapO, fzV, tupOf, view, view1, isData, hand, flatV, flatD, allD, mkAgg, mkVal, beq_lit, IntKind.bits, htake_self, htake_push, hget_hpush_self, hset_push, rowOf_self, okIn, lowIn, lowIn1, fzC_d, fzC_row]
      · intro h; simp at h
    | true =>
      rw [hl] at hp
      subst hp
      simp only [Bool.not_true, Bool.false_or]
      simp [-List.getD_eq_getElem?_getD, -List.map_map, evBody, evCode, evOps, evOper, evOp, opd, Env.get, Env.put, Env.keep, zipEnv, V.ok, V.sto, V.cells, D.cells, V.isAgg, binD, binInt, binStr, shInt, unD, eqOf, asI, leave, resOf, mapO, fzV, tupOf, view, view1, isData, hand, flatV, flatD, allD, mkAgg, mkVal, beq_lit, IntKind.bits, htake_self, htake_push, hget_hpush_self, hset_push, rowOf_self, okIn, lowIn, lowIn1, fzC_d, fzC_row, f89l0, g0, g3, txts, c, cj, p0, pj, t0, tj, w0, w1, ga, gb, hl]
      refine ih _ hk hk2 (by omega) hk3 ?_ ?_ <;> rfl
theorem e89 (H : Hp) (xs : List Txt) (hx : xs.length ≤ 9223372036854775807) : ev R 89 [.d (txts xs)] H = some (.d (.bool (setV xs)), H) := by
  refine ev_fn (fn := f89) rfl rfl ?_
  have p := pureCall_eq (cl := ev R) fun H => e88 H xs hx
  obtain ⟨e', he, h1, h2⟩ := l89 (hlen H) xs hx H (xs.length - 1) 1 [(0, .d (txts xs)), (3, .d (.int .i64 1))] (by omega) (by omega) (by omega) (by omega) rfl rfl
  unfold setV
  cases hb : anyF (notAsc xs) (xs.length - 1) 1 with
  | true =>
    have h1 := h1 hb
    simp only [hb, cond_true] at he
    simp [-List.getD_eq_getElem?_getD, -List.map_map, evBody, evCode, evOps, evOper, evOp, opd, Env.get, Env.put, Env.keep, zipEnv, V.ok, V.sto, V.cells, D.cells, V.isAgg, binD, binInt, binStr, shInt, unD, eqOf, asI, leave, resOf, mapO, fzV, tupOf, view, view1, isData, hand, flatV, flatD, allD, mkAgg, mkVal, beq_lit, IntKind.bits, htake_self, htake_push, hget_hpush_self, hset_push, rowOf_self, okIn, lowIn, lowIn1, fzC_d, fzC_row, f89, he, h1]
  | false =>
    have h2 := h2 hb
    simp only [hb, cond_false] at he
    simp [-List.getD_eq_getElem?_getD, -List.map_map, evBody, evCode, evOps, evOper, evOp, opd, Env.get, Env.put, Env.keep, zipEnv, V.ok, V.sto, V.cells, D.cells, V.isAgg, binD, binInt, binStr, shInt, unD, eqOf, asI, leave, resOf, mapO, fzV, tupOf, view, view1, isData, hand, flatV, flatD, allD, mkAgg, mkVal, beq_lit, IntKind.bits, htake_self, htake_push, hget_hpush_self, hset_push, rowOf_self, okIn, lowIn, lowIn1, fzC_d, fzC_row, f89, he, h2, p]
end Go.Proofs.YtpmphmpaeooeeaaDoorO.Code
/- Which lists an entry may hold: fields in order. -/
namespace Go.Proofs.YtpmphmpaeooeeaaDoorO.Code
open Go Go.Ev Go.Proofs
set_option maxRecDepth 100000
set_option linter.unusedSimpArgs false
set_option linter.unusedVariables false
/-- A field that may not stand where it stands. -/
def badPr (xs : List Pr) (i : Nat) : Bool := decide (40 < (xs.getD i ([], [])).1.length) || decide (40 < (xs.getD i ([], [])).2.length) || (decide (0 < i) && !Op.bytesLess (xs.getD (i - 1) ([], [])).1 (xs.getD i ([], [])).1)
theorem htake_lt {X : Hp} {n : Nat} (o : Ev.Obj) (h : n ≤ hlen X) : htake (hpush X o) n = htake X n := by
  simp only [htake, hpush, hlen] at *
  rw [List.take_append_of_le_length h]
/-- Fields in order, at most sixteen. -/
def fieldsV (xs : List Pr) : Bool := !anyF (badPr xs) xs.length 0 && decide (xs.length ≤ 16)
theorem l83 (n0 : Nat) (xs : List Pr) (hx : xs.length ≤ 9223372036854775807) (H : Hp) : ∀ (n i : Nat) (e : Env), i + n = xs.length → e.get 0 = .d (prs xs) → e.get 3 = .d (.int .i64 i) →
    ∃ e', evLoop (evCode (ev R) R.glob n0 evLoop f83l0) [0, 3] ⟨e, H⟩ = some ((bif anyF (badPr xs) n i then .ret else .exit 0), ⟨e', H⟩) ∧
      (anyF (badPr xs) n i = true → e'.get 2 = .d (.bool false)) ∧ (anyF (badPr xs) n i = false → e'.get 0 = .d (prs xs))
  | 0, i, e, h1, g0, g3 => by
    have c : ¬ (i : Int) < (xs.length : Int) := by omega
    have c' : ¬ i < xs.length := by omega
    rw [evLoop_eq]
    simp only [anyF]
    refine ⟨?_, ?_, ?_, ?_⟩
    rotate_left
    · simp [-List.getD_eq_getElem?_getD, -List.map_map, evBody, evCode, evOps, evOper, evOp, opd, Env.get, Env.put, Env.keep, zipEnv, V.ok, V.sto, V.cells, D.cells, V.isAgg, binD, binInt, binStr, shInt, unD, eqOf, asI, leave, resOf, mapO, fzV, tupOf, view, view1, isData, hand, flatV, flatD, allD, mkAgg, mkVal, beq_lit, IntKind.bits, htake_self, htake_push, hget_hpush_self, hset_push, rowOf_self, okIn, lowIn, lowIn1, fzC_d, fzC_row, f83l0, g0, g3, prs, c, c']
      try rfl
    · intro h; simp at h
    · intro _; simp [-List.getD_eq_getElem?_getD, -List.map_map, evBody, evCode, evOps, evOper, evOp, opd, Env.get, Env.put, Env.keep, zipEnv, V.ok, V.sto, V.cells, D.cells, V.isAgg, binD, binInt, binStr, shInt, unD, eqOf, asI, leave, resOf, mapO, fzV, tupOf, view, view1, isData, hand, flatV, flatD, allD, mkAgg, mkVal, beq_lit, IntKind.bits, htake_self, htake_push, hget_hpush_self, hset_push, rowOf_self, okIn, lowIn, lowIn1, fzC_d, fzC_row, g0, prs]
  | n + 1, i, e, h1, g0, g3 => by
    have h4 : i + (n + 1) = xs.length := h1
    have c' : i < xs.length := by omega
    have ga := prs_get xs i c'
    have hp : badPr xs i = (decide (40 < (xs.getD i ([], [])).1.length) || decide (40 < (xs.getD i ([], [])).2.length) || (decide (0 < i) && !Op.bytesLess (xs.getD (i - 1) ([], [])).1 (xs.getD i ([], [])).1)) := rfl
    have gb := prs_get xs (i - 1) (by omega)
    obtain ⟨I, hI⟩ : ∃ I : Int, (i : Int) = I := ⟨_, rfl⟩
    obtain ⟨I2, hI2⟩ : ∃ I : Int, ((i + 1 : Nat) : Int) = I := ⟨_, rfl⟩
    obtain ⟨J, hJ⟩ : ∃ I : Int, ((i - 1 : Nat) : Int) = I := ⟨_, rfl⟩
    have w1 : IntKind.i64.wrap (I + 1) = I2 := by rw [IntWalk.i64_in _ (by omega)]; omega
    have c : I < (xs.length : Int) := by omega
    have cj : J < (xs.length : Int) := by omega
    have p0 : 0 ≤ I := by omega
    have pj : 0 ≤ J := by omega
    have t0 : I.toNat = i := by omega
    have tj : J.toNat = i - 1 := by omega
    have hk : i + 1 + n = xs.length := by omega
    have w0 : 0 < i → IntKind.i64.wrap (I - 1) = J := fun _ => by rw [IntWalk.i64_in _ (by omega)]; omega
    have z0 : 0 < i → 0 < I := fun _ => by omega
    have z1 : ¬ 0 < i → ¬ 0 < I := fun _ => by omega
    have ih := l83 n0 xs hx H n (i + 1)
    rw [hI] at g3
    rw [hI2] at ih
    simp only [anyF]
    generalize badPr xs i = b at *
    generalize anyF (badPr xs) n (i + 1) = S at *
    generalize xs.getD i ([], []) = x at *
    generalize xs.getD (i - 1) ([], []) = y at *
    obtain ⟨x1, x2⟩ := x
    obtain ⟨y1, y2⟩ := y
    simp only at *
    rw [evLoop_eq]
    generalize evLoop (evCode (ev R) R.glob n0 evLoop f83l0) [0, 3] = F at ih ⊢
    by_cases k1 : 40 < x1.length
    · have k1' : (40 : Int) < (x1.length : Int) := by omega
      simp only [k1, decide_true, Bool.true_or] at hp
      subst hp
      simp only [Bool.true_or, cond_true]
      refine ⟨?_, ?_, ?_, ?_⟩
      rotate_left
      · simp [-List.getD_eq_getElem?_getD, -List.map_map, evBody, evCode, evOps, evOper, evOp, opd, Env.get, Env.put, Env.keep, zipEnv, V.ok, V.sto, V.cells, D.cells, V.isAgg, binD, binInt, binStr, shInt, unD, eqOf, asI, leave, resOf, mapO, fzV, tupOf, view, view1, isData, hand, flatV, flatD, allD, mkAgg, mkVal, beq_lit, IntKind.bits, htake_self, htake_push, hget_hpush_self, hset_push, rowOf_self, okIn, lowIn, lowIn1, fzC_d, fzC_row, f83l0, g0, g3, prs, c, cj, p0, pj, t0, tj, ga, gb, k1, k1']
        try rfl
      · intro _; simp [-List.getD_eq_getElem?_getD, -List.map_map, evBody, evCode, evOps, evOper, evOp, opd, Env.get, Env.put, Env.keep, zipEnv, V.ok, V.sto, V.cells, D.cells, V.isAgg, binD, binInt, binStr, shInt, unD, eqOf, asI, leave, resOf, mapO, fzV, tupOf, view, view1, isData, hand, flatV, flatD, allD, mkAgg, mkVal, beq_lit, IntKind.bits, htake_self, htake_push, hget_hpush_self, hset_push, rowOf_self, okIn, lowIn, lowIn1, fzC_d, fzC_row]
      · intro h; simp at h
    · have k1' : ¬ (40 : Int) < (x1.length : Int) := by omega
      by_cases k2 : 40 < x2.length
      · have k2' : (40 : Int) < (x2.length : Int) := by omega
        simp only [k1, k2, decide_true, decide_false, Bool.false_or, Bool.true_or] at hp
        subst hp
        simp only [Bool.true_or, cond_true]
        refine ⟨?_, ?_, ?_, ?_⟩
        rotate_left
        · simp [-List.getD_eq_getElem?_getD, -List.map_map, evBody, evCode, evOps, evOper, evOp, opd, Env.get, Env.put, Env.keep, zipEnv, V.ok, V.sto, V.cells, D.cells, V.isAgg, binD, binInt, binStr, shInt, unD, eqOf, asI, leave, resOf, mapO, fzV, tupOf, view, view1, isData, hand, flatV, flatD, allD, mkAgg, mkVal, beq_lit, IntKind.bits, htake_self, htake_push, hget_hpush_self, hset_push, rowOf_self, okIn, lowIn, lowIn1, fzC_d, fzC_row, f83l0, g0, g3, prs, c, cj, p0, pj, t0, tj, ga, gb, k1, k1', k2, k2']
          try rfl
        · intro _; simp [-List.getD_eq_getElem?_getD, -List.map_map, evBody, evCode, evOps, evOper, evOp, opd, Env.get, Env.put, Env.keep, zipEnv, V.ok, V.sto, V.cells, D.cells, V.isAgg, binD, binInt, binStr, shInt, unD, eqOf, asI, leave, resOf, mapO, fzV, tupOf, view, view1, isData, hand, flatV, flatD, allD, mkAgg, mkVal, beq_lit, IntKind.bits, htake_self, htake_push, hget_hpush_self, hset_push, rowOf_self, okIn, lowIn, lowIn1, fzC_d, fzC_row]
        · intro h; simp at h
      · have k2' : ¬ (40 : Int) < (x2.length : Int) := by omega
        by_cases k3 : 0 < i
        · have w0 := w0 k3
          have z0 := z0 k3
          cases hl : Op.bytesLess y1 x1 with
          | false =>
            simp only [k1, k2, k3, hl, decide_true, decide_false, Bool.false_or, Bool.true_and, Bool.not_false] at hp
            subst hp
            simp only [Bool.true_or, cond_true]
            refine ⟨?_, ?_, ?_, ?_⟩
            rotate_left
            · simp [-List.getD_eq_getElem?_getD, -List.map_map, evBody, evCode, evOps, evOper, evOp, opd, Env.get, Env.put, Env.keep, zipEnv, V.ok, V.sto, V.cells, D.cells, V.isAgg, binD, binInt, binStr, shInt, unD, eqOf, asI, leave, resOf, mapO, fzV, tupOf, view, view1, isData, hand, flatV, flatD, allD, mkAgg, mkVal, beq_lit, IntKind.bits, htake_self, htake_push, hget_hpush_self, hset_push, rowOf_self, okIn, lowIn, lowIn1, fzC_d, fzC_row, f83l0, g0, g3, prs, c, cj, p0, pj, t0, tj, ga, gb, k1, k1', k2, k2', z0, w0, hl]
              try rfl
            · intro _; simp [-List.getD_eq_getElem?_getD, -List.map_map, evBody, evCode, evOps, evOper, evOp, opd, Env.get, Env.put, Env.keep, zipEnv, V.ok, V.sto, V.cells, D.cells, V.isAgg, binD, binInt, binStr, shInt, unD, eqOf, asI, leave, resOf, mapO, fzV, tupOf, view, view1, isData, hand, flatV, flatD, allD, mkAgg, mkVal, beq_lit, IntKind.bits, htake_self, htake_push, hget_hpush_self, hset_push, rowOf_self, okIn, lowIn, lowIn1, fzC_d, fzC_row]
            · intro h; simp at h
          | true =>
            simp only [k1, k2, k3, hl, decide_true, decide_false, Bool.false_or, Bool.true_and, Bool.not_true] at hp
            subst hp
            simp only [Bool.false_or]
            simp [-List.getD_eq_getElem?_getD, -List.map_map, evBody, evCode, evOps, evOper, evOp, opd, Env.get, Env.put, Env.keep, zipEnv, V.ok, V.sto, V.cells, D.cells, V.isAgg, binD, binInt, binStr, shInt, unD, eqOf, asI, leave, resOf, mapO, fzV, tupOf, view, view1, isData, hand, flatV, flatD, allD, mkAgg, mkVal, beq_lit, IntKind.bits, htake_self, htake_push, hget_hpush_self, hset_push, rowOf_self, okIn, lowIn, lowIn1, fzC_d, fzC_row, f83l0, g0, g3, prs, c, cj, p0, pj, t0, tj, w1, ga, gb, k1, k1', k2, k2', z0, w0, hl]
            refine ih _ hk ?_ ?_ <;> rfl
        · have z1 := z1 k3
          simp only [k1, k2, k3, decide_false, Bool.false_or, Bool.false_and] at hp
          subst hp
          simp only [Bool.false_or]
          simp [-List.getD_eq_getElem?_getD, -List.map_map, evBody, evCode, evOps, evOper, evOp, opd, Env.get, Env.put, Env.keep, zipEnv, V.ok, V.sto, V.cells, D.cells, V.isAgg, binD, binInt, binStr, shInt, unD, eqOf, asI, leave, resOf, mapO, fzV, tupOf, view, view1, isData, hand, flatV, flatD, allD, mkAgg, mkVal, beq_lit, IntKind.bits, htake_self, htake_push, hget_hpush_self, hset_push, rowOf_self, okIn, lowIn, lowIn1, fzC_d, fzC_row, f83l0, g0, g3, prs, c, cj, p0, pj, t0, tj, w1, ga, gb, k1, k1', k2, k2', z1]
          refine ih _ hk ?_ ?_ <;> rfl
theorem e83 (H : Hp) (xs : List Pr) (hx : xs.length ≤ 9223372036854775807) : ev R 83 [.d (prs xs)] H = some (.d (.bool (fieldsV xs)), H) := by
  refine ev_fn (fn := f83) rfl rfl ?_
  obtain ⟨e', he, h1, h2⟩ := l83 (hlen H) xs hx H xs.length 0 [(0, .d (prs xs)), (3, .d (.int .i64 0))] (by omega) rfl rfl
  unfold fieldsV
  simp only [prs] at he h2
  cases hb : anyF (badPr xs) xs.length 0 with
  | true =>
    have h1 := h1 hb
    simp only [hb, cond_true] at he
    simp [-List.getD_eq_getElem?_getD, -List.map_map, evBody, evCode, evOps, evOper, evOp, opd, Env.get, Env.put, Env.keep, zipEnv, V.ok, V.sto, V.cells, D.cells, V.isAgg, binD, binInt, binStr, shInt, unD, eqOf, asI, leave, resOf, mapO, fzV, tupOf, view, view1, isData, hand, flatV, flatD, allD, mkAgg, mkVal, beq_lit, IntKind.bits, htake_self, htake_push, hget_hpush_self, hset_push, rowOf_self, okIn, lowIn, lowIn1, fzC_d, fzC_row, f83, prs, he, h1]
  | false =>
    have h2 := h2 hb
    simp only [hb, cond_false] at he
    by_cases hl : xs.length ≤ 16
    · have hl' : (xs.length : Int) ≤ 16 := by omega
      simp [-List.getD_eq_getElem?_getD, -List.map_map, evBody, evCode, evOps, evOper, evOp, opd, Env.get, Env.put, Env.keep, zipEnv, V.ok, V.sto, V.cells, D.cells, V.isAgg, binD, binInt, binStr, shInt, unD, eqOf, asI, leave, resOf, mapO, fzV, tupOf, view, view1, isData, hand, flatV, flatD, allD, mkAgg, mkVal, beq_lit, IntKind.bits, htake_self, htake_push, hget_hpush_self, hset_push, rowOf_self, okIn, lowIn, lowIn1, fzC_d, fzC_row, f83, prs, he, h2, hl, hl']
    · have hl' : ¬ (xs.length : Int) ≤ 16 := by omega
      simp [-List.getD_eq_getElem?_getD, -List.map_map, evBody, evCode, evOps, evOper, evOp, opd, Env.get, Env.put, Env.keep, zipEnv, V.ok, V.sto, V.cells, D.cells, V.isAgg, binD, binInt, binStr, shInt, unD, eqOf, asI, leave, resOf, mapO, fzV, tupOf, view, view1, isData, hand, flatV, flatD, allD, mkAgg, mkVal, beq_lit, IntKind.bits, htake_self, htake_push, hget_hpush_self, hset_push, rowOf_self, okIn, lowIn, lowIn1, fzC_d, fzC_row, f83, prs, he, h2, hl, hl']
theorem l91 (n0 : Nat) (xs : List Pr) (hx : xs.length ≤ 9223372036854775807) (H : Hp) : ∀ (n i : Nat) (X : Hp) (e : Env), i + n = xs.length → htake X (hlen H) = H → hlen H ≤ hlen X → e.get 0 = .d (prs xs) → e.get 5 = .d (prs xs) → e.get 6 = .d (.int .i64 xs.length) → e.get 7 = .d (.int .i64 i) →
    ∃ e' X', evLoop (evCode (ev R) R.glob n0 evLoop f91l0) [0, 5, 6, 7] ⟨e, X⟩ = some ((bif anyF (badPr xs) n i then .ret else .exit 0), ⟨e', X'⟩) ∧
      (anyF (badPr xs) n i = true → e'.get 2 = .d (.bool false)) ∧ (anyF (badPr xs) n i = false → e'.get 0 = .d (prs xs)) ∧ htake X' (hlen H) = H
  | 0, i, X, e, h1, hx1, hx2, g0, g5, g6, g3 => by
    have c : ¬ (i : Int) < (xs.length : Int) := by omega
    have c' : ¬ i < xs.length := by omega
    rw [evLoop_eq]
    simp only [anyF]
    refine ⟨?_, X, ?_, ?_, ?_, ?_⟩
    rotate_left
    · simp [-List.getD_eq_getElem?_getD, -List.map_map, evBody, evCode, evOps, evOper, evOp, opd, Env.get, Env.put, Env.keep, zipEnv, V.ok, V.sto, V.cells, D.cells, V.isAgg, binD, binInt, binStr, shInt, unD, eqOf, asI, leave, resOf, mapO, fzV, tupOf, view, view1, isData, hand, flatV, flatD, allD, mkAgg, mkVal, beq_lit, IntKind.bits, htake_self, htake_push, hget_hpush_self, hset_push, rowOf_self, okIn, lowIn, lowIn1, fzC_d, fzC_row, f91l0, g0, g5, g6, g3, prs, c, c']
      try rfl
    · intro h; simp at h
    · intro _; simp [-List.getD_eq_getElem?_getD, -List.map_map, evBody, evCode, evOps, evOper, evOp, opd, Env.get, Env.put, Env.keep, zipEnv, V.ok, V.sto, V.cells, D.cells, V.isAgg, binD, binInt, binStr, shInt, unD, eqOf, asI, leave, resOf, mapO, fzV, tupOf, view, view1, isData, hand, flatV, flatD, allD, mkAgg, mkVal, beq_lit, IntKind.bits, htake_self, htake_push, hget_hpush_self, hset_push, rowOf_self, okIn, lowIn, lowIn1, fzC_d, fzC_row, g0, prs]
    · exact hx1
  | n + 1, i, X, e, h1, hx1, hx2, g0, g5, g6, g3 => by
    have h4 : i + (n + 1) = xs.length := h1
    have c' : i < xs.length := by omega
    have ga := prs_get xs i c'
    have hp : badPr xs i = (decide (40 < (xs.getD i ([], [])).1.length) || decide (40 < (xs.getD i ([], [])).2.length) || (decide (0 < i) && !Op.bytesLess (xs.getD (i - 1) ([], [])).1 (xs.getD i ([], [])).1)) := rfl
    have gb := prs_get xs (i - 1) (by omega)
    obtain ⟨I, hI⟩ : ∃ I : Int, (i : Int) = I := ⟨_, rfl⟩
    obtain ⟨I2, hI2⟩ : ∃ I : Int, ((i + 1 : Nat) : Int) = I := ⟨_, rfl⟩
    obtain ⟨J, hJ⟩ : ∃ I : Int, ((i - 1 : Nat) : Int) = I := ⟨_, rfl⟩
    have w1 : IntKind.i64.wrap (I + 1) = I2 := by rw [IntWalk.i64_in _ (by omega)]; omega
    have c : I < (xs.length : Int) := by omega
    have cj : J < (xs.length : Int) := by omega
    have p0 : 0 ≤ I := by omega
    have pj : 0 ≤ J := by omega
    have t0 : I.toNat = i := by omega
    have tj : J.toNat = i - 1 := by omega
    have hk : i + 1 + n = xs.length := by omega
    have w0 : 0 < i → IntKind.i64.wrap (I - 1) = J := fun _ => by rw [IntWalk.i64_in _ (by omega)]; omega
    have z0 : 0 < i → 0 < I := fun _ => by omega
    have z1 : ¬ 0 < i → ¬ 0 < I := fun _ => by omega
    have ga' : ∀ z : D, hstore (hpush X (.row 0 2 [.d (.agg [.str [], .str []])])) (hlen X) 0 0 0 [.d (.str (xs.getD i ([], [])).1), .d (.str (xs.getD i ([], [])).2)] = some (hpush X (.row 0 2 [.d (.agg [.str (xs.getD i ([], [])).1, .str (xs.getD i ([], [])).2])])) := fun _ => by
      simp [hstore, rowOf_self, V.cells, D.cells, reCell, V.isAgg, mkAgg, allD, hset_push]
    have st := ga' .nilp
    have ld0 : hload (hpush X (.row 0 2 [.d (.agg [.str (xs.getD i ([], [])).1, .str (xs.getD i ([], [])).2])])) (hlen X) 0 0 0 1 = some [.d (.str (xs.getD i ([], [])).1)] := by simp [hload, rowOf_self, V.cells, D.cells]
    have ld1 : hload (hpush X (.row 0 2 [.d (.agg [.str (xs.getD i ([], [])).1, .str (xs.getD i ([], [])).2])])) (hlen X) 0 0 1 1 = some [.d (.str (xs.getD i ([], [])).2)] := by simp [hload, rowOf_self, V.cells, D.cells]
    have tk : htake (hpush X (.row 0 2 [.d (.agg [.str (xs.getD i ([], [])).1, .str (xs.getD i ([], [])).2])])) (hlen H) = H := by rw [htake_lt _ hx2]; exact hx1
    have lk : hlen H ≤ hlen (hpush X (.row 0 2 [.d (.agg [.str (xs.getD i ([], [])).1, .str (xs.getD i ([], [])).2])])) := by rw [hlen_hpush]; omega
    have ih := l91 n0 xs hx H n (i + 1) (hpush X (.row 0 2 [.d (.agg [.str (xs.getD i ([], [])).1, .str (xs.getD i ([], [])).2])]))
    generalize hpush X (.row 0 2 [.d (.agg [.str (xs.getD i ([], [])).1, .str (xs.getD i ([], [])).2])]) = Y at *
    rw [hI] at g3
    rw [hI2] at ih
    simp only [anyF]
    generalize badPr xs i = b at *
    generalize anyF (badPr xs) n (i + 1) = S at *
    generalize xs.getD i ([], []) = x at *
    generalize xs.getD (i - 1) ([], []) = y at *
    obtain ⟨x1, x2⟩ := x
    obtain ⟨y1, y2⟩ := y
    simp only at *
    rw [evLoop_eq]
    generalize evLoop (evCode (ev R) R.glob n0 evLoop f91l0) [0, 5, 6, 7] = F at ih ⊢
    by_cases k1 : 40 < x1.length
    · have k1' : (40 : Int) < (x1.length : Int) := by omega
      simp only [k1, decide_true, Bool.true_or] at hp
      subst hp
      simp only [Bool.true_or, cond_true]
      refine ⟨?_, Y, ?_, ?_, ?_, ?_⟩
      rotate_left
      · simp [-List.getD_eq_getElem?_getD, -List.map_map, evBody, evCode, evOps, evOper, evOp, opd, Env.get, Env.put, Env.keep, zipEnv, V.ok, V.sto, V.cells, D.cells, V.isAgg, binD, binInt, binStr, shInt, unD, eqOf, asI, leave, resOf, mapO, fzV, tupOf, view, view1, isData, hand, flatV, flatD, allD, mkAgg, mkVal, beq_lit, IntKind.bits, htake_self, htake_push, hget_hpush_self, hset_push, rowOf_self, okIn, lowIn, lowIn1, fzC_d, fzC_row, f91l0, g0, g5, g6, g3, prs, c, cj, p0, pj, t0, tj, ga, gb, st, ld0, ld1, k1, k1']
        try rfl
      · intro _; simp [-List.getD_eq_getElem?_getD, -List.map_map, evBody, evCode, evOps, evOper, evOp, opd, Env.get, Env.put, Env.keep, zipEnv, V.ok, V.sto, V.cells, D.cells, V.isAgg, binD, binInt, binStr, shInt, unD, eqOf, asI, leave, resOf, mapO, fzV, tupOf, view, view1, isData, hand, flatV, flatD, allD, mkAgg, mkVal, beq_lit, IntKind.bits, htake_self, htake_push, hget_hpush_self, hset_push, rowOf_self, okIn, lowIn, lowIn1, fzC_d, fzC_row]
      · intro h; simp at h
      · exact tk
    · have k1' : ¬ (40 : Int) < (x1.length : Int) := by omega
      by_cases k2 : 40 < x2.length
      · have k2' : (40 : Int) < (x2.length : Int) := by omega
        simp only [k1, k2, decide_true, decide_false, Bool.false_or, Bool.true_or] at hp
        subst hp
        simp only [Bool.true_or, cond_true]
        refine ⟨?_, Y, ?_, ?_, ?_, ?_⟩
        rotate_left
        · simp [-List.getD_eq_getElem?_getD, -List.map_map, evBody, evCode, evOps, evOper, evOp, opd, Env.get, Env.put, Env.keep, zipEnv, V.ok, V.sto, V.cells, D.cells, V.isAgg, binD, binInt, binStr, shInt, unD, eqOf, asI, leave, resOf, mapO, fzV, tupOf, view, view1, isData, hand, flatV, flatD, allD, mkAgg, mkVal, beq_lit, IntKind.bits, htake_self, htake_push, hget_hpush_self, hset_push, rowOf_self, okIn, lowIn, lowIn1, fzC_d, fzC_row, f91l0, g0, g5, g6, g3, prs, c, cj, p0, pj, t0, tj, ga, gb, st, ld0, ld1, k1, k1', k2, k2']
          try rfl
        · intro _; simp [-List.getD_eq_getElem?_getD, -List.map_map, evBody, evCode, evOps, evOper, evOp, opd, Env.get, Env.put, Env.keep, zipEnv, V.ok, V.sto, V.cells, D.cells, V.isAgg, binD, binInt, binStr, shInt, unD, eqOf, asI, leave, resOf, mapO, fzV, tupOf, view, view1, isData, hand, flatV, flatD, allD, mkAgg, mkVal, beq_lit, IntKind.bits, htake_self, htake_push, hget_hpush_self, hset_push, rowOf_self, okIn, lowIn, lowIn1, fzC_d, fzC_row]
        · intro h; simp at h
        · exact tk
      · have k2' : ¬ (40 : Int) < (x2.length : Int) := by omega
        by_cases k3 : 0 < i
        · have w0 := w0 k3
          have z0 := z0 k3
          cases hl : Op.bytesLess y1 x1 with
          | false =>
            simp only [k1, k2, k3, hl, decide_true, decide_false, Bool.false_or, Bool.true_and, Bool.not_false] at hp
            subst hp
            simp only [Bool.true_or, cond_true]
            refine ⟨?_, Y, ?_, ?_, ?_, ?_⟩
            rotate_left
            · simp [-List.getD_eq_getElem?_getD, -List.map_map, evBody, evCode, evOps, evOper, evOp, opd, Env.get, Env.put, Env.keep, zipEnv, V.ok, V.sto, V.cells, D.cells, V.isAgg, binD, binInt, binStr, shInt, unD, eqOf, asI, leave, resOf, mapO, fzV, tupOf, view, view1, isData, hand, flatV, flatD, allD, mkAgg, mkVal, beq_lit, IntKind.bits, htake_self, htake_push, hget_hpush_self, hset_push, rowOf_self, okIn, lowIn, lowIn1, fzC_d, fzC_row, f91l0, g0, g5, g6, g3, prs, c, cj, p0, pj, t0, tj, ga, gb, st, ld0, ld1, k1, k1', k2, k2', z0, w0, hl]
              try rfl
            · intro _; simp [-List.getD_eq_getElem?_getD, -List.map_map, evBody, evCode, evOps, evOper, evOp, opd, Env.get, Env.put, Env.keep, zipEnv, V.ok, V.sto, V.cells, D.cells, V.isAgg, binD, binInt, binStr, shInt, unD, eqOf, asI, leave, resOf, mapO, fzV, tupOf, view, view1, isData, hand, flatV, flatD, allD, mkAgg, mkVal, beq_lit, IntKind.bits, htake_self, htake_push, hget_hpush_self, hset_push, rowOf_self, okIn, lowIn, lowIn1, fzC_d, fzC_row]
            · intro h; simp at h
            · exact tk
          | true =>
            simp only [k1, k2, k3, hl, decide_true, decide_false, Bool.false_or, Bool.true_and, Bool.not_true] at hp
            subst hp
            simp only [Bool.false_or]
            simp [-List.getD_eq_getElem?_getD, -List.map_map, evBody, evCode, evOps, evOper, evOp, opd, Env.get, Env.put, Env.keep, zipEnv, V.ok, V.sto, V.cells, D.cells, V.isAgg, binD, binInt, binStr, shInt, unD, eqOf, asI, leave, resOf, mapO, fzV, tupOf, view, view1, isData, hand, flatV, flatD, allD, mkAgg, mkVal, beq_lit, IntKind.bits, htake_self, htake_push, hget_hpush_self, hset_push, rowOf_self, okIn, lowIn, lowIn1, fzC_d, fzC_row, f91l0, g0, g5, g6, g3, prs, c, cj, p0, pj, t0, tj, w1, ga, gb, st, ld0, ld1, k1, k1', k2, k2', z0, w0, hl]
            refine ih _ hk tk lk ?_ ?_ ?_ ?_ <;> (first | rfl | exact g6)
        · have z1 := z1 k3
          simp only [k1, k2, k3, decide_false, Bool.false_or, Bool.false_and] at hp
          subst hp
          simp only [Bool.false_or]
          simp [-List.getD_eq_getElem?_getD, -List.map_map, evBody, evCode, evOps, evOper, evOp, opd, Env.get, Env.put, Env.keep, zipEnv, V.ok, V.sto, V.cells, D.cells, V.isAgg, binD, binInt, binStr, shInt, unD, eqOf, asI, leave, resOf, mapO, fzV, tupOf, view, view1, isData, hand, flatV, flatD, allD, mkAgg, mkVal, beq_lit, IntKind.bits, htake_self, htake_push, hget_hpush_self, hset_push, rowOf_self, okIn, lowIn, lowIn1, fzC_d, fzC_row, f91l0, g0, g5, g6, g3, prs, c, cj, p0, pj, t0, tj, w1, ga, gb, st, ld0, ld1, k1, k1', k2, k2', z1]
          refine ih _ hk tk lk ?_ ?_ ?_ ?_ <;> (first | rfl | exact g6)
theorem e91 (H : Hp) (xs : List Pr) (hx : xs.length ≤ 9223372036854775807) : ev R 91 [.d (prs xs)] H = some (.d (.bool (fieldsV xs)), H) := by
  refine ev_fn (fn := f91) rfl rfl ?_
  obtain ⟨e', X', he, h1, h2, tk⟩ := l91 (hlen H) xs hx H xs.length 0 H [(0, .d (prs xs)), (5, .d (prs xs)), (6, .d (.int .i64 xs.length)), (7, .d (.int .i64 0))] (by omega) (htake_self H) (Nat.le_refl _) rfl rfl rfl rfl
  unfold fieldsV
  simp only [prs] at he h2
  cases hb : anyF (badPr xs) xs.length 0 with
  | true =>
    have h1 := h1 hb
    simp only [hb, cond_true] at he
    simp [-List.getD_eq_getElem?_getD, -List.map_map, evBody, evCode, evOps, evOper, evOp, opd, Env.get, Env.put, Env.keep, zipEnv, V.ok, V.sto, V.cells, D.cells, V.isAgg, binD, binInt, binStr, shInt, unD, eqOf, asI, leave, resOf, mapO, fzV, tupOf, view, view1, isData, hand, flatV, flatD, allD, mkAgg, mkVal, beq_lit, IntKind.bits, htake_self, htake_push, hget_hpush_self, hset_push, rowOf_self, okIn, lowIn, lowIn1, fzC_d, fzC_row, f91, prs, he, h1, tk]
  | false =>
    have h2 := h2 hb
    simp only [hb, cond_false] at he
    by_cases hl : xs.length ≤ 16
    · have hl' : (xs.length : Int) ≤ 16 := by omega
      simp [-List.getD_eq_getElem?_getD, -List.map_map, evBody, evCode, evOps, evOper, evOp, opd, Env.get, Env.put, Env.keep, zipEnv, V.ok, V.sto, V.cells, D.cells, V.isAgg, binD, binInt, binStr, shInt, unD, eqOf, asI, leave, resOf, mapO, fzV, tupOf, view, view1, isData, hand, flatV, flatD, allD, mkAgg, mkVal, beq_lit, IntKind.bits, htake_self, htake_push, hget_hpush_self, hset_push, rowOf_self, okIn, lowIn, lowIn1, fzC_d, fzC_row, f91, prs, he, h2, hl, hl', tk]
    · have hl' : ¬ (xs.length : Int) ≤ 16 := by omega
      simp [-List.getD_eq_getElem?_getD, -List.map_map, evBody, evCode, evOps, evOper, evOp, opd, Env.get, Env.put, Env.keep, zipEnv, V.ok, V.sto, V.cells, D.cells, V.isAgg, binD, binInt, binStr, shInt, unD, eqOf, asI, leave, resOf, mapO, fzV, tupOf, view, view1, isData, hand, flatV, flatD, allD, mkAgg, mkVal, beq_lit, IntKind.bits, htake_self, htake_push, hget_hpush_self, hset_push, rowOf_self, okIn, lowIn, lowIn1, fzC_d, fzC_row, f91, prs, he, h2, hl, hl', tk]
end Go.Proofs.YtpmphmpaeooeeaaDoorO.Code
/- How scores are compared and found. -/
namespace Go.Proofs.YtpmphmpaeooeeaaDoorO.Code
open Go Go.Ev Go.Proofs
set_option maxRecDepth 100000
set_option linter.unusedSimpArgs false
set_option linter.unusedVariables false
theorem e124 (H : Hp) (n : Int) : ev R 124 [.d (.int .i64 n)] H = some (.d (.bool false), H) := by
  refine ev_fn (fn := f124) rfl rfl ?_
  simp [-List.getD_eq_getElem?_getD, -List.map_map, evBody, evCode, evOps, evOper, evOp, opd, Env.get, Env.put, Env.keep, zipEnv, V.ok, V.sto, V.cells, D.cells, V.isAgg, binD, binInt, binStr, shInt, unD, eqOf, asI, leave, resOf, mapO, fzV, tupOf, view, view1, isData, hand, flatV, flatD, allD, mkAgg, mkVal, beq_lit, IntKind.bits, htake_self, htake_push, hget_hpush_self, hset_push, rowOf_self, okIn, lowIn, lowIn1, fzC_d, fzC_row, f124]
theorem e125 (H : Hp) (s : Txt) : ev R 125 [.d (.str s)] H = some (.d (.bool false), H) := by
  refine ev_fn (fn := f125) rfl rfl ?_
  simp [-List.getD_eq_getElem?_getD, -List.map_map, evBody, evCode, evOps, evOper, evOp, opd, Env.get, Env.put, Env.keep, zipEnv, V.ok, V.sto, V.cells, D.cells, V.isAgg, binD, binInt, binStr, shInt, unD, eqOf, asI, leave, resOf, mapO, fzV, tupOf, view, view1, isData, hand, flatV, flatD, allD, mkAgg, mkVal, beq_lit, IntKind.bits, htake_self, htake_push, hget_hpush_self, hset_push, rowOf_self, okIn, lowIn, lowIn1, fzC_d, fzC_row, f125]
def cmpI (a b : Int) : Int := if a < b then -1 else if b < a then 1 else 0
def cmpS (x y : Txt) : Int := if Op.bytesLess x y = true then -1 else if (!(Op.bytesLess x y || decide (x = y))) = true then 1 else 0
theorem e112 (H : Hp) (a b : Int) : ev R 112 [.d (.int .i64 a), .d (.int .i64 b)] H = some (.d (.int .i64 (cmpI a b)), H) := by
  refine ev_fn (fn := f112) rfl rfl ?_
  have p1 := pureCall_eq (cl := ev R) fun H => e124 H a
  have p2 := pureCall_eq (cl := ev R) fun H => e124 H b
  unfold cmpI
  by_cases c1 : a < b
  · simp [-List.getD_eq_getElem?_getD, -List.map_map, evBody, evCode, evOps, evOper, evOp, opd, Env.get, Env.put, Env.keep, zipEnv, V.ok, V.sto, V.cells, D.cells, V.isAgg, binD, binInt, binStr, shInt, unD, eqOf, asI, leave, resOf, mapO, fzV, tupOf, view, view1, isData, hand, flatV, flatD, allD, mkAgg, mkVal, beq_lit, IntKind.bits, htake_self, htake_push, hget_hpush_self, hset_push, rowOf_self, okIn, lowIn, lowIn1, fzC_d, fzC_row, f112, p1, p2, c1]
  · by_cases c2 : b < a
    · simp [-List.getD_eq_getElem?_getD, -List.map_map, evBody, evCode, evOps, evOper, evOp, opd, Env.get, Env.put, Env.keep, zipEnv, V.ok, V.sto, V.cells, D.cells, V.isAgg, binD, binInt, binStr, shInt, unD, eqOf, asI, leave, resOf, mapO, fzV, tupOf, view, view1, isData, hand, flatV, flatD, allD, mkAgg, mkVal, beq_lit, IntKind.bits, htake_self, htake_push, hget_hpush_self, hset_push, rowOf_self, okIn, lowIn, lowIn1, fzC_d, fzC_row, f112, p1, p2, c1, c2]
    · simp [-List.getD_eq_getElem?_getD, -List.map_map, evBody, evCode, evOps, evOper, evOp, opd, Env.get, Env.put, Env.keep, zipEnv, V.ok, V.sto, V.cells, D.cells, V.isAgg, binD, binInt, binStr, shInt, unD, eqOf, asI, leave, resOf, mapO, fzV, tupOf, view, view1, isData, hand, flatV, flatD, allD, mkAgg, mkVal, beq_lit, IntKind.bits, htake_self, htake_push, hget_hpush_self, hset_push, rowOf_self, okIn, lowIn, lowIn1, fzC_d, fzC_row, f112, p1, p2, c1, c2]
theorem e113 (H : Hp) (x y : Txt) : ev R 113 [.d (.str x), .d (.str y)] H = some (.d (.int .i64 (cmpS x y)), H) := by
  refine ev_fn (fn := f113) rfl rfl ?_
  have p1 := pureCall_eq (cl := ev R) fun H => e125 H x
  have p2 := pureCall_eq (cl := ev R) fun H => e125 H y
  unfold cmpS
  cases c1 : Op.bytesLess x y with
  | true => simp [-List.getD_eq_getElem?_getD, -List.map_map, evBody, evCode, evOps, evOper, evOp, opd, Env.get, Env.put, Env.keep, zipEnv, V.ok, V.sto, V.cells, D.cells, V.isAgg, binD, binInt, binStr, shInt, unD, eqOf, asI, leave, resOf, mapO, fzV, tupOf, view, view1, isData, hand, flatV, flatD, allD, mkAgg, mkVal, beq_lit, IntKind.bits, htake_self, htake_push, hget_hpush_self, hset_push, rowOf_self, okIn, lowIn, lowIn1, fzC_d, fzC_row, f113, p1, p2, c1]
  | false =>
    by_cases c2 : x = y
    · subst c2
      simp [-List.getD_eq_getElem?_getD, -List.map_map, evBody, evCode, evOps, evOper, evOp, opd, Env.get, Env.put, Env.keep, zipEnv, V.ok, V.sto, V.cells, D.cells, V.isAgg, binD, binInt, binStr, shInt, unD, eqOf, asI, leave, resOf, mapO, fzV, tupOf, view, view1, isData, hand, flatV, flatD, allD, mkAgg, mkVal, beq_lit, IntKind.bits, htake_self, htake_push, hget_hpush_self, hset_push, rowOf_self, okIn, lowIn, lowIn1, fzC_d, fzC_row, f113, p1, c1]
    · simp [-List.getD_eq_getElem?_getD, -List.map_map, evBody, evCode, evOps, evOper, evOp, opd, Env.get, Env.put, Env.keep, zipEnv, V.ok, V.sto, V.cells, D.cells, V.isAgg, binD, binInt, binStr, shInt, unD, eqOf, asI, leave, resOf, mapO, fzV, tupOf, view, view1, isData, hand, flatV, flatD, allD, mkAgg, mkVal, beq_lit, IntKind.bits, htake_self, htake_push, hget_hpush_self, hset_push, rowOf_self, okIn, lowIn, lowIn1, fzC_d, fzC_row, f113, p1, p2, c1, c2]
/-- The first that is not zero. -/
def orV (a b : Int) : Int := if a = 0 then b else a
theorem duo0 (a b : D) : [a, b].getD 0 .nilp = a := rfl
theorem duo1 (a b : D) : [a, b].getD 1 .nilp = b := rfl
theorem e111 (H : Hp) (a b : Int) : ev R 111 [.d (.vals 1 [.int .i64 a, .int .i64 b])] H = some (.d (.int .i64 (orV a b)), H) := by
  refine ev_fn (fn := f111) rfl rfl ?_
  have w1 : IntKind.i64.wrap (0 + 1) = 1 := rfl
  have w2 : IntKind.i64.wrap (1 + 1) = 2 := rfl
  have w1' : IntKind.i64.wrap 1 = 1 := rfl
  have w2' : IntKind.i64.wrap 2 = 2 := rfl
  unfold orV
  by_cases c1 : a = 0
  · subst c1
    by_cases c2 : b = 0
    · subst c2
      have L : ∃ e', evLoop (evCode (ev R) R.glob (hlen H) evLoop f111l0) [3, 6, 7, 8] ⟨[(3, .d (.int .i64 0)), (6, .d (.vals 1 [.int .i64 0, .int .i64 0])), (7, .d (.int .i64 2)), (8, .d (.int .i64 0))], H⟩ = some (.exit 0, ⟨e', H⟩) ∧ e'.get 3 = .d (.int .i64 0) := by
        rw [evLoop_eq]
        simp [-List.getD_eq_getElem?_getD, -List.map_map, evBody, evCode, evOps, evOper, evOp, opd, Env.get, Env.put, Env.keep, zipEnv, V.ok, V.sto, V.cells, D.cells, V.isAgg, binD, binInt, binStr, shInt, unD, eqOf, asI, leave, resOf, mapO, fzV, tupOf, view, view1, isData, hand, flatV, flatD, allD, mkAgg, mkVal, beq_lit, IntKind.bits, htake_self, htake_push, hget_hpush_self, hset_push, rowOf_self, okIn, lowIn, lowIn1, fzC_d, fzC_row, f111l0, duo0, duo1, w1, w2, w1', w2']
        rw [evLoop_eq]
        simp [-List.getD_eq_getElem?_getD, -List.map_map, evBody, evCode, evOps, evOper, evOp, opd, Env.get, Env.put, Env.keep, zipEnv, V.ok, V.sto, V.cells, D.cells, V.isAgg, binD, binInt, binStr, shInt, unD, eqOf, asI, leave, resOf, mapO, fzV, tupOf, view, view1, isData, hand, flatV, flatD, allD, mkAgg, mkVal, beq_lit, IntKind.bits, htake_self, htake_push, hget_hpush_self, hset_push, rowOf_self, okIn, lowIn, lowIn1, fzC_d, fzC_row, f111l0, duo0, duo1, w1, w2, w1', w2']
        rw [evLoop_eq]
        refine ⟨?_, ?_, ?_⟩
        rotate_left
        · simp [-List.getD_eq_getElem?_getD, -List.map_map, evBody, evCode, evOps, evOper, evOp, opd, Env.get, Env.put, Env.keep, zipEnv, V.ok, V.sto, V.cells, D.cells, V.isAgg, binD, binInt, binStr, shInt, unD, eqOf, asI, leave, resOf, mapO, fzV, tupOf, view, view1, isData, hand, flatV, flatD, allD, mkAgg, mkVal, beq_lit, IntKind.bits, htake_self, htake_push, hget_hpush_self, hset_push, rowOf_self, okIn, lowIn, lowIn1, fzC_d, fzC_row, f111l0, duo0, duo1, w1, w2, w1', w2']
          try rfl
        · simp [-List.getD_eq_getElem?_getD, -List.map_map, evBody, evCode, evOps, evOper, evOp, opd, Env.get, Env.put, Env.keep, zipEnv, V.ok, V.sto, V.cells, D.cells, V.isAgg, binD, binInt, binStr, shInt, unD, eqOf, asI, leave, resOf, mapO, fzV, tupOf, view, view1, isData, hand, flatV, flatD, allD, mkAgg, mkVal, beq_lit, IntKind.bits, htake_self, htake_push, hget_hpush_self, hset_push, rowOf_self, okIn, lowIn, lowIn1, fzC_d, fzC_row]
      obtain ⟨e', he, h3⟩ := L
      simp [-List.getD_eq_getElem?_getD, -List.map_map, evBody, evCode, evOps, evOper, evOp, opd, Env.get, Env.put, Env.keep, zipEnv, V.ok, V.sto, V.cells, D.cells, V.isAgg, binD, binInt, binStr, shInt, unD, eqOf, asI, leave, resOf, mapO, fzV, tupOf, view, view1, isData, hand, flatV, flatD, allD, mkAgg, mkVal, beq_lit, IntKind.bits, htake_self, htake_push, hget_hpush_self, hset_push, rowOf_self, okIn, lowIn, lowIn1, fzC_d, fzC_row, f111, he, h3]
    · have L : ∃ e', evLoop (evCode (ev R) R.glob (hlen H) evLoop f111l0) [3, 6, 7, 8] ⟨[(3, .d (.int .i64 0)), (6, .d (.vals 1 [.int .i64 0, .int .i64 b])), (7, .d (.int .i64 2)), (8, .d (.int .i64 0))], H⟩ = some (.ret, ⟨e', H⟩) ∧ e'.get 2 = .d (.int .i64 b) := by
        rw [evLoop_eq]
        simp [-List.getD_eq_getElem?_getD, -List.map_map, evBody, evCode, evOps, evOper, evOp, opd, Env.get, Env.put, Env.keep, zipEnv, V.ok, V.sto, V.cells, D.cells, V.isAgg, binD, binInt, binStr, shInt, unD, eqOf, asI, leave, resOf, mapO, fzV, tupOf, view, view1, isData, hand, flatV, flatD, allD, mkAgg, mkVal, beq_lit, IntKind.bits, htake_self, htake_push, hget_hpush_self, hset_push, rowOf_self, okIn, lowIn, lowIn1, fzC_d, fzC_row, f111l0, duo0, duo1, w1, w2, w1', w2', c2]
        rw [evLoop_eq]
        refine ⟨?_, ?_, ?_⟩
        rotate_left
        · simp [-List.getD_eq_getElem?_getD, -List.map_map, evBody, evCode, evOps, evOper, evOp, opd, Env.get, Env.put, Env.keep, zipEnv, V.ok, V.sto, V.cells, D.cells, V.isAgg, binD, binInt, binStr, shInt, unD, eqOf, asI, leave, resOf, mapO, fzV, tupOf, view, view1, isData, hand, flatV, flatD, allD, mkAgg, mkVal, beq_lit, IntKind.bits, htake_self, htake_push, hget_hpush_self, hset_push, rowOf_self, okIn, lowIn, lowIn1, fzC_d, fzC_row, f111l0, duo0, duo1, w1, w2, w1', w2', c2]
          try rfl
        · simp [-List.getD_eq_getElem?_getD, -List.map_map, evBody, evCode, evOps, evOper, evOp, opd, Env.get, Env.put, Env.keep, zipEnv, V.ok, V.sto, V.cells, D.cells, V.isAgg, binD, binInt, binStr, shInt, unD, eqOf, asI, leave, resOf, mapO, fzV, tupOf, view, view1, isData, hand, flatV, flatD, allD, mkAgg, mkVal, beq_lit, IntKind.bits, htake_self, htake_push, hget_hpush_self, hset_push, rowOf_self, okIn, lowIn, lowIn1, fzC_d, fzC_row]
      obtain ⟨e', he, h3⟩ := L
      simp [-List.getD_eq_getElem?_getD, -List.map_map, evBody, evCode, evOps, evOper, evOp, opd, Env.get, Env.put, Env.keep, zipEnv, V.ok, V.sto, V.cells, D.cells, V.isAgg, binD, binInt, binStr, shInt, unD, eqOf, asI, leave, resOf, mapO, fzV, tupOf, view, view1, isData, hand, flatV, flatD, allD, mkAgg, mkVal, beq_lit, IntKind.bits, htake_self, htake_push, hget_hpush_self, hset_push, rowOf_self, okIn, lowIn, lowIn1, fzC_d, fzC_row, f111, he, h3, c2]
  · have L : ∃ e', evLoop (evCode (ev R) R.glob (hlen H) evLoop f111l0) [3, 6, 7, 8] ⟨[(3, .d (.int .i64 0)), (6, .d (.vals 1 [.int .i64 a, .int .i64 b])), (7, .d (.int .i64 2)), (8, .d (.int .i64 0))], H⟩ = some (.ret, ⟨e', H⟩) ∧ e'.get 2 = .d (.int .i64 a) := by
      rw [evLoop_eq]
      refine ⟨?_, ?_, ?_⟩
      rotate_left
      · simp [-List.getD_eq_getElem?_getD, -List.map_map, evBody, evCode, evOps, evOper, evOp, opd, Env.get, Env.put, Env.keep, zipEnv, V.ok, V.sto, V.cells, D.cells, V.isAgg, binD, binInt, binStr, shInt, unD, eqOf, asI, leave, resOf, mapO, fzV, tupOf, view, view1, isData, hand, flatV, flatD, allD, mkAgg, mkVal, beq_lit, IntKind.bits, htake_self, htake_push, hget_hpush_self, hset_push, rowOf_self, okIn, lowIn, lowIn1, fzC_d, fzC_row, f111l0, duo0, duo1, w1, w2, w1', w2', c1]
        try rfl
      · simp [-List.getD_eq_getElem?_getD, -List.map_map, evBody, evCode, evOps, evOper, evOp, opd, Env.get, Env.put, Env.keep, zipEnv, V.ok, V.sto, V.cells, D.cells, V.isAgg, binD, binInt, binStr, shInt, unD, eqOf, asI, leave, resOf, mapO, fzV, tupOf, view, view1, isData, hand, flatV, flatD, allD, mkAgg, mkVal, beq_lit, IntKind.bits, htake_self, htake_push, hget_hpush_self, hset_push, rowOf_self, okIn, lowIn, lowIn1, fzC_d, fzC_row]
    obtain ⟨e', he, h3⟩ := L
    simp [-List.getD_eq_getElem?_getD, -List.map_map, evBody, evCode, evOps, evOper, evOp, opd, Env.get, Env.put, Env.keep, zipEnv, V.ok, V.sto, V.cells, D.cells, V.isAgg, binD, binInt, binStr, shInt, unD, eqOf, asI, leave, resOf, mapO, fzV, tupOf, view, view1, isData, hand, flatV, flatD, allD, mkAgg, mkVal, beq_lit, IntKind.bits, htake_self, htake_push, hget_hpush_self, hset_push, rowOf_self, okIn, lowIn, lowIn1, fzC_d, fzC_row, f111, he, h3, c1]
theorem take2 (H : Hp) (a b : Ev.Obj) : htake (hpush (hpush H a) b) (hlen H) = H := by simp [htake, hpush, hlen]
theorem e100 (H : Hp) (x y : Txt) (a b : Int) : ev R 100 [.d (.agg [.str x, .int .i64 a]), .d (.agg [.str y, .int .i64 b])] H = some (.d (.int .i64 (orV (cmpI a b) (cmpS x y))), H) := by
  refine ev_fn (fn := f100) rfl rfl ?_
  have p1 := pureCall_eq (cl := ev R) fun H => e112 H a b
  have p2 := pureCall_eq (cl := ev R) fun H => e113 H x y
  have p3 := pureCall_eq (cl := ev R) fun H => e111 H (cmpI a b) (cmpS x y)
  simp [-List.getD_eq_getElem?_getD, -List.map_map, evBody, evCode, evOps, evOper, evOp, opd, Env.get, Env.put, Env.keep, zipEnv, V.ok, V.sto, V.cells, D.cells, V.isAgg, binD, binInt, binStr, shInt, unD, eqOf, asI, leave, resOf, mapO, fzV, tupOf, view, view1, isData, hand, flatV, flatD, allD, mkAgg, mkVal, beq_lit, IntKind.bits, htake_self, htake_push, hget_hpush_self, hset_push, rowOf_self, okIn, lowIn, lowIn1, fzC_d, fzC_row, f100, hlen_hpush, hload, rowOf, get2_0, get2_1, p1, p2, p3, take2]
/-- Whether a score stands ahead of another. -/
def aheadV (x y : Txt) (a b : Int) : Bool := decide (a < b) || (decide (a = b) && Op.bytesLess x y)
theorem e98 (H : Hp) (x y : Txt) (a b : Int) : ev R 98 [.d (.agg [.str x, .int .i64 a]), .d (.agg [.str y, .int .i64 b])] H = some (.d (.bool (aheadV x y a b)), H) := by
  refine ev_fn (fn := f98) rfl rfl ?_
  unfold aheadV
  by_cases c1 : a < b
  · simp [-List.getD_eq_getElem?_getD, -List.map_map, evBody, evCode, evOps, evOper, evOp, opd, Env.get, Env.put, Env.keep, zipEnv, V.ok, V.sto, V.cells, D.cells, V.isAgg, binD, binInt, binStr, shInt, unD, eqOf, asI, leave, resOf, mapO, fzV, tupOf, view, view1, isData, hand, flatV, flatD, allD, mkAgg, mkVal, beq_lit, IntKind.bits, htake_self, htake_push, hget_hpush_self, hset_push, rowOf_self, okIn, lowIn, lowIn1, fzC_d, fzC_row, f98, hlen_hpush, hload, rowOf, get2_0, get2_1, c1, take2]
  · by_cases c2 : a = b
    · simp [-List.getD_eq_getElem?_getD, -List.map_map, evBody, evCode, evOps, evOper, evOp, opd, Env.get, Env.put, Env.keep, zipEnv, V.ok, V.sto, V.cells, D.cells, V.isAgg, binD, binInt, binStr, shInt, unD, eqOf, asI, leave, resOf, mapO, fzV, tupOf, view, view1, isData, hand, flatV, flatD, allD, mkAgg, mkVal, beq_lit, IntKind.bits, htake_self, htake_push, hget_hpush_self, hset_push, rowOf_self, okIn, lowIn, lowIn1, fzC_d, fzC_row, f98, hlen_hpush, hload, rowOf, get2_0, get2_1, c1, c2, take2]
    · simp [-List.getD_eq_getElem?_getD, -List.map_map, evBody, evCode, evOps, evOper, evOp, opd, Env.get, Env.put, Env.keep, zipEnv, V.ok, V.sto, V.cells, D.cells, V.isAgg, binD, binInt, binStr, shInt, unD, eqOf, asI, leave, resOf, mapO, fzV, tupOf, view, view1, isData, hand, flatV, flatD, allD, mkAgg, mkVal, beq_lit, IntKind.bits, htake_self, htake_push, hget_hpush_self, hset_push, rowOf_self, okIn, lowIn, lowIn1, fzC_d, fzC_row, f98, hlen_hpush, hload, rowOf, get2_0, get2_1, c1, c2, take2]
theorem order_ahead (x y : Txt) (a b : Int) : decide (orV (cmpI a b) (cmpS x y) ≥ 0) = !aheadV x y a b := by
  unfold orV cmpI cmpS aheadV
  by_cases c1 : a < b
  · simp [c1]
  · by_cases c2 : b < a
    · have : ¬ a = b := by omega
      simp [c1, c2, this]
    · have : a = b := by omega
      cases h : Op.bytesLess x y with
      | true => simp [c1, c2, this]
      | false =>
        by_cases c3 : x = y
        · simp [c1, c2, this, c3]
        · simp [c1, c2, this, c3]
theorem e115 (H : Hp) (t x : Txt) (n : Int) : ev R 115 [.d (.agg [.str t, .int .i64 n]), .d (.rptr [.str x])] H = some (.d (.bool (decide (t = x))), H) := by
  refine ev_fn (fn := f115) rfl rfl ?_
  have ld : hload (hpush H (.row 0 2 [.d (.agg [.str t, .int .i64 n])])) (hlen H) 0 0 0 1 = some [.d (.str t)] := by simp [hload, rowOf_self, V.cells, D.cells]
  simp [-List.getD_eq_getElem?_getD, -List.map_map, evBody, evCode, evOps, evOper, evOp, opd, Env.get, Env.put, Env.keep, zipEnv, V.ok, V.sto, V.cells, D.cells, V.isAgg, binD, binInt, binStr, shInt, unD, eqOf, asI, leave, resOf, mapO, fzV, tupOf, view, view1, isData, hand, flatV, flatD, allD, mkAgg, mkVal, beq_lit, IntKind.bits, htake_self, htake_push, hget_hpush_self, hset_push, rowOf_self, okIn, lowIn, lowIn1, fzC_d, fzC_row, f115, ld]
/-- The score of a text. -/
def sameT (xs : List Sc) (x : Txt) (i : Nat) : Bool := decide ((xs.getD i ([], 0)).1 = x)
theorem l114 (n0 : Nat) (xs : List Sc) (hx : xs.length ≤ 9223372036854775807) (x : Txt) (H : Hp) : ∀ (n i : Nat) (e : Env), i + n = xs.length → e.get 0 = .d (scs xs) → e.get 1 = .d (.fn (.func 115) [.rptr [.str x]]) → e.get 7 = .d (.int .i64 xs.length) → e.get 8 = .d (.int .i64 i) →
    ∃ e', evLoop (evCode (ev R) R.glob n0 evLoop f114l0) [0, 1, 7, 8] ⟨e, H⟩ = some ((match seek (sameT xs x) n i with | some _ => .ret | none => .exit 0), ⟨e', H⟩) ∧ (∀ j, seek (sameT xs x) n i = some j → e'.get 4 = .d (.int .i64 j))
  | 0, i, e, h1, g0, g1, g7, g8 => by
    have c : ¬ (i : Int) < (xs.length : Int) := by omega
    have c' : ¬ i < xs.length := by omega
    rw [evLoop_eq]
    simp only [seek]
    refine ⟨?_, ?_, ?_⟩
    rotate_left
    · simp [-List.getD_eq_getElem?_getD, -List.map_map, evBody, evCode, evOps, evOper, evOp, opd, Env.get, Env.put, Env.keep, zipEnv, V.ok, V.sto, V.cells, D.cells, V.isAgg, binD, binInt, binStr, shInt, unD, eqOf, asI, leave, resOf, mapO, fzV, tupOf, view, view1, isData, hand, flatV, flatD, allD, mkAgg, mkVal, beq_lit, IntKind.bits, htake_self, htake_push, hget_hpush_self, hset_push, rowOf_self, okIn, lowIn, lowIn1, fzC_d, fzC_row, f114l0, g0, g1, g7, g8, scs, c, c']
      try rfl
    · intro j h; simp at h
  | n + 1, i, e, h1, g0, g1, g7, g8 => by
    have c : (i : Int) < (xs.length : Int) := by omega
    have c' : i < xs.length := by omega
    have ga := scs_get xs i c'
    have p := pureCall_eq (cl := ev R) fun H => e115 H (xs.getD i ([], 0)).1 x (xs.getD i ([], 0)).2
    have hp : sameT xs x i = decide ((xs.getD i ([], 0)).1 = x) := rfl
    have w1 : IntKind.i64.wrap ((i : Int) + 1) = ((i + 1 : Nat) : Int) := by rw [IntWalk.i64_in _ (by omega)]; rfl
    have ih := l114 n0 xs hx x H n (i + 1)
    simp only [seek]
    rw [hp]
    generalize (xs.getD i ([], 0)) = y at *
    rw [evLoop_eq]
    generalize evLoop (evCode (ev R) R.glob n0 evLoop f114l0) [0, 1, 7, 8] = F at ih ⊢
    by_cases hb : y.1 = x
    · simp only [hb, decide_true, if_true] at p ⊢
      refine ⟨?_, ?_, ?_⟩
      rotate_left
      · simp [-List.getD_eq_getElem?_getD, -List.map_map, evBody, evCode, evOps, evOper, evOp, opd, Env.get, Env.put, Env.keep, zipEnv, V.ok, V.sto, V.cells, D.cells, V.isAgg, binD, binInt, binStr, shInt, unD, eqOf, asI, leave, resOf, mapO, fzV, tupOf, view, view1, isData, hand, flatV, flatD, allD, mkAgg, mkVal, beq_lit, IntKind.bits, htake_self, htake_push, hget_hpush_self, hset_push, rowOf_self, okIn, lowIn, lowIn1, fzC_d, fzC_row, f114l0, g0, g1, g7, g8, scs, c, c', ga, hb, p]
        try rfl
      · intro j hj
        simp only [Option.some.injEq] at hj
        subst hj
        simp [-List.getD_eq_getElem?_getD, -List.map_map, evBody, evCode, evOps, evOper, evOp, opd, Env.get, Env.put, Env.keep, zipEnv, V.ok, V.sto, V.cells, D.cells, V.isAgg, binD, binInt, binStr, shInt, unD, eqOf, asI, leave, resOf, mapO, fzV, tupOf, view, view1, isData, hand, flatV, flatD, allD, mkAgg, mkVal, beq_lit, IntKind.bits, htake_self, htake_push, hget_hpush_self, hset_push, rowOf_self, okIn, lowIn, lowIn1, fzC_d, fzC_row]
    · simp only [hb, decide_false, Bool.false_eq_true, if_false] at p ⊢
      generalize seek (sameT xs x) n (i + 1) = S at *
      simp [-List.getD_eq_getElem?_getD, -List.map_map, evBody, evCode, evOps, evOper, evOp, opd, Env.get, Env.put, Env.keep, zipEnv, V.ok, V.sto, V.cells, D.cells, V.isAgg, binD, binInt, binStr, shInt, unD, eqOf, asI, leave, resOf, mapO, fzV, tupOf, view, view1, isData, hand, flatV, flatD, allD, mkAgg, mkVal, beq_lit, IntKind.bits, htake_self, htake_push, hget_hpush_self, hset_push, rowOf_self, okIn, lowIn, lowIn1, fzC_d, fzC_row, f114l0, g0, g1, g7, g8, scs, c, c', ga, hb, p, w1]
      refine ih _ (by omega) ?_ ?_ ?_ ?_ <;> (first | rfl | exact g7)
/-- Where a text stands. -/
def scAt (xs : List Sc) (x : Txt) : Int := match seek (sameT xs x) xs.length 0 with | some j => j | none => -1
theorem e114 (H : Hp) (xs : List Sc) (hx : xs.length ≤ 9223372036854775807) (x : Txt) : ev R 114 [.d (scs xs), .d (.fn (.func 115) [.rptr [.str x]])] H = some (.d (.int .i64 (scAt xs x)), H) := by
  refine ev_fn (fn := f114) rfl rfl ?_
  obtain ⟨e', he, h4⟩ := l114 (hlen H) xs hx x H xs.length 0 [(0, .d (scs xs)), (1, .d (.fn (.func 115) [.rptr [.str x]])), (7, .d (.int .i64 xs.length)), (8, .d (.int .i64 0))] (by omega) rfl rfl rfl rfl
  unfold scAt
  simp only [scs] at he
  cases hr : seek (sameT xs x) xs.length 0 with
  | some j =>
    have h4 := h4 j hr
    simp only [hr] at he
    simp [-List.getD_eq_getElem?_getD, -List.map_map, evBody, evCode, evOps, evOper, evOp, opd, Env.get, Env.put, Env.keep, zipEnv, V.ok, V.sto, V.cells, D.cells, V.isAgg, binD, binInt, binStr, shInt, unD, eqOf, asI, leave, resOf, mapO, fzV, tupOf, view, view1, isData, hand, flatV, flatD, allD, mkAgg, mkVal, beq_lit, IntKind.bits, htake_self, htake_push, hget_hpush_self, hset_push, rowOf_self, okIn, lowIn, lowIn1, fzC_d, fzC_row, f114, scs, he, h4]
  | none =>
    simp only [hr] at he
    simp [-List.getD_eq_getElem?_getD, -List.map_map, evBody, evCode, evOps, evOper, evOp, opd, Env.get, Env.put, Env.keep, zipEnv, V.ok, V.sto, V.cells, D.cells, V.isAgg, binD, binInt, binStr, shInt, unD, eqOf, asI, leave, resOf, mapO, fzV, tupOf, view, view1, isData, hand, flatV, flatD, allD, mkAgg, mkVal, beq_lit, IntKind.bits, htake_self, htake_push, hget_hpush_self, hset_push, rowOf_self, okIn, lowIn, lowIn1, fzC_d, fzC_row, f114, scs, he]
theorem e101 (H : Hp) (xs : List Sc) (hx : xs.length ≤ 9223372036854775807) (x : Txt) : ev R 101 [.d (scs xs), .d (.str x)] H = some (.d (.int .i64 (scAt xs x)), H) := by
  refine ev_fn (fn := f101) rfl rfl ?_
  have p := pureCall_eq (cl := ev R) fun H => e114 H xs hx x
  have uno : ∀ a : D, [a].getD 0 .nilp = a := fun _ => rfl
  simp only [scs] at p
  simp [-List.getD_eq_getElem?_getD, -List.map_map, evBody, evCode, evOps, evOper, evOp, opd, Env.get, Env.put, Env.keep, zipEnv, V.ok, V.sto, V.cells, D.cells, V.isAgg, binD, binInt, binStr, shInt, unD, eqOf, asI, leave, resOf, mapO, fzV, tupOf, view, view1, isData, hand, flatV, flatD, allD, mkAgg, mkVal, beq_lit, IntKind.bits, htake_self, htake_push, hget_hpush_self, hset_push, rowOf_self, okIn, lowIn, lowIn1, fzC_d, fzC_row, f101, scs, uno, p]
/-- Is the text twice there? -/
theorem scAt_ne (xs : List Sc) (i : Nat) (hi : i < xs.length) : decide (¬ scAt xs (xs.getD i ([], 0)).1 = (i : Int)) = anyF (sameT xs (xs.getD i ([], 0)).1) i 0 := by
  have anyT : ∀ (p : Nat → Bool) (n k : Nat), anyF p n k = true ↔ ∃ j, k ≤ j ∧ j < k + n ∧ p j = true := by
    intro p n
    induction n with
    | zero => intro k; simp [anyF]; intro j h1 h2; omega
    | succ n ih =>
      intro k
      simp only [anyF, Bool.or_eq_true, ih (k + 1)]
      constructor
      · rintro (h | ⟨j, h1, h2, h3⟩)
        · exact ⟨k, Nat.le_refl _, by omega, h⟩
        · exact ⟨j, by omega, by omega, h3⟩
      · rintro ⟨j, h1, h2, h3⟩
        by_cases e : j = k
        · subst e; exact .inl h3
        · exact .inr ⟨j, by omega, by omega, h3⟩
  have self : sameT xs (xs.getD i ([], 0)).1 i = true := by simp [sameT]
  generalize (xs.getD i ([], 0)).1 = x at *
  unfold scAt
  cases hr : seek (sameT xs x) xs.length 0 with
  | none =>
    have := seek_none hr i (by omega) (by omega)
    rw [self] at this; simp at this
  | some j =>
    obtain ⟨h1, h2, h3, h4⟩ := seek_some hr
    have hji : j ≤ i := by
      refine Nat.le_of_not_lt fun h => ?_
      have := h4 i (by omega) h
      rw [self] at this; simp at this
    simp only
    cases hb : anyF (sameT xs x) i 0 with
    | true =>
      obtain ⟨k, k1, k2, k3⟩ := (anyT _ _ _).1 hb
      have hk : ¬ k < j := fun h => by
        have := h4 k (by omega) h
        rw [k3] at this; simp at this
      simp; omega
    | false =>
      have : ¬ j < i := fun h => by
        have := (anyT (sameT xs x) i 0).2 ⟨j, by omega, by omega, h3⟩
        rw [hb] at this; simp at this
      simp; omega
end Go.Proofs.YtpmphmpaeooeeaaDoorO.Code
/- Which lists an entry may hold: scores in order, without twins. -/
namespace Go.Proofs.YtpmphmpaeooeeaaDoorO.Code
open Go Go.Ev Go.Proofs
set_option maxRecDepth 100000
set_option linter.unusedSimpArgs false
set_option linter.unusedVariables false
theorem e99 (H : Hp) (a : Int) : ev R 99 [.d (.int .i64 a)] H = some (.d (.bool (decide (a ≥ -1000000000) && decide (a ≤ 1000000000))), H) := by
  refine ev_fn (fn := f99) rfl rfl ?_
  have p := p34 a (-1000000000) 1000000000
  simp [-List.getD_eq_getElem?_getD, -List.map_map, evBody, evCode, evOps, evOper, evOp, opd, Env.get, Env.put, Env.keep, zipEnv, V.ok, V.sto, V.cells, D.cells, V.isAgg, binD, binInt, binStr, shInt, unD, eqOf, asI, leave, resOf, mapO, fzV, tupOf, view, view1, isData, hand, flatV, flatD, allD, mkAgg, mkVal, beq_lit, IntKind.bits, htake_self, htake_push, hget_hpush_self, hset_push, rowOf_self, okIn, lowIn, lowIn1, fzC_d, fzC_row, f99, p]
/-- A score that may not stand where it stands. -/
def badSc (xs : List Sc) (i : Nat) : Bool := decide (40 < (xs.getD i ([], 0)).1.length) || !(decide ((xs.getD i ([], 0)).2 ≥ -1000000000) && decide ((xs.getD i ([], 0)).2 ≤ 1000000000)) ||
  (decide (0 < i) && !aheadV (xs.getD (i - 1) ([], 0)).1 (xs.getD i ([], 0)).1 (xs.getD (i - 1) ([], 0)).2 (xs.getD i ([], 0)).2) || anyF (sameT xs (xs.getD i ([], 0)).1) i 0
theorem l82i (n0 : Nat) (xs : List Sc) (hx : xs.length ≤ 9223372036854775807) (i : Nat) (hi : i < xs.length) (H : Hp) : ∀ (n k : Nat) (e : Env), k + n = i → e.get 0 = .d (scs xs) → e.get 3 = .d (.int .i64 i) → e.get 4 = .d (.int .i64 k) →
    ∃ e', evLoop (evCode (ev R) R.glob n0 evLoop f82l0) [0, 3, 4] ⟨e, H⟩ = some ((bif anyF (sameT xs (xs.getD i ([], 0)).1) n k then .ret else .exit 2), ⟨e', H⟩) ∧
      (anyF (sameT xs (xs.getD i ([], 0)).1) n k = true → e'.get 2 = .d (.bool false)) ∧ (anyF (sameT xs (xs.getD i ([], 0)).1) n k = false → e'.get 0 = .d (scs xs) ∧ e'.get 3 = .d (.int .i64 i))
  | 0, k, e, h1, g0, g3, g4 => by
    have c : ¬ (k : Int) < (i : Int) := by omega
    have c' : ¬ k < i := by omega
    rw [evLoop_eq]
    simp only [anyF]
    refine ⟨?_, ?_, ?_, ?_⟩
    rotate_left
    · simp [-List.getD_eq_getElem?_getD, -List.map_map, evBody, evCode, evOps, evOper, evOp, opd, Env.get, Env.put, Env.keep, zipEnv, V.ok, V.sto, V.cells, D.cells, V.isAgg, binD, binInt, binStr, shInt, unD, eqOf, asI, leave, resOf, mapO, fzV, tupOf, view, view1, isData, hand, flatV, flatD, allD, mkAgg, mkVal, beq_lit, IntKind.bits, htake_self, htake_push, hget_hpush_self, hset_push, rowOf_self, okIn, lowIn, lowIn1, fzC_d, fzC_row, f82l0, g0, g3, g4, scs, c, c']
      try rfl
    · intro h; simp at h
    · intro _; simp [-List.getD_eq_getElem?_getD, -List.map_map, evBody, evCode, evOps, evOper, evOp, opd, Env.get, Env.put, Env.keep, zipEnv, V.ok, V.sto, V.cells, D.cells, V.isAgg, binD, binInt, binStr, shInt, unD, eqOf, asI, leave, resOf, mapO, fzV, tupOf, view, view1, isData, hand, flatV, flatD, allD, mkAgg, mkVal, beq_lit, IntKind.bits, htake_self, htake_push, hget_hpush_self, hset_push, rowOf_self, okIn, lowIn, lowIn1, fzC_d, fzC_row, g0, g3, scs]
  | n + 1, k, e, h1, g0, g3, g4 => by
    have c : (k : Int) < (i : Int) := by omega
    have c' : k < i := by omega
    have ga := scs_get xs i hi
    have gb := scs_get xs k (by omega)
    have ck : (k : Int) < (xs.length : Int) := by omega
    have ci : (i : Int) < (xs.length : Int) := by omega
    have ck' : k < xs.length := by omega
    have hp : sameT xs (xs.getD i ([], 0)).1 k = decide ((xs.getD k ([], 0)).1 = (xs.getD i ([], 0)).1) := rfl
    have w1 : IntKind.i64.wrap ((k : Int) + 1) = ((k + 1 : Nat) : Int) := by rw [IntWalk.i64_in _ (by omega)]; rfl
    have ih := l82i n0 xs hx i hi H n (k + 1)
    simp only [anyF]
    rw [hp]
    generalize anyF (sameT xs (xs.getD i ([], 0)).1) n (k + 1) = S at *
    generalize (xs.getD i ([], 0)) = x at *
    generalize (xs.getD k ([], 0)) = y at *
    rw [evLoop_eq]
    generalize evLoop (evCode (ev R) R.glob n0 evLoop f82l0) [0, 3, 4] = F at ih ⊢
    by_cases hb : y.1 = x.1
    · simp only [hb, decide_true, Bool.true_or, cond_true]
      refine ⟨?_, ?_, ?_, ?_⟩
      rotate_left
      · simp [-List.getD_eq_getElem?_getD, -List.map_map, evBody, evCode, evOps, evOper, evOp, opd, Env.get, Env.put, Env.keep, zipEnv, V.ok, V.sto, V.cells, D.cells, V.isAgg, binD, binInt, binStr, shInt, unD, eqOf, asI, leave, resOf, mapO, fzV, tupOf, view, view1, isData, hand, flatV, flatD, allD, mkAgg, mkVal, beq_lit, IntKind.bits, htake_self, htake_push, hget_hpush_self, hset_push, rowOf_self, okIn, lowIn, lowIn1, fzC_d, fzC_row, f82l0, g0, g3, g4, scs, c, c', ck, ci, ck', hi, ga, gb, hb]
        try rfl
      · intro _; simp [-List.getD_eq_getElem?_getD, -List.map_map, evBody, evCode, evOps, evOper, evOp, opd, Env.get, Env.put, Env.keep, zipEnv, V.ok, V.sto, V.cells, D.cells, V.isAgg, binD, binInt, binStr, shInt, unD, eqOf, asI, leave, resOf, mapO, fzV, tupOf, view, view1, isData, hand, flatV, flatD, allD, mkAgg, mkVal, beq_lit, IntKind.bits, htake_self, htake_push, hget_hpush_self, hset_push, rowOf_self, okIn, lowIn, lowIn1, fzC_d, fzC_row]
      · intro h; simp at h
    · simp only [hb, decide_false, Bool.false_or]
      simp [-List.getD_eq_getElem?_getD, -List.map_map, evBody, evCode, evOps, evOper, evOp, opd, Env.get, Env.put, Env.keep, zipEnv, V.ok, V.sto, V.cells, D.cells, V.isAgg, binD, binInt, binStr, shInt, unD, eqOf, asI, leave, resOf, mapO, fzV, tupOf, view, view1, isData, hand, flatV, flatD, allD, mkAgg, mkVal, beq_lit, IntKind.bits, htake_self, htake_push, hget_hpush_self, hset_push, rowOf_self, okIn, lowIn, lowIn1, fzC_d, fzC_row, f82l0, g0, g3, g4, scs, c, c', ck, ci, ck', hi, ga, gb, hb, w1]
      refine ih _ (by omega) ?_ ?_ ?_ <;> (first | rfl | exact g3)
/-- Scores in order, at most sixteen. -/
def scoresV (xs : List Sc) : Bool := !anyF (badSc xs) xs.length 0 && decide (xs.length ≤ 16)
theorem l82 (n0 : Nat) (xs : List Sc) (hx : xs.length ≤ 9223372036854775807) (H : Hp) : ∀ (n i : Nat) (e : Env), i + n = xs.length → e.get 0 = .d (scs xs) → e.get 3 = .d (.int .i64 i) →
    ∃ e', evLoop (evCode (ev R) R.glob n0 evLoop f82l1) [0, 3] ⟨e, H⟩ = some ((bif anyF (badSc xs) n i then .ret else .exit 0), ⟨e', H⟩) ∧
      (anyF (badSc xs) n i = true → e'.get 2 = .d (.bool false)) ∧ (anyF (badSc xs) n i = false → e'.get 0 = .d (scs xs))
  | 0, i, e, h1, g0, g3 => by
    have c : ¬ (i : Int) < (xs.length : Int) := by omega
    have c' : ¬ i < xs.length := by omega
    rw [evLoop_eq]
    simp only [anyF]
    refine ⟨?_, ?_, ?_, ?_⟩
    rotate_left
    · simp [-List.getD_eq_getElem?_getD, -List.map_map, evBody, evCode, evOps, evOper, evOp, opd, Env.get, Env.put, Env.keep, zipEnv, V.ok, V.sto, V.cells, D.cells, V.isAgg, binD, binInt, binStr, shInt, unD, eqOf, asI, leave, resOf, mapO, fzV, tupOf, view, view1, isData, hand, flatV, flatD, allD, mkAgg, mkVal, beq_lit, IntKind.bits, htake_self, htake_push, hget_hpush_self, hset_push, rowOf_self, okIn, lowIn, lowIn1, fzC_d, fzC_row, f82l1, g0, g3, scs, c, c']
      try rfl
    · intro h; simp at h
    · intro _; simp [-List.getD_eq_getElem?_getD, -List.map_map, evBody, evCode, evOps, evOper, evOp, opd, Env.get, Env.put, Env.keep, zipEnv, V.ok, V.sto, V.cells, D.cells, V.isAgg, binD, binInt, binStr, shInt, unD, eqOf, asI, leave, resOf, mapO, fzV, tupOf, view, view1, isData, hand, flatV, flatD, allD, mkAgg, mkVal, beq_lit, IntKind.bits, htake_self, htake_push, hget_hpush_self, hset_push, rowOf_self, okIn, lowIn, lowIn1, fzC_d, fzC_row, g0, scs]
  | n + 1, i, e, h1, g0, g3 => by
    have c' : i < xs.length := by omega
    have ga := scs_get xs i c'
    have gb := scs_get xs (i - 1) (by omega)
    have hp : badSc xs i = (decide (40 < (xs.getD i ([], 0)).1.length) || !(decide ((xs.getD i ([], 0)).2 ≥ -1000000000) && decide ((xs.getD i ([], 0)).2 ≤ 1000000000)) || (decide (0 < i) && !aheadV (xs.getD (i - 1) ([], 0)).1 (xs.getD i ([], 0)).1 (xs.getD (i - 1) ([], 0)).2 (xs.getD i ([], 0)).2) || anyF (sameT xs (xs.getD i ([], 0)).1) i 0) := rfl
    have sn := scAt_ne xs i c'
    have q30 := p30 (xs.getD i ([], 0)).2 (-1000000000) 1000000000
    have q99 := pureCall_eq (cl := ev R) fun H => e99 H (xs.getD i ([], 0)).2
    have q98 := pureCall_eq (cl := ev R) fun H => e98 H (xs.getD (i - 1) ([], 0)).1 (xs.getD i ([], 0)).1 (xs.getD (i - 1) ([], 0)).2 (xs.getD i ([], 0)).2
    have q100 := pureCall_eq (cl := ev R) fun H => e100 H (xs.getD (i - 1) ([], 0)).1 (xs.getD i ([], 0)).1 (xs.getD (i - 1) ([], 0)).2 (xs.getD i ([], 0)).2
    have oa := order_ahead (xs.getD (i - 1) ([], 0)).1 (xs.getD i ([], 0)).1 (xs.getD (i - 1) ([], 0)).2 (xs.getD i ([], 0)).2
    have q101 := pureCall_eq (cl := ev R) fun H => e101 H xs hx (xs.getD i ([], 0)).1
    simp only [scs] at q101
    obtain ⟨ei, hin, hi2, hi3⟩ := l82i n0 xs hx i c' H i 0 [(0, .d (scs xs)), (3, .d (.int .i64 i)), (4, .d (.int .i64 0))] (by omega) rfl rfl rfl
    simp only [scs] at hin hi3
    obtain ⟨I, hI⟩ : ∃ I : Int, (i : Int) = I := ⟨_, rfl⟩
    obtain ⟨I2, hI2⟩ : ∃ I : Int, ((i + 1 : Nat) : Int) = I := ⟨_, rfl⟩
    obtain ⟨J, hJ⟩ : ∃ I : Int, ((i - 1 : Nat) : Int) = I := ⟨_, rfl⟩
    have w1 : IntKind.i64.wrap (I + 1) = I2 := by rw [IntWalk.i64_in _ (by omega)]; omega
    have c : I < (xs.length : Int) := by omega
    have cj : J < (xs.length : Int) := by omega
    have p0 : 0 ≤ I := by omega
    have pj : 0 ≤ J := by omega
    have t0 : I.toNat = i := by omega
    have tj : J.toNat = i - 1 := by omega
    have hk : i + 1 + n = xs.length := by omega
    have w0 : 0 < i → IntKind.i64.wrap (I - 1) = J := fun _ => by rw [IntWalk.i64_in _ (by omega)]; omega
    have z0 : 0 < i → 0 < I := fun _ => by omega
    have z1 : ¬ 0 < i → ¬ 0 < I := fun _ => by omega
    have ih := l82 n0 xs hx H n (i + 1)
    rw [hI] at g3 sn hin hi3
    rw [hI2] at ih
    simp only [anyF]
    generalize badSc xs i = b at *
    generalize anyF (badSc xs) n (i + 1) = S at *
    generalize anyF (sameT xs (xs.getD i ([], 0)).1) i 0 = tw at *
    generalize xs.getD i ([], 0) = x at *
    generalize xs.getD (i - 1) ([], 0) = y at *
    obtain ⟨x1, x2⟩ := x
    obtain ⟨y1, y2⟩ := y
    simp only at *
    generalize aheadV y1 x1 y2 x2 = ah at *
    generalize orV (cmpI y2 x2) (cmpS y1 x1) = od at *
    generalize scAt xs x1 = sa at *
    rw [evLoop_eq]
    generalize evLoop (evCode (ev R) R.glob n0 evLoop f82l1) [0, 3] = F at ih ⊢
    by_cases k1 : 40 < x1.length
    · have k1' : (40 : Int) < (x1.length : Int) := by omega
      simp only [k1, decide_true, Bool.true_or] at hp
      subst hp
      simp only [Bool.true_or, cond_true]
      refine ⟨?_, ?_, ?_, ?_⟩
      rotate_left
      · simp [-List.getD_eq_getElem?_getD, -List.map_map, evBody, evCode, evOps, evOper, evOp, opd, Env.get, Env.put, Env.keep, zipEnv, V.ok, V.sto, V.cells, D.cells, V.isAgg, binD, binInt, binStr, shInt, unD, eqOf, asI, leave, resOf, mapO, fzV, tupOf, view, view1, isData, hand, flatV, flatD, allD, mkAgg, mkVal, beq_lit, IntKind.bits, htake_self, htake_push, hget_hpush_self, hset_push, rowOf_self, okIn, lowIn, lowIn1, fzC_d, fzC_row, f82l1, g0, g3, scs, c, cj, p0, pj, t0, tj, ga, gb, q30, q99, q98, q100, q101, k1, k1']
        try rfl
      · intro _; simp [-List.getD_eq_getElem?_getD, -List.map_map, evBody, evCode, evOps, evOper, evOp, opd, Env.get, Env.put, Env.keep, zipEnv, V.ok, V.sto, V.cells, D.cells, V.isAgg, binD, binInt, binStr, shInt, unD, eqOf, asI, leave, resOf, mapO, fzV, tupOf, view, view1, isData, hand, flatV, flatD, allD, mkAgg, mkVal, beq_lit, IntKind.bits, htake_self, htake_push, hget_hpush_self, hset_push, rowOf_self, okIn, lowIn, lowIn1, fzC_d, fzC_row]
      · intro h; simp at h
    · have k1' : ¬ (40 : Int) < (x1.length : Int) := by omega
      cases k2 : (decide (x2 ≥ -1000000000) && decide (x2 ≤ 1000000000)) with
      | false =>
        rw [k2] at q30 q99
        simp only [k1, k2, decide_false, Bool.false_or, Bool.not_false, Bool.true_or] at hp
        subst hp
        simp only [Bool.true_or, cond_true]
        refine ⟨?_, ?_, ?_, ?_⟩
        rotate_left
        · simp [-List.getD_eq_getElem?_getD, -List.map_map, evBody, evCode, evOps, evOper, evOp, opd, Env.get, Env.put, Env.keep, zipEnv, V.ok, V.sto, V.cells, D.cells, V.isAgg, binD, binInt, binStr, shInt, unD, eqOf, asI, leave, resOf, mapO, fzV, tupOf, view, view1, isData, hand, flatV, flatD, allD, mkAgg, mkVal, beq_lit, IntKind.bits, htake_self, htake_push, hget_hpush_self, hset_push, rowOf_self, okIn, lowIn, lowIn1, fzC_d, fzC_row, f82l1, g0, g3, scs, c, cj, p0, pj, t0, tj, ga, gb, q30, q99, q98, q100, q101, k1, k1']
          try rfl
        · intro _; simp [-List.getD_eq_getElem?_getD, -List.map_map, evBody, evCode, evOps, evOper, evOp, opd, Env.get, Env.put, Env.keep, zipEnv, V.ok, V.sto, V.cells, D.cells, V.isAgg, binD, binInt, binStr, shInt, unD, eqOf, asI, leave, resOf, mapO, fzV, tupOf, view, view1, isData, hand, flatV, flatD, allD, mkAgg, mkVal, beq_lit, IntKind.bits, htake_self, htake_push, hget_hpush_self, hset_push, rowOf_self, okIn, lowIn, lowIn1, fzC_d, fzC_row]
        · intro h; simp at h
      | true =>
        rw [k2] at q30 q99
        by_cases k3 : 0 < i
        · have w0 := w0 k3
          have z0 := z0 k3
          cases ah with
          | false =>
            have od1 : 0 ≤ od := by simpa using oa
            have od2 : ¬ od < 0 := by omega
            simp only [k1, k2, k3, decide_true, decide_false, Bool.false_or, Bool.not_true, Bool.not_false, Bool.true_and, Bool.true_or] at hp
            subst hp
            simp only [Bool.true_or, cond_true]
            refine ⟨?_, ?_, ?_, ?_⟩
            rotate_left
            · simp [-List.getD_eq_getElem?_getD, -List.map_map, evBody, evCode, evOps, evOper, evOp, opd, Env.get, Env.put, Env.keep, zipEnv, V.ok, V.sto, V.cells, D.cells, V.isAgg, binD, binInt, binStr, shInt, unD, eqOf, asI, leave, resOf, mapO, fzV, tupOf, view, view1, isData, hand, flatV, flatD, allD, mkAgg, mkVal, beq_lit, IntKind.bits, htake_self, htake_push, hget_hpush_self, hset_push, rowOf_self, okIn, lowIn, lowIn1, fzC_d, fzC_row, f82l1, g0, g3, scs, c, cj, p0, pj, t0, tj, ga, gb, q30, q99, q98, q100, q101, k1, k1', z0, w0, od1, od2]
              try rfl
            · intro _; simp [-List.getD_eq_getElem?_getD, -List.map_map, evBody, evCode, evOps, evOper, evOp, opd, Env.get, Env.put, Env.keep, zipEnv, V.ok, V.sto, V.cells, D.cells, V.isAgg, binD, binInt, binStr, shInt, unD, eqOf, asI, leave, resOf, mapO, fzV, tupOf, view, view1, isData, hand, flatV, flatD, allD, mkAgg, mkVal, beq_lit, IntKind.bits, htake_self, htake_push, hget_hpush_self, hset_push, rowOf_self, okIn, lowIn, lowIn1, fzC_d, fzC_row]
            · intro h; simp at h
          | true =>
            have od1 : ¬ 0 ≤ od := by simpa using oa
            have od2 : od < 0 := by omega
            cases tw with
            | true =>
              simp only [cond_true] at hin
              have hi2 := hi2 rfl
              simp only [k1, k2, k3, decide_true, decide_false, Bool.false_or, Bool.not_true, Bool.true_and, Bool.or_true] at hp
              subst hp
              simp only [Bool.true_or, cond_true]
              refine ⟨?_, ?_, ?_, ?_⟩
              rotate_left
              · simp [-List.getD_eq_getElem?_getD, -List.map_map, evBody, evCode, evOps, evOper, evOp, opd, Env.get, Env.put, Env.keep, zipEnv, V.ok, V.sto, V.cells, D.cells, V.isAgg, binD, binInt, binStr, shInt, unD, eqOf, asI, leave, resOf, mapO, fzV, tupOf, view, view1, isData, hand, flatV, flatD, allD, mkAgg, mkVal, beq_lit, IntKind.bits, htake_self, htake_push, hget_hpush_self, hset_push, rowOf_self, okIn, lowIn, lowIn1, fzC_d, fzC_row, f82l1, g0, g3, scs, c, cj, p0, pj, t0, tj, ga, gb, q30, q99, q98, q100, q101, k1, k1', z0, w0, od1, od2, hin]
                try rfl
              · intro _; simp [-List.getD_eq_getElem?_getD, -List.map_map, evBody, evCode, evOps, evOper, evOp, opd, Env.get, Env.put, Env.keep, zipEnv, V.ok, V.sto, V.cells, D.cells, V.isAgg, binD, binInt, binStr, shInt, unD, eqOf, asI, leave, resOf, mapO, fzV, tupOf, view, view1, isData, hand, flatV, flatD, allD, mkAgg, mkVal, beq_lit, IntKind.bits, htake_self, htake_push, hget_hpush_self, hset_push, rowOf_self, okIn, lowIn, lowIn1, fzC_d, fzC_row, hi2]
              · intro h; simp at h
            | false =>
              simp only [cond_false] at hin
              obtain ⟨hi3, hi4⟩ := hi3 rfl
              simp only [k1, k2, k3, decide_true, decide_false, Bool.false_or, Bool.not_true, Bool.true_and, Bool.or_false] at hp
              subst hp
              simp only [Bool.false_or]
              simp [-List.getD_eq_getElem?_getD, -List.map_map, evBody, evCode, evOps, evOper, evOp, opd, Env.get, Env.put, Env.keep, zipEnv, V.ok, V.sto, V.cells, D.cells, V.isAgg, binD, binInt, binStr, shInt, unD, eqOf, asI, leave, resOf, mapO, fzV, tupOf, view, view1, isData, hand, flatV, flatD, allD, mkAgg, mkVal, beq_lit, IntKind.bits, htake_self, htake_push, hget_hpush_self, hset_push, rowOf_self, okIn, lowIn, lowIn1, fzC_d, fzC_row, f82l1, g0, g3, scs, c, cj, p0, pj, t0, tj, ga, gb, q30, q99, q98, q100, q101, w1, k1, k1', z0, w0, od1, od2, hin, hi3, hi4]
              refine ih _ hk ?_ ?_ <;> (first | rfl | assumption)
        · have z1 := z1 k3
          cases tw with
          | true =>
            simp only [cond_true] at hin
            have hi2 := hi2 rfl
            simp only [k1, k2, k3, decide_false, Bool.false_or, Bool.not_true, Bool.false_and, Bool.or_true] at hp
            subst hp
            simp only [Bool.true_or, cond_true]
            refine ⟨?_, ?_, ?_, ?_⟩
            rotate_left
            · simp [-List.getD_eq_getElem?_getD, -List.map_map, evBody, evCode, evOps, evOper, evOp, opd, Env.get, Env.put, Env.keep, zipEnv, V.ok, V.sto, V.cells, D.cells, V.isAgg, binD, binInt, binStr, shInt, unD, eqOf, asI, leave, resOf, mapO, fzV, tupOf, view, view1, isData, hand, flatV, flatD, allD, mkAgg, mkVal, beq_lit, IntKind.bits, htake_self, htake_push, hget_hpush_self, hset_push, rowOf_self, okIn, lowIn, lowIn1, fzC_d, fzC_row, f82l1, g0, g3, scs, c, cj, p0, pj, t0, tj, ga, gb, q30, q99, q98, q100, q101, k1, k1', z1, hin]
              try rfl
            · intro _; simp [-List.getD_eq_getElem?_getD, -List.map_map, evBody, evCode, evOps, evOper, evOp, opd, Env.get, Env.put, Env.keep, zipEnv, V.ok, V.sto, V.cells, D.cells, V.isAgg, binD, binInt, binStr, shInt, unD, eqOf, asI, leave, resOf, mapO, fzV, tupOf, view, view1, isData, hand, flatV, flatD, allD, mkAgg, mkVal, beq_lit, IntKind.bits, htake_self, htake_push, hget_hpush_self, hset_push, rowOf_self, okIn, lowIn, lowIn1, fzC_d, fzC_row, hi2]
            · intro h; simp at h
          | false =>
            simp only [cond_false] at hin
            obtain ⟨hi3, hi4⟩ := hi3 rfl
            simp only [k1, k2, k3, decide_false, Bool.false_or, Bool.not_true, Bool.false_and, Bool.or_false] at hp
            subst hp
            simp only [Bool.false_or]
            simp [-List.getD_eq_getElem?_getD, -List.map_map, evBody, evCode, evOps, evOper, evOp, opd, Env.get, Env.put, Env.keep, zipEnv, V.ok, V.sto, V.cells, D.cells, V.isAgg, binD, binInt, binStr, shInt, unD, eqOf, asI, leave, resOf, mapO, fzV, tupOf, view, view1, isData, hand, flatV, flatD, allD, mkAgg, mkVal, beq_lit, IntKind.bits, htake_self, htake_push, hget_hpush_self, hset_push, rowOf_self, okIn, lowIn, lowIn1, fzC_d, fzC_row, f82l1, g0, g3, scs, c, cj, p0, pj, t0, tj, ga, gb, q30, q99, q98, q100, q101, w1, k1, k1', z1, hin, hi3, hi4]
            refine ih _ hk ?_ ?_ <;> (first | rfl | assumption)
theorem e82 (H : Hp) (xs : List Sc) (hx : xs.length ≤ 9223372036854775807) : ev R 82 [.d (scs xs)] H = some (.d (.bool (scoresV xs)), H) := by
  refine ev_fn (fn := f82) rfl rfl ?_
  obtain ⟨e', he, h1, h2⟩ := l82 (hlen H) xs hx H xs.length 0 [(0, .d (scs xs)), (3, .d (.int .i64 0))] (by omega) rfl rfl
  unfold scoresV
  simp only [scs] at he h2
  cases hb : anyF (badSc xs) xs.length 0 with
  | true =>
    have h1 := h1 hb
    simp only [hb, cond_true] at he
    simp [-List.getD_eq_getElem?_getD, -List.map_map, evBody, evCode, evOps, evOper, evOp, opd, Env.get, Env.put, Env.keep, zipEnv, V.ok, V.sto, V.cells, D.cells, V.isAgg, binD, binInt, binStr, shInt, unD, eqOf, asI, leave, resOf, mapO, fzV, tupOf, view, view1, isData, hand, flatV, flatD, allD, mkAgg, mkVal, beq_lit, IntKind.bits, htake_self, htake_push, hget_hpush_self, hset_push, rowOf_self, okIn, lowIn, lowIn1, fzC_d, fzC_row, f82, scs, he, h1]
  | false =>
    have h2 := h2 hb
    simp only [hb, cond_false] at he
    by_cases hl : xs.length ≤ 16
    · have hl' : (xs.length : Int) ≤ 16 := by omega
      simp [-List.getD_eq_getElem?_getD, -List.map_map, evBody, evCode, evOps, evOper, evOp, opd, Env.get, Env.put, Env.keep, zipEnv, V.ok, V.sto, V.cells, D.cells, V.isAgg, binD, binInt, binStr, shInt, unD, eqOf, asI, leave, resOf, mapO, fzV, tupOf, view, view1, isData, hand, flatV, flatD, allD, mkAgg, mkVal, beq_lit, IntKind.bits, htake_self, htake_push, hget_hpush_self, hset_push, rowOf_self, okIn, lowIn, lowIn1, fzC_d, fzC_row, f82, scs, he, h2, hl, hl']
    · have hl' : ¬ (xs.length : Int) ≤ 16 := by omega
      simp [-List.getD_eq_getElem?_getD, -List.map_map, evBody, evCode, evOps, evOper, evOp, opd, Env.get, Env.put, Env.keep, zipEnv, V.ok, V.sto, V.cells, D.cells, V.isAgg, binD, binInt, binStr, shInt, unD, eqOf, asI, leave, resOf, mapO, fzV, tupOf, view, view1, isData, hand, flatV, flatD, allD, mkAgg, mkVal, beq_lit, IntKind.bits, htake_self, htake_push, hget_hpush_self, hset_push, rowOf_self, okIn, lowIn, lowIn1, fzC_d, fzC_row, f82, scs, he, h2, hl, hl']
theorem l90 (n0 : Nat) (xs : List Sc) (hx : xs.length ≤ 9223372036854775807) (H : Hp) : ∀ (n i : Nat) (X : Hp) (e : Env), i + n = xs.length → htake X (hlen H) = H → hlen H ≤ hlen X → e.get 0 = .d (scs xs) → e.get 5 = .d (scs xs) → e.get 6 = .d (.int .i64 xs.length) → e.get 7 = .d (.int .i64 i) →
    ∃ e' X', evLoop (evCode (ev R) R.glob n0 evLoop f90l0) [0, 5, 6, 7] ⟨e, X⟩ = some ((bif anyF (badSc xs) n i then .ret else .exit 0), ⟨e', X'⟩) ∧
      (anyF (badSc xs) n i = true → e'.get 2 = .d (.bool false)) ∧ (anyF (badSc xs) n i = false → e'.get 0 = .d (scs xs)) ∧ htake X' (hlen H) = H
  | 0, i, X, e, h1, hx1, hx2, g0, g5, g6, g3 => by
    have c : ¬ (i : Int) < (xs.length : Int) := by omega
    have c' : ¬ i < xs.length := by omega
    rw [evLoop_eq]
    simp only [anyF]
    refine ⟨?_, X, ?_, ?_, ?_, ?_⟩
    rotate_left
    · simp [-List.getD_eq_getElem?_getD, -List.map_map, evBody, evCode, evOps, evOper, evOp, opd, Env.get, Env.put, Env.keep, zipEnv, V.ok, V.sto, V.cells, D.cells, V.isAgg, binD, binInt, binStr, shInt, unD, eqOf, asI, leave, resOf, mapO, fzV, tupOf, view, view1, isData, hand, flatV, flatD, allD, mkAgg, mkVal, beq_lit, IntKind.bits, htake_self, htake_push, hget_hpush_self, hset_push, rowOf_self, okIn, lowIn, lowIn1, fzC_d, fzC_row, f90l0, g0, g5, g6, g3, scs, c, c']
      try rfl
    · intro h; simp at h
    · intro _; simp [-List.getD_eq_getElem?_getD, -List.map_map, evBody, evCode, evOps, evOper, evOp, opd, Env.get, Env.put, Env.keep, zipEnv, V.ok, V.sto, V.cells, D.cells, V.isAgg, binD, binInt, binStr, shInt, unD, eqOf, asI, leave, resOf, mapO, fzV, tupOf, view, view1, isData, hand, flatV, flatD, allD, mkAgg, mkVal, beq_lit, IntKind.bits, htake_self, htake_push, hget_hpush_self, hset_push, rowOf_self, okIn, lowIn, lowIn1, fzC_d, fzC_row, g0, scs]
    · exact hx1
  | n + 1, i, X, e, h1, hx1, hx2, g0, g5, g6, g3 => by
    have c' : i < xs.length := by omega
    have ga := scs_get xs i c'
    have gb := scs_get xs (i - 1) (by omega)
    have hp : badSc xs i = (decide (40 < (xs.getD i ([], 0)).1.length) || !(decide ((xs.getD i ([], 0)).2 ≥ -1000000000) && decide ((xs.getD i ([], 0)).2 ≤ 1000000000)) || (decide (0 < i) && !aheadV (xs.getD (i - 1) ([], 0)).1 (xs.getD i ([], 0)).1 (xs.getD (i - 1) ([], 0)).2 (xs.getD i ([], 0)).2) || anyF (sameT xs (xs.getD i ([], 0)).1) i 0) := rfl
    have sn := scAt_ne xs i c'
    have q30 := p30 (xs.getD i ([], 0)).2 (-1000000000) 1000000000
    have q99 := pureCall_eq (cl := ev R) fun H => e99 H (xs.getD i ([], 0)).2
    have q98 := pureCall_eq (cl := ev R) fun H => e98 H (xs.getD (i - 1) ([], 0)).1 (xs.getD i ([], 0)).1 (xs.getD (i - 1) ([], 0)).2 (xs.getD i ([], 0)).2
    have q100 := pureCall_eq (cl := ev R) fun H => e100 H (xs.getD (i - 1) ([], 0)).1 (xs.getD i ([], 0)).1 (xs.getD (i - 1) ([], 0)).2 (xs.getD i ([], 0)).2
    have oa := order_ahead (xs.getD (i - 1) ([], 0)).1 (xs.getD i ([], 0)).1 (xs.getD (i - 1) ([], 0)).2 (xs.getD i ([], 0)).2
    have q101 := pureCall_eq (cl := ev R) fun H => e101 H xs hx (xs.getD i ([], 0)).1
    simp only [scs] at q101
    skip
    obtain ⟨I, hI⟩ : ∃ I : Int, (i : Int) = I := ⟨_, rfl⟩
    obtain ⟨I2, hI2⟩ : ∃ I : Int, ((i + 1 : Nat) : Int) = I := ⟨_, rfl⟩
    obtain ⟨J, hJ⟩ : ∃ I : Int, ((i - 1 : Nat) : Int) = I := ⟨_, rfl⟩
    have w1 : IntKind.i64.wrap (I + 1) = I2 := by rw [IntWalk.i64_in _ (by omega)]; omega
    have c : I < (xs.length : Int) := by omega
    have cj : J < (xs.length : Int) := by omega
    have p0 : 0 ≤ I := by omega
    have pj : 0 ≤ J := by omega
    have t0 : I.toNat = i := by omega
    have tj : J.toNat = i - 1 := by omega
    have hk : i + 1 + n = xs.length := by omega
    have w0 : 0 < i → IntKind.i64.wrap (I - 1) = J := fun _ => by rw [IntWalk.i64_in _ (by omega)]; omega
    have z0 : 0 < i → 0 < I := fun _ => by omega
    have z1 : ¬ 0 < i → ¬ 0 < I := fun _ => by omega
    have ga' : ∀ z : D, hstore (hpush X (.row 0 2 [.d (.agg [.str [], .int .i64 0])])) (hlen X) 0 0 0 [.d (.str (xs.getD i ([], 0)).1), .d (.int .i64 (xs.getD i ([], 0)).2)] = some (hpush X (.row 0 2 [.d (.agg [.str (xs.getD i ([], 0)).1, .int .i64 (xs.getD i ([], 0)).2])])) := fun _ => by
      simp [hstore, rowOf_self, V.cells, D.cells, reCell, V.isAgg, mkAgg, allD, hset_push]
    have st := ga' .nilp
    have ld0 : hload (hpush X (.row 0 2 [.d (.agg [.str (xs.getD i ([], 0)).1, .int .i64 (xs.getD i ([], 0)).2])])) (hlen X) 0 0 0 1 = some [.d (.str (xs.getD i ([], 0)).1)] := by simp [hload, rowOf_self, V.cells, D.cells]
    have ld1 : hload (hpush X (.row 0 2 [.d (.agg [.str (xs.getD i ([], 0)).1, .int .i64 (xs.getD i ([], 0)).2])])) (hlen X) 0 0 1 1 = some [.d (.int .i64 (xs.getD i ([], 0)).2)] := by simp [hload, rowOf_self, V.cells, D.cells]
    have ld2 : hload (hpush X (.row 0 2 [.d (.agg [.str (xs.getD i ([], 0)).1, .int .i64 (xs.getD i ([], 0)).2])])) (hlen X) 0 0 0 2 = some [.d (.str (xs.getD i ([], 0)).1), .d (.int .i64 (xs.getD i ([], 0)).2)] := by simp [hload, rowOf_self, V.cells, D.cells]
    have tk : htake (hpush X (.row 0 2 [.d (.agg [.str (xs.getD i ([], 0)).1, .int .i64 (xs.getD i ([], 0)).2])])) (hlen H) = H := by rw [htake_lt _ hx2]; exact hx1
    have lk : hlen H ≤ hlen (hpush X (.row 0 2 [.d (.agg [.str (xs.getD i ([], 0)).1, .int .i64 (xs.getD i ([], 0)).2])])) := by rw [hlen_hpush]; omega
    have ih := l90 n0 xs hx H n (i + 1) (hpush X (.row 0 2 [.d (.agg [.str (xs.getD i ([], 0)).1, .int .i64 (xs.getD i ([], 0)).2])]))
    generalize hpush X (.row 0 2 [.d (.agg [.str (xs.getD i ([], 0)).1, .int .i64 (xs.getD i ([], 0)).2])]) = Y at *
    rw [hI] at g3 sn
    rw [hI2] at ih
    simp only [anyF]
    generalize badSc xs i = b at *
    generalize anyF (badSc xs) n (i + 1) = S at *
    generalize anyF (sameT xs (xs.getD i ([], 0)).1) i 0 = tw at *
    generalize xs.getD i ([], 0) = x at *
    generalize xs.getD (i - 1) ([], 0) = y at *
    obtain ⟨x1, x2⟩ := x
    obtain ⟨y1, y2⟩ := y
    simp only at *
    generalize aheadV y1 x1 y2 x2 = ah at *
    generalize orV (cmpI y2 x2) (cmpS y1 x1) = od at *
    generalize scAt xs x1 = sa at *
    rw [evLoop_eq]
    generalize evLoop (evCode (ev R) R.glob n0 evLoop f90l0) [0, 5, 6, 7] = F at ih ⊢
    by_cases k1 : 40 < x1.length
    · have k1' : (40 : Int) < (x1.length : Int) := by omega
      simp only [k1, decide_true, Bool.true_or] at hp
      subst hp
      simp only [Bool.true_or, cond_true]
      refine ⟨?_, Y, ?_, ?_, ?_, ?_⟩
      rotate_left
      · simp [-List.getD_eq_getElem?_getD, -List.map_map, evBody, evCode, evOps, evOper, evOp, opd, Env.get, Env.put, Env.keep, zipEnv, V.ok, V.sto, V.cells, D.cells, V.isAgg, binD, binInt, binStr, shInt, unD, eqOf, asI, leave, resOf, mapO, fzV, tupOf, view, view1, isData, hand, flatV, flatD, allD, mkAgg, mkVal, beq_lit, IntKind.bits, htake_self, htake_push, hget_hpush_self, hset_push, rowOf_self, okIn, lowIn, lowIn1, fzC_d, fzC_row, f90l0, g0, g5, g6, g3, scs, c, cj, p0, pj, t0, tj, ga, gb, st, ld0, ld1, ld2, q30, q99, q98, q100, q101, k1, k1']
        try rfl
      · intro _; simp [-List.getD_eq_getElem?_getD, -List.map_map, evBody, evCode, evOps, evOper, evOp, opd, Env.get, Env.put, Env.keep, zipEnv, V.ok, V.sto, V.cells, D.cells, V.isAgg, binD, binInt, binStr, shInt, unD, eqOf, asI, leave, resOf, mapO, fzV, tupOf, view, view1, isData, hand, flatV, flatD, allD, mkAgg, mkVal, beq_lit, IntKind.bits, htake_self, htake_push, hget_hpush_self, hset_push, rowOf_self, okIn, lowIn, lowIn1, fzC_d, fzC_row]
      · intro h; simp at h
      · exact tk
    · have k1' : ¬ (40 : Int) < (x1.length : Int) := by omega
      cases k2 : (decide (x2 ≥ -1000000000) && decide (x2 ≤ 1000000000)) with
      | false =>
        rw [k2] at q30 q99
        simp only [k1, k2, decide_false, Bool.false_or, Bool.not_false, Bool.true_or] at hp
        subst hp
        simp only [Bool.true_or, cond_true]
        refine ⟨?_, Y, ?_, ?_, ?_, ?_⟩
        rotate_left
        · simp [-List.getD_eq_getElem?_getD, -List.map_map, evBody, evCode, evOps, evOper, evOp, opd, Env.get, Env.put, Env.keep, zipEnv, V.ok, V.sto, V.cells, D.cells, V.isAgg, binD, binInt, binStr, shInt, unD, eqOf, asI, leave, resOf, mapO, fzV, tupOf, view, view1, isData, hand, flatV, flatD, allD, mkAgg, mkVal, beq_lit, IntKind.bits, htake_self, htake_push, hget_hpush_self, hset_push, rowOf_self, okIn, lowIn, lowIn1, fzC_d, fzC_row, f90l0, g0, g5, g6, g3, scs, c, cj, p0, pj, t0, tj, ga, gb, st, ld0, ld1, ld2, q30, q99, q98, q100, q101, k1, k1']
          try rfl
        · intro _; simp [-List.getD_eq_getElem?_getD, -List.map_map, evBody, evCode, evOps, evOper, evOp, opd, Env.get, Env.put, Env.keep, zipEnv, V.ok, V.sto, V.cells, D.cells, V.isAgg, binD, binInt, binStr, shInt, unD, eqOf, asI, leave, resOf, mapO, fzV, tupOf, view, view1, isData, hand, flatV, flatD, allD, mkAgg, mkVal, beq_lit, IntKind.bits, htake_self, htake_push, hget_hpush_self, hset_push, rowOf_self, okIn, lowIn, lowIn1, fzC_d, fzC_row]
        · intro h; simp at h
        · exact tk
      | true =>
        rw [k2] at q30 q99
        by_cases k3 : 0 < i
        · have w0 := w0 k3
          have z0 := z0 k3
          cases ah with
          | false =>
            have od1 : 0 ≤ od := by simpa using oa
            have od2 : ¬ od < 0 := by omega
            simp only [k1, k2, k3, decide_true, decide_false, Bool.false_or, Bool.not_true, Bool.not_false, Bool.true_and, Bool.true_or] at hp
            subst hp
            simp only [Bool.true_or, cond_true]
            refine ⟨?_, Y, ?_, ?_, ?_, ?_⟩
            rotate_left
            · simp [-List.getD_eq_getElem?_getD, -List.map_map, evBody, evCode, evOps, evOper, evOp, opd, Env.get, Env.put, Env.keep, zipEnv, V.ok, V.sto, V.cells, D.cells, V.isAgg, binD, binInt, binStr, shInt, unD, eqOf, asI, leave, resOf, mapO, fzV, tupOf, view, view1, isData, hand, flatV, flatD, allD, mkAgg, mkVal, beq_lit, IntKind.bits, htake_self, htake_push, hget_hpush_self, hset_push, rowOf_self, okIn, lowIn, lowIn1, fzC_d, fzC_row, f90l0, g0, g5, g6, g3, scs, c, cj, p0, pj, t0, tj, ga, gb, st, ld0, ld1, ld2, q30, q99, q98, q100, q101, k1, k1', z0, w0, od1, od2]
              try rfl
            · intro _; simp [-List.getD_eq_getElem?_getD, -List.map_map, evBody, evCode, evOps, evOper, evOp, opd, Env.get, Env.put, Env.keep, zipEnv, V.ok, V.sto, V.cells, D.cells, V.isAgg, binD, binInt, binStr, shInt, unD, eqOf, asI, leave, resOf, mapO, fzV, tupOf, view, view1, isData, hand, flatV, flatD, allD, mkAgg, mkVal, beq_lit, IntKind.bits, htake_self, htake_push, hget_hpush_self, hset_push, rowOf_self, okIn, lowIn, lowIn1, fzC_d, fzC_row]
            · intro h; simp at h
            · exact tk
          | true =>
            have od1 : ¬ 0 ≤ od := by simpa using oa
            have od2 : od < 0 := by omega
            cases tw with
            | true =>
              have sn : ¬ sa = I := by simpa using sn
              simp only [k1, k2, k3, decide_true, decide_false, Bool.false_or, Bool.not_true, Bool.true_and, Bool.or_true] at hp
              subst hp
              simp only [Bool.true_or, cond_true]
              refine ⟨?_, Y, ?_, ?_, ?_, ?_⟩
              rotate_left
              · simp [-List.getD_eq_getElem?_getD, -List.map_map, evBody, evCode, evOps, evOper, evOp, opd, Env.get, Env.put, Env.keep, zipEnv, V.ok, V.sto, V.cells, D.cells, V.isAgg, binD, binInt, binStr, shInt, unD, eqOf, asI, leave, resOf, mapO, fzV, tupOf, view, view1, isData, hand, flatV, flatD, allD, mkAgg, mkVal, beq_lit, IntKind.bits, htake_self, htake_push, hget_hpush_self, hset_push, rowOf_self, okIn, lowIn, lowIn1, fzC_d, fzC_row, f90l0, g0, g5, g6, g3, scs, c, cj, p0, pj, t0, tj, ga, gb, st, ld0, ld1, ld2, q30, q99, q98, q100, q101, k1, k1', z0, w0, od1, od2, sn]
                try rfl
              · intro _; simp [-List.getD_eq_getElem?_getD, -List.map_map, evBody, evCode, evOps, evOper, evOp, opd, Env.get, Env.put, Env.keep, zipEnv, V.ok, V.sto, V.cells, D.cells, V.isAgg, binD, binInt, binStr, shInt, unD, eqOf, asI, leave, resOf, mapO, fzV, tupOf, view, view1, isData, hand, flatV, flatD, allD, mkAgg, mkVal, beq_lit, IntKind.bits, htake_self, htake_push, hget_hpush_self, hset_push, rowOf_self, okIn, lowIn, lowIn1, fzC_d, fzC_row]
              · intro h; simp at h
              · exact tk
            | false =>
              have sn : sa = I := by simpa using sn
              simp only [k1, k2, k3, decide_true, decide_false, Bool.false_or, Bool.not_true, Bool.true_and, Bool.or_false] at hp
              subst hp
              simp only [Bool.false_or]
              simp [-List.getD_eq_getElem?_getD, -List.map_map, evBody, evCode, evOps, evOper, evOp, opd, Env.get, Env.put, Env.keep, zipEnv, V.ok, V.sto, V.cells, D.cells, V.isAgg, binD, binInt, binStr, shInt, unD, eqOf, asI, leave, resOf, mapO, fzV, tupOf, view, view1, isData, hand, flatV, flatD, allD, mkAgg, mkVal, beq_lit, IntKind.bits, htake_self, htake_push, hget_hpush_self, hset_push, rowOf_self, okIn, lowIn, lowIn1, fzC_d, fzC_row, f90l0, g0, g5, g6, g3, scs, c, cj, p0, pj, t0, tj, ga, gb, st, ld0, ld1, ld2, q30, q99, q98, q100, q101, w1, k1, k1', z0, w0, od1, od2, sn]
              refine ih _ hk tk lk ?_ ?_ ?_ ?_ <;> (first | rfl | exact g6)
        · have z1 := z1 k3
          cases tw with
          | true =>
            have sn : ¬ sa = I := by simpa using sn
            simp only [k1, k2, k3, decide_false, Bool.false_or, Bool.not_true, Bool.false_and, Bool.or_true] at hp
            subst hp
            simp only [Bool.true_or, cond_true]
            refine ⟨?_, Y, ?_, ?_, ?_, ?_⟩
            rotate_left
            · simp [-List.getD_eq_getElem?_getD, -List.map_map, evBody, evCode, evOps, evOper, evOp, opd, Env.get, Env.put, Env.keep, zipEnv, V.ok, V.sto, V.cells, D.cells, V.isAgg, binD, binInt, binStr, shInt, unD, eqOf, asI, leave, resOf, mapO, fzV, tupOf, view, view1, isData, hand, flatV, flatD, allD, mkAgg, mkVal, beq_lit, IntKind.bits, htake_self, htake_push, hget_hpush_self, hset_push, rowOf_self, okIn, lowIn, lowIn1, fzC_d, fzC_row, f90l0, g0, g5, g6, g3, scs, c, cj, p0, pj, t0, tj, ga, gb, st, ld0, ld1, ld2, q30, q99, q98, q100, q101, k1, k1', z1, sn]
              try rfl
            · intro _; simp [-List.getD_eq_getElem?_getD, -List.map_map, evBody, evCode, evOps, evOper, evOp, opd, Env.get, Env.put, Env.keep, zipEnv, V.ok, V.sto, V.cells, D.cells, V.isAgg, binD, binInt, binStr, shInt, unD, eqOf, asI, leave, resOf, mapO, fzV, tupOf, view, view1, isData, hand, flatV, flatD, allD, mkAgg, mkVal, beq_lit, IntKind.bits, htake_self, htake_push, hget_hpush_self, hset_push, rowOf_self, okIn, lowIn, lowIn1, fzC_d, fzC_row]
            · intro h; simp at h
            · exact tk
          | false =>
            have sn : sa = I := by simpa using sn
            simp only [k1, k2, k3, decide_false, Bool.false_or, Bool.not_true, Bool.false_and, Bool.or_false] at hp
            subst hp
            simp only [Bool.false_or]
            simp [-List.getD_eq_getElem?_getD, -List.map_map, evBody, evCode, evOps, evOper, evOp, opd, Env.get, Env.put, Env.keep, zipEnv, V.ok, V.sto, V.cells, D.cells, V.isAgg, binD, binInt, binStr, shInt, unD, eqOf, asI, leave, resOf, mapO, fzV, tupOf, view, view1, isData, hand, flatV, flatD, allD, mkAgg, mkVal, beq_lit, IntKind.bits, htake_self, htake_push, hget_hpush_self, hset_push, rowOf_self, okIn, lowIn, lowIn1, fzC_d, fzC_row, f90l0, g0, g5, g6, g3, scs, c, cj, p0, pj, t0, tj, ga, gb, st, ld0, ld1, ld2, q30, q99, q98, q100, q101, w1, k1, k1', z1, sn]
            refine ih _ hk tk lk ?_ ?_ ?_ ?_ <;> (first | rfl | exact g6)
theorem e90 (H : Hp) (xs : List Sc) (hx : xs.length ≤ 9223372036854775807) : ev R 90 [.d (scs xs)] H = some (.d (.bool (scoresV xs)), H) := by
  refine ev_fn (fn := f90) rfl rfl ?_
  obtain ⟨e', X', he, h1, h2, tk⟩ := l90 (hlen H) xs hx H xs.length 0 H [(0, .d (scs xs)), (5, .d (scs xs)), (6, .d (.int .i64 xs.length)), (7, .d (.int .i64 0))] (by omega) (htake_self H) (Nat.le_refl _) rfl rfl rfl rfl
  unfold scoresV
  simp only [scs] at he h2
  cases hb : anyF (badSc xs) xs.length 0 with
  | true =>
    have h1 := h1 hb
    simp only [hb, cond_true] at he
    simp [-List.getD_eq_getElem?_getD, -List.map_map, evBody, evCode, evOps, evOper, evOp, opd, Env.get, Env.put, Env.keep, zipEnv, V.ok, V.sto, V.cells, D.cells, V.isAgg, binD, binInt, binStr, shInt, unD, eqOf, asI, leave, resOf, mapO, fzV, tupOf, view, view1, isData, hand, flatV, flatD, allD, mkAgg, mkVal, beq_lit, IntKind.bits, htake_self, htake_push, hget_hpush_self, hset_push, rowOf_self, okIn, lowIn, lowIn1, fzC_d, fzC_row, f90, scs, he, h1, tk]
  | false =>
    have h2 := h2 hb
    simp only [hb, cond_false] at he
    by_cases hl : xs.length ≤ 16
    · have hl' : (xs.length : Int) ≤ 16 := by omega
      simp [-List.getD_eq_getElem?_getD, -List.map_map, evBody, evCode, evOps, evOper, evOp, opd, Env.get, Env.put, Env.keep, zipEnv, V.ok, V.sto, V.cells, D.cells, V.isAgg, binD, binInt, binStr, shInt, unD, eqOf, asI, leave, resOf, mapO, fzV, tupOf, view, view1, isData, hand, flatV, flatD, allD, mkAgg, mkVal, beq_lit, IntKind.bits, htake_self, htake_push, hget_hpush_self, hset_push, rowOf_self, okIn, lowIn, lowIn1, fzC_d, fzC_row, f90, scs, he, h2, hl, hl', tk]
    · have hl' : ¬ (xs.length : Int) ≤ 16 := by omega
      simp [-List.getD_eq_getElem?_getD, -List.map_map, evBody, evCode, evOps, evOper, evOp, opd, Env.get, Env.put, Env.keep, zipEnv, V.ok, V.sto, V.cells, D.cells, V.isAgg, binD, binInt, binStr, shInt, unD, eqOf, asI, leave, resOf, mapO, fzV, tupOf, view, view1, isData, hand, flatV, flatD, allD, mkAgg, mkVal, beq_lit, IntKind.bits, htake_self, htake_push, hget_hpush_self, hset_push, rowOf_self, okIn, lowIn, lowIn1, fzC_d, fzC_row, f90, scs, he, h2, hl, hl', tk]
end Go.Proofs.YtpmphmpaeooeeaaDoorO.Code
/- Which entries may be: what the reference says, and what the code under test says. -/
namespace Go.Proofs.YtpmphmpaeooeeaaDoorO.Code
open Go Go.Ev Go.Proofs
set_option maxRecDepth 100000
set_option linter.unusedSimpArgs false
set_option linter.unusedVariables false
def keyV (s : Txt) : Bool := decide ((s.length : Int) ≥ 1) && decide ((s.length : Int) ≤ 12)
def tillV (n : Int) : Bool := decide (n ≥ 0) && decide (n ≤ 2000000)
def kindV (e : En) : Bool :=
  if e.kind = 1 then decide (e.text.length ≤ 40) && e.list.isEmpty && e.scores.isEmpty && e.fields.isEmpty
  else if e.kind = 2 then e.text.isEmpty && !e.list.isEmpty && okTexts e.list && e.scores.isEmpty && e.fields.isEmpty
  else if e.kind = 3 then e.text.isEmpty && !e.list.isEmpty && setV e.list && e.scores.isEmpty && e.fields.isEmpty
  else if e.kind = 4 then e.text.isEmpty && e.list.isEmpty && !e.scores.isEmpty && scoresV e.scores && e.fields.isEmpty
  else if e.kind = 5 then e.text.isEmpty && e.list.isEmpty && e.scores.isEmpty && !e.fields.isEmpty && fieldsV e.fields
  else false
/-- Whether an entry may be. -/
def enOk (e : En) : Bool := keyV e.key && tillV e.till && kindV e
theorem e56_no (H : Hp) (e : En) (hf : EnFit e) (hk : keyV e.key = false ∨ tillV e.till = false) : ev R 56 [.d (enD e)] H = some (.d (.bool (enOk e)), H) := by
  refine ev_fn (fn := f56) rfl rfl ?_
  have pk : pureCall (ev R) 79 [.d (.str e.key)] = some (.d (.bool (keyV e.key))) := pureCall_eq (cl := ev R) fun H => e79 H e.key
  have pt : pureCall (ev R) 30 [.d (.int .i64 e.till), .d (.int .i64 0), .d (.int .i64 2000000)] = some (.d (.bool (tillV e.till))) := p30 e.till 0 2000000
  have p80 := pureCall_eq (cl := ev R) fun H => e80 H e.list hf.list
  have p81 := pureCall_eq (cl := ev R) fun H => e81 H e.list hf.list
  have p82 := pureCall_eq (cl := ev R) fun H => e82 H e.scores hf.scores
  have p83 := pureCall_eq (cl := ev R) fun H => e83 H e.fields hf.fields
  have x0 : (e.text = []) = (e.text.isEmpty = true) := by simp
  have y1 : ((e.list.length : Int) = 0) = (e.list.isEmpty = true) := by cases e.list <;> simp <;> try omega
  have z1 : (0 < (e.list.length : Int)) = (e.list.isEmpty = false) := by cases e.list <;> simp <;> try omega
  have y2 : ((e.scores.length : Int) = 0) = (e.scores.isEmpty = true) := by cases e.scores <;> simp <;> try omega
  have z2 : (0 < (e.scores.length : Int)) = (e.scores.isEmpty = false) := by cases e.scores <;> simp <;> try omega
  have y3 : ((e.fields.length : Int) = 0) = (e.fields.isEmpty = true) := by cases e.fields <;> simp <;> try omega
  have z3 : (0 < (e.fields.length : Int)) = (e.fields.isEmpty = false) := by cases e.fields <;> simp <;> try omega
  have l1 : ((e.list.map D.str).length : Int) = (e.list.length : Int) := by simp
  have l2 : ((e.scores.map scD).length : Int) = (e.scores.length : Int) := by simp
  have l3 : ((e.fields.map prD).length : Int) = (e.fields.length : Int) := by simp
  have xl : ((e.text.length : Int) ≤ 40) = (decide (e.text.length ≤ 40) = true) := by simp; omega
  have ld : ∀ j n, hload (hpush H (.row 0 7 [.d (.agg [.str e.key, .int .i64 e.till, .int .i64 e.kind, .str e.text, txts e.list, scs e.scores, prs e.fields])])) (hlen H) 0 0 j n = if j + n ≤ 7 then some ((([.d (.str e.key), .d (.int .i64 e.till), .d (.int .i64 e.kind), .d (.str e.text), .d (txts e.list), .d (scs e.scores), .d (prs e.fields)] : List V).drop j).take n) else none := fun j n => by
    simp [hload, rowOf_self, V.cells, D.cells]
  have tk := htake_push H (.row 0 7 [.d (.agg [.str e.key, .int .i64 e.till, .int .i64 e.kind, .str e.text, txts e.list, scs e.scores, prs e.fields])])
  unfold enOk kindV
  unfold enD
  simp only [txts, scs, prs] at *
  obtain ⟨key, till, kind, text, list, scores, fields⟩ := e
  simp only at *
  generalize keyV key = KV at *
  generalize tillV till = TV at *
  obtain ⟨Y, eY⟩ : ∃ Y, hpush H (.row 0 7 [.d (.agg [.str key, .int .i64 till, .int .i64 kind, .str text, .vals 1 (list.map D.str), .vals 2 (scores.map scD), .vals 2 (fields.map prD)])]) = Y := ⟨_, rfl⟩
  rw [eY] at ld tk
  generalize list.map D.str = d1 at *
  generalize scores.map scD = d2 at *
  generalize fields.map prD = d3 at *
  generalize (list.length : Int) = n1 at *
  generalize (scores.length : Int) = n2 at *
  generalize (fields.length : Int) = n3 at *
  generalize okTexts list = P80 at *
  generalize setV list = P81 at *
  generalize scoresV scores = P82 at *
  generalize fieldsV fields = P83 at *
  generalize text.isEmpty = B0 at *
  generalize list.isEmpty = B1 at *
  generalize scores.isEmpty = B2 at *
  generalize fields.isEmpty = B3 at *
  generalize decide (text.length ≤ 40) = C at *
  cases KV with
  | false => simp [-List.getD_eq_getElem?_getD, -List.map_map, evBody, evCode, evOps, evOper, evOp, opd, Env.get, Env.put, Env.keep, zipEnv, V.ok, V.sto, V.cells, D.cells, V.isAgg, binD, binInt, binStr, shInt, unD, eqOf, asI, leave, resOf, mapO, fzV, tupOf, view, view1, isData, hand, flatV, flatD, allD, mkAgg, mkVal, beq_lit, IntKind.bits, htake_self, htake_push, hget_hpush_self, hset_push, rowOf_self, okIn, lowIn, lowIn1, fzC_d, fzC_row, f56, eY, pk, pt, ld, tk, l1, l2, l3, xl]
  | true =>
    cases TV with
    | false => simp [-List.getD_eq_getElem?_getD, -List.map_map, evBody, evCode, evOps, evOper, evOp, opd, Env.get, Env.put, Env.keep, zipEnv, V.ok, V.sto, V.cells, D.cells, V.isAgg, binD, binInt, binStr, shInt, unD, eqOf, asI, leave, resOf, mapO, fzV, tupOf, view, view1, isData, hand, flatV, flatD, allD, mkAgg, mkVal, beq_lit, IntKind.bits, htake_self, htake_push, hget_hpush_self, hset_push, rowOf_self, okIn, lowIn, lowIn1, fzC_d, fzC_row, f56, eY, pk, pt, ld, tk, l1, l2, l3, xl]
    | true => simp at hk
theorem e56_k1 (H : Hp) (e : En) (hf : EnFit e) (hk : keyV e.key = true) (ht : tillV e.till = true) (hd : e.kind = 1) : ev R 56 [.d (enD e)] H = some (.d (.bool (enOk e)), H) := by
  refine ev_fn (fn := f56) rfl rfl ?_
  have pk : pureCall (ev R) 79 [.d (.str e.key)] = some (.d (.bool (keyV e.key))) := pureCall_eq (cl := ev R) fun H => e79 H e.key
  have pt : pureCall (ev R) 30 [.d (.int .i64 e.till), .d (.int .i64 0), .d (.int .i64 2000000)] = some (.d (.bool (tillV e.till))) := p30 e.till 0 2000000
  have p80 := pureCall_eq (cl := ev R) fun H => e80 H e.list hf.list
  have p81 := pureCall_eq (cl := ev R) fun H => e81 H e.list hf.list
  have p82 := pureCall_eq (cl := ev R) fun H => e82 H e.scores hf.scores
  have p83 := pureCall_eq (cl := ev R) fun H => e83 H e.fields hf.fields
  have x0 : (e.text = []) = (e.text.isEmpty = true) := by simp
  have y1 : ((e.list.length : Int) = 0) = (e.list.isEmpty = true) := by cases e.list <;> simp <;> try omega
  have z1 : (0 < (e.list.length : Int)) = (e.list.isEmpty = false) := by cases e.list <;> simp <;> try omega
  have y2 : ((e.scores.length : Int) = 0) = (e.scores.isEmpty = true) := by cases e.scores <;> simp <;> try omega
  have z2 : (0 < (e.scores.length : Int)) = (e.scores.isEmpty = false) := by cases e.scores <;> simp <;> try omega
  have y3 : ((e.fields.length : Int) = 0) = (e.fields.isEmpty = true) := by cases e.fields <;> simp <;> try omega
  have z3 : (0 < (e.fields.length : Int)) = (e.fields.isEmpty = false) := by cases e.fields <;> simp <;> try omega
  have l1 : ((e.list.map D.str).length : Int) = (e.list.length : Int) := by simp
  have l2 : ((e.scores.map scD).length : Int) = (e.scores.length : Int) := by simp
  have l3 : ((e.fields.map prD).length : Int) = (e.fields.length : Int) := by simp
  have xl : ((e.text.length : Int) ≤ 40) = (decide (e.text.length ≤ 40) = true) := by simp; omega
  have ld : ∀ j n, hload (hpush H (.row 0 7 [.d (.agg [.str e.key, .int .i64 e.till, .int .i64 e.kind, .str e.text, txts e.list, scs e.scores, prs e.fields])])) (hlen H) 0 0 j n = if j + n ≤ 7 then some ((([.d (.str e.key), .d (.int .i64 e.till), .d (.int .i64 e.kind), .d (.str e.text), .d (txts e.list), .d (scs e.scores), .d (prs e.fields)] : List V).drop j).take n) else none := fun j n => by
    simp [hload, rowOf_self, V.cells, D.cells]
  have tk := htake_push H (.row 0 7 [.d (.agg [.str e.key, .int .i64 e.till, .int .i64 e.kind, .str e.text, txts e.list, scs e.scores, prs e.fields])])
  unfold enOk kindV
  unfold enD
  simp only [txts, scs, prs] at *
  obtain ⟨key, till, kind, text, list, scores, fields⟩ := e
  simp only at *
  generalize keyV key = KV at *
  generalize tillV till = TV at *
  obtain ⟨Y, eY⟩ : ∃ Y, hpush H (.row 0 7 [.d (.agg [.str key, .int .i64 till, .int .i64 kind, .str text, .vals 1 (list.map D.str), .vals 2 (scores.map scD), .vals 2 (fields.map prD)])]) = Y := ⟨_, rfl⟩
  rw [eY] at ld tk
  generalize list.map D.str = d1 at *
  generalize scores.map scD = d2 at *
  generalize fields.map prD = d3 at *
  generalize (list.length : Int) = n1 at *
  generalize (scores.length : Int) = n2 at *
  generalize (fields.length : Int) = n3 at *
  generalize okTexts list = P80 at *
  generalize setV list = P81 at *
  generalize scoresV scores = P82 at *
  generalize fieldsV fields = P83 at *
  generalize text.isEmpty = B0 at *
  generalize list.isEmpty = B1 at *
  generalize scores.isEmpty = B2 at *
  generalize fields.isEmpty = B3 at *
  generalize decide (text.length ≤ 40) = C at *
  subst hk ht hd
  cases C with
  | false => simp [-List.getD_eq_getElem?_getD, -List.map_map, evBody, evCode, evOps, evOper, evOp, opd, Env.get, Env.put, Env.keep, zipEnv, V.ok, V.sto, V.cells, D.cells, V.isAgg, binD, binInt, binStr, shInt, unD, eqOf, asI, leave, resOf, mapO, fzV, tupOf, view, view1, isData, hand, flatV, flatD, allD, mkAgg, mkVal, beq_lit, IntKind.bits, htake_self, htake_push, hget_hpush_self, hset_push, rowOf_self, okIn, lowIn, lowIn1, fzC_d, fzC_row, f56, eY, pk, pt, ld, tk, l1, l2, l3, xl, x0, y1, z1, y2, z2, y3, z3, p80, p81, p82, p83]
  | true =>
    cases B1 with
    | false => simp [-List.getD_eq_getElem?_getD, -List.map_map, evBody, evCode, evOps, evOper, evOp, opd, Env.get, Env.put, Env.keep, zipEnv, V.ok, V.sto, V.cells, D.cells, V.isAgg, binD, binInt, binStr, shInt, unD, eqOf, asI, leave, resOf, mapO, fzV, tupOf, view, view1, isData, hand, flatV, flatD, allD, mkAgg, mkVal, beq_lit, IntKind.bits, htake_self, htake_push, hget_hpush_self, hset_push, rowOf_self, okIn, lowIn, lowIn1, fzC_d, fzC_row, f56, eY, pk, pt, ld, tk, l1, l2, l3, xl, x0, y1, z1, y2, z2, y3, z3, p80, p81, p82, p83]
    | true =>
      cases B2 with
      | false => simp [-List.getD_eq_getElem?_getD, -List.map_map, evBody, evCode, evOps, evOper, evOp, opd, Env.get, Env.put, Env.keep, zipEnv, V.ok, V.sto, V.cells, D.cells, V.isAgg, binD, binInt, binStr, shInt, unD, eqOf, asI, leave, resOf, mapO, fzV, tupOf, view, view1, isData, hand, flatV, flatD, allD, mkAgg, mkVal, beq_lit, IntKind.bits, htake_self, htake_push, hget_hpush_self, hset_push, rowOf_self, okIn, lowIn, lowIn1, fzC_d, fzC_row, f56, eY, pk, pt, ld, tk, l1, l2, l3, xl, x0, y1, z1, y2, z2, y3, z3, p80, p81, p82, p83]
      | true =>
        cases B3 with
        | false => simp [-List.getD_eq_getElem?_getD, -List.map_map, evBody, evCode, evOps, evOper, evOp, opd, Env.get, Env.put, Env.keep, zipEnv, V.ok, V.sto, V.cells, D.cells, V.isAgg, binD, binInt, binStr, shInt, unD, eqOf, asI, leave, resOf, mapO, fzV, tupOf, view, view1, isData, hand, flatV, flatD, allD, mkAgg, mkVal, beq_lit, IntKind.bits, htake_self, htake_push, hget_hpush_self, hset_push, rowOf_self, okIn, lowIn, lowIn1, fzC_d, fzC_row, f56, eY, pk, pt, ld, tk, l1, l2, l3, xl, x0, y1, z1, y2, z2, y3, z3, p80, p81, p82, p83]
        | true =>
          simp [-List.getD_eq_getElem?_getD, -List.map_map, evBody, evCode, evOps, evOper, evOp, opd, Env.get, Env.put, Env.keep, zipEnv, V.ok, V.sto, V.cells, D.cells, V.isAgg, binD, binInt, binStr, shInt, unD, eqOf, asI, leave, resOf, mapO, fzV, tupOf, view, view1, isData, hand, flatV, flatD, allD, mkAgg, mkVal, beq_lit, IntKind.bits, htake_self, htake_push, hget_hpush_self, hset_push, rowOf_self, okIn, lowIn, lowIn1, fzC_d, fzC_row, f56, eY, pk, pt, ld, tk, l1, l2, l3, xl, x0, y1, z1, y2, z2, y3, z3, p80, p81, p82, p83]
theorem e56_k2 (H : Hp) (e : En) (hf : EnFit e) (hk : keyV e.key = true) (ht : tillV e.till = true) (hd : e.kind = 2) : ev R 56 [.d (enD e)] H = some (.d (.bool (enOk e)), H) := by
  refine ev_fn (fn := f56) rfl rfl ?_
  have pk : pureCall (ev R) 79 [.d (.str e.key)] = some (.d (.bool (keyV e.key))) := pureCall_eq (cl := ev R) fun H => e79 H e.key
  have pt : pureCall (ev R) 30 [.d (.int .i64 e.till), .d (.int .i64 0), .d (.int .i64 2000000)] = some (.d (.bool (tillV e.till))) := p30 e.till 0 2000000
  have p80 := pureCall_eq (cl := ev R) fun H => e80 H e.list hf.list
  have p81 := pureCall_eq (cl := ev R) fun H => e81 H e.list hf.list
  have p82 := pureCall_eq (cl := ev R) fun H => e82 H e.scores hf.scores
  have p83 := pureCall_eq (cl := ev R) fun H => e83 H e.fields hf.fields
  have x0 : (e.text = []) = (e.text.isEmpty = true) := by simp
  have y1 : ((e.list.length : Int) = 0) = (e.list.isEmpty = true) := by cases e.list <;> simp <;> try omega
  have z1 : (0 < (e.list.length : Int)) = (e.list.isEmpty = false) := by cases e.list <;> simp <;> try omega
  have y2 : ((e.scores.length : Int) = 0) = (e.scores.isEmpty = true) := by cases e.scores <;> simp <;> try omega
  have z2 : (0 < (e.scores.length : Int)) = (e.scores.isEmpty = false) := by cases e.scores <;> simp <;> try omega
  have y3 : ((e.fields.length : Int) = 0) = (e.fields.isEmpty = true) := by cases e.fields <;> simp <;> try omega
  have z3 : (0 < (e.fields.length : Int)) = (e.fields.isEmpty = false) := by cases e.fields <;> simp <;> try omega
  have l1 : ((e.list.map D.str).length : Int) = (e.list.length : Int) := by simp
  have l2 : ((e.scores.map scD).length : Int) = (e.scores.length : Int) := by simp
  have l3 : ((e.fields.map prD).length : Int) = (e.fields.length : Int) := by simp
  have xl : ((e.text.length : Int) ≤ 40) = (decide (e.text.length ≤ 40) = true) := by simp; omega
  have ld : ∀ j n, hload (hpush H (.row 0 7 [.d (.agg [.str e.key, .int .i64 e.till, .int .i64 e.kind, .str e.text, txts e.list, scs e.scores, prs e.fields])])) (hlen H) 0 0 j n = if j + n ≤ 7 then some ((([.d (.str e.key), .d (.int .i64 e.till), .d (.int .i64 e.kind), .d (.str e.text), .d (txts e.list), .d (scs e.scores), .d (prs e.fields)] : List V).drop j).take n) else none := fun j n => by
    simp [hload, rowOf_self, V.cells, D.cells]
  have tk := htake_push H (.row 0 7 [.d (.agg [.str e.key, .int .i64 e.till, .int .i64 e.kind, .str e.text, txts e.list, scs e.scores, prs e.fields])])
  unfold enOk kindV
  unfold enD
  simp only [txts, scs, prs] at *
  obtain ⟨key, till, kind, text, list, scores, fields⟩ := e
  simp only at *
  generalize keyV key = KV at *
  generalize tillV till = TV at *
  obtain ⟨Y, eY⟩ : ∃ Y, hpush H (.row 0 7 [.d (.agg [.str key, .int .i64 till, .int .i64 kind, .str text, .vals 1 (list.map D.str), .vals 2 (scores.map scD), .vals 2 (fields.map prD)])]) = Y := ⟨_, rfl⟩
  rw [eY] at ld tk
  generalize list.map D.str = d1 at *
  generalize scores.map scD = d2 at *
  generalize fields.map prD = d3 at *
  generalize (list.length : Int) = n1 at *
  generalize (scores.length : Int) = n2 at *
  generalize (fields.length : Int) = n3 at *
  generalize okTexts list = P80 at *
  generalize setV list = P81 at *
  generalize scoresV scores = P82 at *
  generalize fieldsV fields = P83 at *
  generalize text.isEmpty = B0 at *
  generalize list.isEmpty = B1 at *
  generalize scores.isEmpty = B2 at *
  generalize fields.isEmpty = B3 at *
  generalize decide (text.length ≤ 40) = C at *
  subst hk ht hd
  cases B0 with
  | false => simp [-List.getD_eq_getElem?_getD, -List.map_map, evBody, evCode, evOps, evOper, evOp, opd, Env.get, Env.put, Env.keep, zipEnv, V.ok, V.sto, V.cells, D.cells, V.isAgg, binD, binInt, binStr, shInt, unD, eqOf, asI, leave, resOf, mapO, fzV, tupOf, view, view1, isData, hand, flatV, flatD, allD, mkAgg, mkVal, beq_lit, IntKind.bits, htake_self, htake_push, hget_hpush_self, hset_push, rowOf_self, okIn, lowIn, lowIn1, fzC_d, fzC_row, f56, eY, pk, pt, ld, tk, l1, l2, l3, xl, x0, y1, z1, y2, z2, y3, z3, p80, p81, p82, p83]
  | true =>
    cases B1 with
    | true => simp [-List.getD_eq_getElem?_getD, -List.map_map, evBody, evCode, evOps, evOper, evOp, opd, Env.get, Env.put, Env.keep, zipEnv, V.ok, V.sto, V.cells, D.cells, V.isAgg, binD, binInt, binStr, shInt, unD, eqOf, asI, leave, resOf, mapO, fzV, tupOf, view, view1, isData, hand, flatV, flatD, allD, mkAgg, mkVal, beq_lit, IntKind.bits, htake_self, htake_push, hget_hpush_self, hset_push, rowOf_self, okIn, lowIn, lowIn1, fzC_d, fzC_row, f56, eY, pk, pt, ld, tk, l1, l2, l3, xl, x0, y1, z1, y2, z2, y3, z3, p80, p81, p82, p83]
    | false =>
      cases P80 with
      | false => simp [-List.getD_eq_getElem?_getD, -List.map_map, evBody, evCode, evOps, evOper, evOp, opd, Env.get, Env.put, Env.keep, zipEnv, V.ok, V.sto, V.cells, D.cells, V.isAgg, binD, binInt, binStr, shInt, unD, eqOf, asI, leave, resOf, mapO, fzV, tupOf, view, view1, isData, hand, flatV, flatD, allD, mkAgg, mkVal, beq_lit, IntKind.bits, htake_self, htake_push, hget_hpush_self, hset_push, rowOf_self, okIn, lowIn, lowIn1, fzC_d, fzC_row, f56, eY, pk, pt, ld, tk, l1, l2, l3, xl, x0, y1, z1, y2, z2, y3, z3, p80, p81, p82, p83]
      | true =>
        cases B2 with
        | false => simp [-List.getD_eq_getElem?_getD, -List.map_map, evBody, evCode, evOps, evOper, evOp, opd, Env.get, Env.put, Env.keep, zipEnv, V.ok, V.sto, V.cells, D.cells, V.isAgg, binD, binInt, binStr, shInt, unD, eqOf, asI, leave, resOf, mapO, fzV, tupOf, view, view1, isData, hand, flatV, flatD, allD, mkAgg, mkVal, beq_lit, IntKind.bits, htake_self, htake_push, hget_hpush_self, hset_push, rowOf_self, okIn, lowIn, lowIn1, fzC_d, fzC_row, f56, eY, pk, pt, ld, tk, l1, l2, l3, xl, x0, y1, z1, y2, z2, y3, z3, p80, p81, p82, p83]
        | true =>
          cases B3 with
          | false => simp [-List.getD_eq_getElem?_getD, -List.map_map, evBody, evCode, evOps, evOper, evOp, opd, Env.get, Env.put, Env.keep, zipEnv, V.ok, V.sto, V.cells, D.cells, V.isAgg, binD, binInt, binStr, shInt, unD, eqOf, asI, leave, resOf, mapO, fzV, tupOf, view, view1, isData, hand, flatV, flatD, allD, mkAgg, mkVal, beq_lit, IntKind.bits, htake_self, htake_push, hget_hpush_self, hset_push, rowOf_self, okIn, lowIn, lowIn1, fzC_d, fzC_row, f56, eY, pk, pt, ld, tk, l1, l2, l3, xl, x0, y1, z1, y2, z2, y3, z3, p80, p81, p82, p83]
          | true =>
            simp [-List.getD_eq_getElem?_getD, -List.map_map, evBody, evCode, evOps, evOper, evOp, opd, Env.get, Env.put, Env.keep, zipEnv, V.ok, V.sto, V.cells, D.cells, V.isAgg, binD, binInt, binStr, shInt, unD, eqOf, asI, leave, resOf, mapO, fzV, tupOf, view, view1, isData, hand, flatV, flatD, allD, mkAgg, mkVal, beq_lit, IntKind.bits, htake_self, htake_push, hget_hpush_self, hset_push, rowOf_self, okIn, lowIn, lowIn1, fzC_d, fzC_row, f56, eY, pk, pt, ld, tk, l1, l2, l3, xl, x0, y1, z1, y2, z2, y3, z3, p80, p81, p82, p83]
theorem e56_k3 (H : Hp) (e : En) (hf : EnFit e) (hk : keyV e.key = true) (ht : tillV e.till = true) (hd : e.kind = 3) : ev R 56 [.d (enD e)] H = some (.d (.bool (enOk e)), H) := by
  refine ev_fn (fn := f56) rfl rfl ?_
  have pk : pureCall (ev R) 79 [.d (.str e.key)] = some (.d (.bool (keyV e.key))) := pureCall_eq (cl := ev R) fun H => e79 H e.key
  have pt : pureCall (ev R) 30 [.d (.int .i64 e.till), .d (.int .i64 0), .d (.int .i64 2000000)] = some (.d (.bool (tillV e.till))) := p30 e.till 0 2000000
  have p80 := pureCall_eq (cl := ev R) fun H => e80 H e.list hf.list
  have p81 := pureCall_eq (cl := ev R) fun H => e81 H e.list hf.list
  have p82 := pureCall_eq (cl := ev R) fun H => e82 H e.scores hf.scores
  have p83 := pureCall_eq (cl := ev R) fun H => e83 H e.fields hf.fields
  have x0 : (e.text = []) = (e.text.isEmpty = true) := by simp
  have y1 : ((e.list.length : Int) = 0) = (e.list.isEmpty = true) := by cases e.list <;> simp <;> try omega
  have z1 : (0 < (e.list.length : Int)) = (e.list.isEmpty = false) := by cases e.list <;> simp <;> try omega
  have y2 : ((e.scores.length : Int) = 0) = (e.scores.isEmpty = true) := by cases e.scores <;> simp <;> try omega
  have z2 : (0 < (e.scores.length : Int)) = (e.scores.isEmpty = false) := by cases e.scores <;> simp <;> try omega
  have y3 : ((e.fields.length : Int) = 0) = (e.fields.isEmpty = true) := by cases e.fields <;> simp <;> try omega
  have z3 : (0 < (e.fields.length : Int)) = (e.fields.isEmpty = false) := by cases e.fields <;> simp <;> try omega
  have l1 : ((e.list.map D.str).length : Int) = (e.list.length : Int) := by simp
  have l2 : ((e.scores.map scD).length : Int) = (e.scores.length : Int) := by simp
  have l3 : ((e.fields.map prD).length : Int) = (e.fields.length : Int) := by simp
  have xl : ((e.text.length : Int) ≤ 40) = (decide (e.text.length ≤ 40) = true) := by simp; omega
  have ld : ∀ j n, hload (hpush H (.row 0 7 [.d (.agg [.str e.key, .int .i64 e.till, .int .i64 e.kind, .str e.text, txts e.list, scs e.scores, prs e.fields])])) (hlen H) 0 0 j n = if j + n ≤ 7 then some ((([.d (.str e.key), .d (.int .i64 e.till), .d (.int .i64 e.kind), .d (.str e.text), .d (txts e.list), .d (scs e.scores), .d (prs e.fields)] : List V).drop j).take n) else none := fun j n => by
    simp [hload, rowOf_self, V.cells, D.cells]
  have tk := htake_push H (.row 0 7 [.d (.agg [.str e.key, .int .i64 e.till, .int .i64 e.kind, .str e.text, txts e.list, scs e.scores, prs e.fields])])
  unfold enOk kindV
  unfold enD
  simp only [txts, scs, prs] at *
  obtain ⟨key, till, kind, text, list, scores, fields⟩ := e
  simp only at *
  generalize keyV key = KV at *
  generalize tillV till = TV at *
  obtain ⟨Y, eY⟩ : ∃ Y, hpush H (.row 0 7 [.d (.agg [.str key, .int .i64 till, .int .i64 kind, .str text, .vals 1 (list.map D.str), .vals 2 (scores.map scD), .vals 2 (fields.map prD)])]) = Y := ⟨_, rfl⟩
  rw [eY] at ld tk
  generalize list.map D.str = d1 at *
  generalize scores.map scD = d2 at *
  generalize fields.map prD = d3 at *
  generalize (list.length : Int) = n1 at *
  generalize (scores.length : Int) = n2 at *
  generalize (fields.length : Int) = n3 at *
  generalize okTexts list = P80 at *
  generalize setV list = P81 at *
  generalize scoresV scores = P82 at *
  generalize fieldsV fields = P83 at *
  generalize text.isEmpty = B0 at *
  generalize list.isEmpty = B1 at *
  generalize scores.isEmpty = B2 at *
  generalize fields.isEmpty = B3 at *
  generalize decide (text.length ≤ 40) = C at *
  subst hk ht hd
  cases B0 with
  | false => simp [-List.getD_eq_getElem?_getD, -List.map_map, evBody, evCode, evOps, evOper, evOp, opd, Env.get, Env.put, Env.keep, zipEnv, V.ok, V.sto, V.cells, D.cells, V.isAgg, binD, binInt, binStr, shInt, unD, eqOf, asI, leave, resOf, mapO, fzV, tupOf, view, view1, isData, hand, flatV, flatD, allD, mkAgg, mkVal, beq_lit, IntKind.bits, htake_self, htake_push, hget_hpush_self, hset_push, rowOf_self, okIn, lowIn, lowIn1, fzC_d, fzC_row, f56, eY, pk, pt, ld, tk, l1, l2, l3, xl, x0, y1, z1, y2, z2, y3, z3, p80, p81, p82, p83]
  | true =>
    cases B1 with
    | true => simp [-List.getD_eq_getElem?_getD, -List.map_map, evBody, evCode, evOps, evOper, evOp, opd, Env.get, Env.put, Env.keep, zipEnv, V.ok, V.sto, V.cells, D.cells, V.isAgg, binD, binInt, binStr, shInt, unD, eqOf, asI, leave, resOf, mapO, fzV, tupOf, view, view1, isData, hand, flatV, flatD, allD, mkAgg, mkVal, beq_lit, IntKind.bits, htake_self, htake_push, hget_hpush_self, hset_push, rowOf_self, okIn, lowIn, lowIn1, fzC_d, fzC_row, f56, eY, pk, pt, ld, tk, l1, l2, l3, xl, x0, y1, z1, y2, z2, y3, z3, p80, p81, p82, p83]
    | false =>
      cases P81 with
      | false => simp [-List.getD_eq_getElem?_getD, -List.map_map, evBody, evCode, evOps, evOper, evOp, opd, Env.get, Env.put, Env.keep, zipEnv, V.ok, V.sto, V.cells, D.cells, V.isAgg, binD, binInt, binStr, shInt, unD, eqOf, asI, leave, resOf, mapO, fzV, tupOf, view, view1, isData, hand, flatV, flatD, allD, mkAgg, mkVal, beq_lit, IntKind.bits, htake_self, htake_push, hget_hpush_self, hset_push, rowOf_self, okIn, lowIn, lowIn1, fzC_d, fzC_row, f56, eY, pk, pt, ld, tk, l1, l2, l3, xl, x0, y1, z1, y2, z2, y3, z3, p80, p81, p82, p83]
      | true =>
        cases B2 with
        | false => simp [-List.getD_eq_getElem?_getD, -List.map_map, evBody, evCode, evOps, evOper, evOp, opd, Env.get, Env.put, Env.keep, zipEnv, V.ok, V.sto, V.cells, D.cells, V.isAgg, binD, binInt, binStr, shInt, unD, eqOf, asI, leave, resOf, mapO, fzV, tupOf, view, view1, isData, hand, flatV, flatD, allD, mkAgg, mkVal, beq_lit, IntKind.bits, htake_self, htake_push, hget_hpush_self, hset_push, rowOf_self, okIn, lowIn, lowIn1, fzC_d, fzC_row, f56, eY, pk, pt, ld, tk, l1, l2, l3, xl, x0, y1, z1, y2, z2, y3, z3, p80, p81, p82, p83]
        | true =>
          cases B3 with
          | false => simp [-List.getD_eq_getElem?_getD, -List.map_map, evBody, evCode, evOps, evOper, evOp, opd, Env.get, Env.put, Env.keep, zipEnv, V.ok, V.sto, V.cells, D.cells, V.isAgg, binD, binInt, binStr, shInt, unD, eqOf, asI, leave, resOf, mapO, fzV, tupOf, view, view1, isData, hand, flatV, flatD, allD, mkAgg, mkVal, beq_lit, IntKind.bits, htake_self, htake_push, hget_hpush_self, hset_push, rowOf_self, okIn, lowIn, lowIn1, fzC_d, fzC_row, f56, eY, pk, pt, ld, tk, l1, l2, l3, xl, x0, y1, z1, y2, z2, y3, z3, p80, p81, p82, p83]
          | true =>
            simp [-List.getD_eq_getElem?_getD, -List.map_map, evBody, evCode, evOps, evOper, evOp, opd, Env.get, Env.put, Env.keep, zipEnv, V.ok, V.sto, V.cells, D.cells, V.isAgg, binD, binInt, binStr, shInt, unD, eqOf, asI, leave, resOf, mapO, fzV, tupOf, view, view1, isData, hand, flatV, flatD, allD, mkAgg, mkVal, beq_lit, IntKind.bits, htake_self, htake_push, hget_hpush_self, hset_push, rowOf_self, okIn, lowIn, lowIn1, fzC_d, fzC_row, f56, eY, pk, pt, ld, tk, l1, l2, l3, xl, x0, y1, z1, y2, z2, y3, z3, p80, p81, p82, p83]
theorem e56_k4 (H : Hp) (e : En) (hf : EnFit e) (hk : keyV e.key = true) (ht : tillV e.till = true) (hd : e.kind = 4) : ev R 56 [.d (enD e)] H = some (.d (.bool (enOk e)), H) := by
  refine ev_fn (fn := f56) rfl rfl ?_
  have pk : pureCall (ev R) 79 [.d (.str e.key)] = some (.d (.bool (keyV e.key))) := pureCall_eq (cl := ev R) fun H => e79 H e.key
  have pt : pureCall (ev R) 30 [.d (.int .i64 e.till), .d (.int .i64 0), .d (.int .i64 2000000)] = some (.d (.bool (tillV e.till))) := p30 e.till 0 2000000
  have p80 := pureCall_eq (cl := ev R) fun H => e80 H e.list hf.list
  have p81 := pureCall_eq (cl := ev R) fun H => e81 H e.list hf.list
  have p82 := pureCall_eq (cl := ev R) fun H => e82 H e.scores hf.scores
  have p83 := pureCall_eq (cl := ev R) fun H => e83 H e.fields hf.fields
  have x0 : (e.text = []) = (e.text.isEmpty = true) := by simp
  have y1 : ((e.list.length : Int) = 0) = (e.list.isEmpty = true) := by cases e.list <;> simp <;> try omega
  have z1 : (0 < (e.list.length : Int)) = (e.list.isEmpty = false) := by cases e.list <;> simp <;> try omega
  have y2 : ((e.scores.length : Int) = 0) = (e.scores.isEmpty = true) := by cases e.scores <;> simp <;> try omega
  have z2 : (0 < (e.scores.length : Int)) = (e.scores.isEmpty = false) := by cases e.scores <;> simp <;> try omega
  have y3 : ((e.fields.length : Int) = 0) = (e.fields.isEmpty = true) := by cases e.fields <;> simp <;> try omega
  have z3 : (0 < (e.fields.length : Int)) = (e.fields.isEmpty = false) := by cases e.fields <;> simp <;> try omega
  have l1 : ((e.list.map D.str).length : Int) = (e.list.length : Int) := by simp
  have l2 : ((e.scores.map scD).length : Int) = (e.scores.length : Int) := by simp
  have l3 : ((e.fields.map prD).length : Int) = (e.fields.length : Int) := by simp
  have xl : ((e.text.length : Int) ≤ 40) = (decide (e.text.length ≤ 40) = true) := by simp; omega
  have ld : ∀ j n, hload (hpush H (.row 0 7 [.d (.agg [.str e.key, .int .i64 e.till, .int .i64 e.kind, .str e.text, txts e.list, scs e.scores, prs e.fields])])) (hlen H) 0 0 j n = if j + n ≤ 7 then some ((([.d (.str e.key), .d (.int .i64 e.till), .d (.int .i64 e.kind), .d (.str e.text), .d (txts e.list), .d (scs e.scores), .d (prs e.fields)] : List V).drop j).take n) else none := fun j n => by
    simp [hload, rowOf_self, V.cells, D.cells]
  have tk := htake_push H (.row 0 7 [.d (.agg [.str e.key, .int .i64 e.till, .int .i64 e.kind, .str e.text, txts e.list, scs e.scores, prs e.fields])])
  unfold enOk kindV
  unfold enD
  simp only [txts, scs, prs] at *
  obtain ⟨key, till, kind, text, list, scores, fields⟩ := e
  simp only at *
  generalize keyV key = KV at *
  generalize tillV till = TV at *
  obtain ⟨Y, eY⟩ : ∃ Y, hpush H (.row 0 7 [.d (.agg [.str key, .int .i64 till, .int .i64 kind, .str text, .vals 1 (list.map D.str), .vals 2 (scores.map scD), .vals 2 (fields.map prD)])]) = Y := ⟨_, rfl⟩
  rw [eY] at ld tk
  generalize list.map D.str = d1 at *
  generalize scores.map scD = d2 at *
  generalize fields.map prD = d3 at *
  generalize (list.length : Int) = n1 at *
  generalize (scores.length : Int) = n2 at *
  generalize (fields.length : Int) = n3 at *
  generalize okTexts list = P80 at *
  generalize setV list = P81 at *
  generalize scoresV scores = P82 at *
  generalize fieldsV fields = P83 at *
  generalize text.isEmpty = B0 at *
  generalize list.isEmpty = B1 at *
  generalize scores.isEmpty = B2 at *
  generalize fields.isEmpty = B3 at *
  generalize decide (text.length ≤ 40) = C at *
  subst hk ht hd
  cases B0 with
  | false => simp [-List.getD_eq_getElem?_getD, -List.map_map, evBody, evCode, evOps, evOper, evOp, opd, Env.get, Env.put, Env.keep, zipEnv, V.ok, V.sto, V.cells, D.cells, V.isAgg, binD, binInt, binStr, shInt, unD, eqOf, asI, leave, resOf, mapO, fzV, tupOf, view, view1, isData, hand, flatV, flatD, allD, mkAgg, mkVal, beq_lit, IntKind.bits, htake_self, htake_push, hget_hpush_self, hset_push, rowOf_self, okIn, lowIn, lowIn1, fzC_d, fzC_row, f56, eY, pk, pt, ld, tk, l1, l2, l3, xl, x0, y1, z1, y2, z2, y3, z3, p80, p81, p82, p83]
  | true =>
    cases B1 with
    | false => simp [-List.getD_eq_getElem?_getD, -List.map_map, evBody, evCode, evOps, evOper, evOp, opd, Env.get, Env.put, Env.keep, zipEnv, V.ok, V.sto, V.cells, D.cells, V.isAgg, binD, binInt, binStr, shInt, unD, eqOf, asI, leave, resOf, mapO, fzV, tupOf, view, view1, isData, hand, flatV, flatD, allD, mkAgg, mkVal, beq_lit, IntKind.bits, htake_self, htake_push, hget_hpush_self, hset_push, rowOf_self, okIn, lowIn, lowIn1, fzC_d, fzC_row, f56, eY, pk, pt, ld, tk, l1, l2, l3, xl, x0, y1, z1, y2, z2, y3, z3, p80, p81, p82, p83]
    | true =>
      cases B2 with
      | true => simp [-List.getD_eq_getElem?_getD, -List.map_map, evBody, evCode, evOps, evOper, evOp, opd, Env.get, Env.put, Env.keep, zipEnv, V.ok, V.sto, V.cells, D.cells, V.isAgg, binD, binInt, binStr, shInt, unD, eqOf, asI, leave, resOf, mapO, fzV, tupOf, view, view1, isData, hand, flatV, flatD, allD, mkAgg, mkVal, beq_lit, IntKind.bits, htake_self, htake_push, hget_hpush_self, hset_push, rowOf_self, okIn, lowIn, lowIn1, fzC_d, fzC_row, f56, eY, pk, pt, ld, tk, l1, l2, l3, xl, x0, y1, z1, y2, z2, y3, z3, p80, p81, p82, p83]
      | false =>
        cases P82 with
        | false => simp [-List.getD_eq_getElem?_getD, -List.map_map, evBody, evCode, evOps, evOper, evOp, opd, Env.get, Env.put, Env.keep, zipEnv, V.ok, V.sto, V.cells, D.cells, V.isAgg, binD, binInt, binStr, shInt, unD, eqOf, asI, leave, resOf, mapO, fzV, tupOf, view, view1, isData, hand, flatV, flatD, allD, mkAgg, mkVal, beq_lit, IntKind.bits, htake_self, htake_push, hget_hpush_self, hset_push, rowOf_self, okIn, lowIn, lowIn1, fzC_d, fzC_row, f56, eY, pk, pt, ld, tk, l1, l2, l3, xl, x0, y1, z1, y2, z2, y3, z3, p80, p81, p82, p83]
        | true =>
          cases B3 with
          | false => simp [-List.getD_eq_getElem?_getD, -List.map_map, evBody, evCode, evOps, evOper, evOp, opd, Env.get, Env.put, Env.keep, zipEnv, V.ok, V.sto, V.cells, D.cells, V.isAgg, binD, binInt, binStr, shInt, unD, eqOf, asI, leave, resOf, mapO, fzV, tupOf, view, view1, isData, hand, flatV, flatD, allD, mkAgg, mkVal, beq_lit, IntKind.bits, htake_self, htake_push, hget_hpush_self, hset_push, rowOf_self, okIn, lowIn, lowIn1, fzC_d, fzC_row, f56, eY, pk, pt, ld, tk, l1, l2, l3, xl, x0, y1, z1, y2, z2, y3, z3, p80, p81, p82, p83]
          | true =>
            simp [-List.getD_eq_getElem?_getD, -List.map_map, evBody, evCode, evOps, evOper, evOp, opd, Env.get, Env.put, Env.keep, zipEnv, V.ok, V.sto, V.cells, D.cells, V.isAgg, binD, binInt, binStr, shInt, unD, eqOf, asI, leave, resOf, mapO, fzV, tupOf, view, view1, isData, hand, flatV, flatD, allD, mkAgg, mkVal, beq_lit, IntKind.bits, htake_self, htake_push, hget_hpush_self, hset_push, rowOf_self, okIn, lowIn, lowIn1, fzC_d, fzC_row, f56, eY, pk, pt, ld, tk, l1, l2, l3, xl, x0, y1, z1, y2, z2, y3, z3, p80, p81, p82, p83]
theorem e56_k5 (H : Hp) (e : En) (hf : EnFit e) (hk : keyV e.key = true) (ht : tillV e.till = true) (hd : e.kind = 5) : ev R 56 [.d (enD e)] H = some (.d (.bool (enOk e)), H) := by
  refine ev_fn (fn := f56) rfl rfl ?_
  have pk : pureCall (ev R) 79 [.d (.str e.key)] = some (.d (.bool (keyV e.key))) := pureCall_eq (cl := ev R) fun H => e79 H e.key
  have pt : pureCall (ev R) 30 [.d (.int .i64 e.till), .d (.int .i64 0), .d (.int .i64 2000000)] = some (.d (.bool (tillV e.till))) := p30 e.till 0 2000000
  have p80 := pureCall_eq (cl := ev R) fun H => e80 H e.list hf.list
  have p81 := pureCall_eq (cl := ev R) fun H => e81 H e.list hf.list
  have p82 := pureCall_eq (cl := ev R) fun H => e82 H e.scores hf.scores
  have p83 := pureCall_eq (cl := ev R) fun H => e83 H e.fields hf.fields
  have x0 : (e.text = []) = (e.text.isEmpty = true) := by simp
  have y1 : ((e.list.length : Int) = 0) = (e.list.isEmpty = true) := by cases e.list <;> simp <;> try omega
  have z1 : (0 < (e.list.length : Int)) = (e.list.isEmpty = false) := by cases e.list <;> simp <;> try omega
  have y2 : ((e.scores.length : Int) = 0) = (e.scores.isEmpty = true) := by cases e.scores <;> simp <;> try omega
  have z2 : (0 < (e.scores.length : Int)) = (e.scores.isEmpty = false) := by cases e.scores <;> simp <;> try omega
  have y3 : ((e.fields.length : Int) = 0) = (e.fields.isEmpty = true) := by cases e.fields <;> simp <;> try omega
  have z3 : (0 < (e.fields.length : Int)) = (e.fields.isEmpty = false) := by cases e.fields <;> simp <;> try omega
  have l1 : ((e.list.map D.str).length : Int) = (e.list.length : Int) := by simp
  have l2 : ((e.scores.map scD).length : Int) = (e.scores.length : Int) := by simp
  have l3 : ((e.fields.map prD).length : Int) = (e.fields.length : Int) := by simp
  have xl : ((e.text.length : Int) ≤ 40) = (decide (e.text.length ≤ 40) = true) := by simp; omega
  have ld : ∀ j n, hload (hpush H (.row 0 7 [.d (.agg [.str e.key, .int .i64 e.till, .int .i64 e.kind, .str e.text, txts e.list, scs e.scores, prs e.fields])])) (hlen H) 0 0 j n = if j + n ≤ 7 then some ((([.d (.str e.key), .d (.int .i64 e.till), .d (.int .i64 e.kind), .d (.str e.text), .d (txts e.list), .d (scs e.scores), .d (prs e.fields)] : List V).drop j).take n) else none := fun j n => by
    simp [hload, rowOf_self, V.cells, D.cells]
  have tk := htake_push H (.row 0 7 [.d (.agg [.str e.key, .int .i64 e.till, .int .i64 e.kind, .str e.text, txts e.list, scs e.scores, prs e.fields])])
  unfold enOk kindV
  unfold enD
  simp only [txts, scs, prs] at *
  obtain ⟨key, till, kind, text, list, scores, fields⟩ := e
  simp only at *
  generalize keyV key = KV at *
  generalize tillV till = TV at *
  obtain ⟨Y, eY⟩ : ∃ Y, hpush H (.row 0 7 [.d (.agg [.str key, .int .i64 till, .int .i64 kind, .str text, .vals 1 (list.map D.str), .vals 2 (scores.map scD), .vals 2 (fields.map prD)])]) = Y := ⟨_, rfl⟩
  rw [eY] at ld tk
  generalize list.map D.str = d1 at *
  generalize scores.map scD = d2 at *
  generalize fields.map prD = d3 at *
  generalize (list.length : Int) = n1 at *
  generalize (scores.length : Int) = n2 at *
  generalize (fields.length : Int) = n3 at *
  generalize okTexts list = P80 at *
  generalize setV list = P81 at *
  generalize scoresV scores = P82 at *
  generalize fieldsV fields = P83 at *
  generalize text.isEmpty = B0 at *
  generalize list.isEmpty = B1 at *
  generalize scores.isEmpty = B2 at *
  generalize fields.isEmpty = B3 at *
  generalize decide (text.length ≤ 40) = C at *
  subst hk ht hd
  cases B0 with
  | false => simp [-List.getD_eq_getElem?_getD, -List.map_map, evBody, evCode, evOps, evOper, evOp, opd, Env.get, Env.put, Env.keep, zipEnv, V.ok, V.sto, V.cells, D.cells, V.isAgg, binD, binInt, binStr, shInt, unD, eqOf, asI, leave, resOf, mapO, fzV, tupOf, view, view1, isData, hand, flatV, flatD, allD, mkAgg, mkVal, beq_lit, IntKind.bits, htake_self, htake_push, hget_hpush_self, hset_push, rowOf_self, okIn, lowIn, lowIn1, fzC_d, fzC_row, f56, eY, pk, pt, ld, tk, l1, l2, l3, xl, x0, y1, z1, y2, z2, y3, z3, p80, p81, p82, p83]
  | true =>
    cases B1 with
    | false => simp [-List.getD_eq_getElem?_getD, -List.map_map, evBody, evCode, evOps, evOper, evOp, opd, Env.get, Env.put, Env.keep, zipEnv, V.ok, V.sto, V.cells, D.cells, V.isAgg, binD, binInt, binStr, shInt, unD, eqOf, asI, leave, resOf, mapO, fzV, tupOf, view, view1, isData, hand, flatV, flatD, allD, mkAgg, mkVal, beq_lit, IntKind.bits, htake_self, htake_push, hget_hpush_self, hset_push, rowOf_self, okIn, lowIn, lowIn1, fzC_d, fzC_row, f56, eY, pk, pt, ld, tk, l1, l2, l3, xl, x0, y1, z1, y2, z2, y3, z3, p80, p81, p82, p83]
    | true =>
      cases B2 with
      | false => simp [-List.getD_eq_getElem?_getD, -List.map_map, evBody, evCode, evOps, evOper, evOp, opd, Env.get, Env.put, Env.keep, zipEnv, V.ok, V.sto, V.cells, D.cells, V.isAgg, binD, binInt, binStr, shInt, unD, eqOf, asI, leave, resOf, mapO, fzV, tupOf, view, view1, isData, hand, flatV, flatD, allD, mkAgg, mkVal, beq_lit, IntKind.bits, htake_self, htake_push, hget_hpush_self, hset_push, rowOf_self, okIn, lowIn, lowIn1, fzC_d, fzC_row, f56, eY, pk, pt, ld, tk, l1, l2, l3, xl, x0, y1, z1, y2, z2, y3, z3, p80, p81, p82, p83]
      | true =>
        cases B3 with
        | true => simp [-List.getD_eq_getElem?_getD, -List.map_map, evBody, evCode, evOps, evOper, evOp, opd, Env.get, Env.put, Env.keep, zipEnv, V.ok, V.sto, V.cells, D.cells, V.isAgg, binD, binInt, binStr, shInt, unD, eqOf, asI, leave, resOf, mapO, fzV, tupOf, view, view1, isData, hand, flatV, flatD, allD, mkAgg, mkVal, beq_lit, IntKind.bits, htake_self, htake_push, hget_hpush_self, hset_push, rowOf_self, okIn, lowIn, lowIn1, fzC_d, fzC_row, f56, eY, pk, pt, ld, tk, l1, l2, l3, xl, x0, y1, z1, y2, z2, y3, z3, p80, p81, p82, p83]
        | false =>
          cases P83 with
          | false => simp [-List.getD_eq_getElem?_getD, -List.map_map, evBody, evCode, evOps, evOper, evOp, opd, Env.get, Env.put, Env.keep, zipEnv, V.ok, V.sto, V.cells, D.cells, V.isAgg, binD, binInt, binStr, shInt, unD, eqOf, asI, leave, resOf, mapO, fzV, tupOf, view, view1, isData, hand, flatV, flatD, allD, mkAgg, mkVal, beq_lit, IntKind.bits, htake_self, htake_push, hget_hpush_self, hset_push, rowOf_self, okIn, lowIn, lowIn1, fzC_d, fzC_row, f56, eY, pk, pt, ld, tk, l1, l2, l3, xl, x0, y1, z1, y2, z2, y3, z3, p80, p81, p82, p83]
          | true =>
            simp [-List.getD_eq_getElem?_getD, -List.map_map, evBody, evCode, evOps, evOper, evOp, opd, Env.get, Env.put, Env.keep, zipEnv, V.ok, V.sto, V.cells, D.cells, V.isAgg, binD, binInt, binStr, shInt, unD, eqOf, asI, leave, resOf, mapO, fzV, tupOf, view, view1, isData, hand, flatV, flatD, allD, mkAgg, mkVal, beq_lit, IntKind.bits, htake_self, htake_push, hget_hpush_self, hset_push, rowOf_self, okIn, lowIn, lowIn1, fzC_d, fzC_row, f56, eY, pk, pt, ld, tk, l1, l2, l3, xl, x0, y1, z1, y2, z2, y3, z3, p80, p81, p82, p83]
theorem e56_k0 (H : Hp) (e : En) (hf : EnFit e) (hk : keyV e.key = true) (ht : tillV e.till = true) (a1 : ¬ e.kind = 1) (a2 : ¬ e.kind = 2) (a3 : ¬ e.kind = 3) (a4 : ¬ e.kind = 4) (a5 : ¬ e.kind = 5) : ev R 56 [.d (enD e)] H = some (.d (.bool (enOk e)), H) := by
  refine ev_fn (fn := f56) rfl rfl ?_
  have pk : pureCall (ev R) 79 [.d (.str e.key)] = some (.d (.bool (keyV e.key))) := pureCall_eq (cl := ev R) fun H => e79 H e.key
  have pt : pureCall (ev R) 30 [.d (.int .i64 e.till), .d (.int .i64 0), .d (.int .i64 2000000)] = some (.d (.bool (tillV e.till))) := p30 e.till 0 2000000
  have p80 := pureCall_eq (cl := ev R) fun H => e80 H e.list hf.list
  have p81 := pureCall_eq (cl := ev R) fun H => e81 H e.list hf.list
  have p82 := pureCall_eq (cl := ev R) fun H => e82 H e.scores hf.scores
  have p83 := pureCall_eq (cl := ev R) fun H => e83 H e.fields hf.fields
  have x0 : (e.text = []) = (e.text.isEmpty = true) := by simp
  have y1 : ((e.list.length : Int) = 0) = (e.list.isEmpty = true) := by cases e.list <;> simp <;> try omega
  have z1 : (0 < (e.list.length : Int)) = (e.list.isEmpty = false) := by cases e.list <;> simp <;> try omega
  have y2 : ((e.scores.length : Int) = 0) = (e.scores.isEmpty = true) := by cases e.scores <;> simp <;> try omega
  have z2 : (0 < (e.scores.length : Int)) = (e.scores.isEmpty = false) := by cases e.scores <;> simp <;> try omega
  have y3 : ((e.fields.length : Int) = 0) = (e.fields.isEmpty = true) := by cases e.fields <;> simp <;> try omega
  have z3 : (0 < (e.fields.length : Int)) = (e.fields.isEmpty = false) := by cases e.fields <;> simp <;> try omega
  have l1 : ((e.list.map D.str).length : Int) = (e.list.length : Int) := by simp
  have l2 : ((e.scores.map scD).length : Int) = (e.scores.length : Int) := by simp
  have l3 : ((e.fields.map prD).length : Int) = (e.fields.length : Int) := by simp
  have xl : ((e.text.length : Int) ≤ 40) = (decide (e.text.length ≤ 40) = true) := by simp; omega
  have ld : ∀ j n, hload (hpush H (.row 0 7 [.d (.agg [.str e.key, .int .i64 e.till, .int .i64 e.kind, .str e.text, txts e.list, scs e.scores, prs e.fields])])) (hlen H) 0 0 j n = if j + n ≤ 7 then some ((([.d (.str e.key), .d (.int .i64 e.till), .d (.int .i64 e.kind), .d (.str e.text), .d (txts e.list), .d (scs e.scores), .d (prs e.fields)] : List V).drop j).take n) else none := fun j n => by
    simp [hload, rowOf_self, V.cells, D.cells]
  have tk := htake_push H (.row 0 7 [.d (.agg [.str e.key, .int .i64 e.till, .int .i64 e.kind, .str e.text, txts e.list, scs e.scores, prs e.fields])])
  unfold enOk kindV
  unfold enD
  simp only [txts, scs, prs] at *
  obtain ⟨key, till, kind, text, list, scores, fields⟩ := e
  simp only at *
  generalize keyV key = KV at *
  generalize tillV till = TV at *
  obtain ⟨Y, eY⟩ : ∃ Y, hpush H (.row 0 7 [.d (.agg [.str key, .int .i64 till, .int .i64 kind, .str text, .vals 1 (list.map D.str), .vals 2 (scores.map scD), .vals 2 (fields.map prD)])]) = Y := ⟨_, rfl⟩
  rw [eY] at ld tk
  generalize list.map D.str = d1 at *
  generalize scores.map scD = d2 at *
  generalize fields.map prD = d3 at *
  generalize (list.length : Int) = n1 at *
  generalize (scores.length : Int) = n2 at *
  generalize (fields.length : Int) = n3 at *
  generalize okTexts list = P80 at *
  generalize setV list = P81 at *
  generalize scoresV scores = P82 at *
  generalize fieldsV fields = P83 at *
  generalize text.isEmpty = B0 at *
  generalize list.isEmpty = B1 at *
  generalize scores.isEmpty = B2 at *
  generalize fields.isEmpty = B3 at *
  generalize decide (text.length ≤ 40) = C at *
  subst hk ht
  simp [-List.getD_eq_getElem?_getD, -List.map_map, evBody, evCode, evOps, evOper, evOp, opd, Env.get, Env.put, Env.keep, zipEnv, V.ok, V.sto, V.cells, D.cells, V.isAgg, binD, binInt, binStr, shInt, unD, eqOf, asI, leave, resOf, mapO, fzV, tupOf, view, view1, isData, hand, flatV, flatD, allD, mkAgg, mkVal, beq_lit, IntKind.bits, htake_self, htake_push, hget_hpush_self, hset_push, rowOf_self, okIn, lowIn, lowIn1, fzC_d, fzC_row, f56, eY, pk, pt, ld, tk, l1, l2, l3, xl, x0, y1, z1, y2, z2, y3, z3, a1, a2, a3, a4, a5]
theorem e56 (H : Hp) (e : En) (hf : EnFit e) : ev R 56 [.d (enD e)] H = some (.d (.bool (enOk e)), H) := by
  cases hk : keyV e.key with
  | false => exact e56_no H e hf (.inl hk)
  | true =>
    cases ht : tillV e.till with
    | false => exact e56_no H e hf (.inr ht)
    | true =>
      by_cases a1 : e.kind = 1
      · exact e56_k1 H e hf hk ht a1
      by_cases a2 : e.kind = 2
      · exact e56_k2 H e hf hk ht a2
      by_cases a3 : e.kind = 3
      · exact e56_k3 H e hf hk ht a3
      by_cases a4 : e.kind = 4
      · exact e56_k4 H e hf hk ht a4
      by_cases a5 : e.kind = 5
      · exact e56_k5 H e hf hk ht a5
      exact e56_k0 H e hf hk ht a1 a2 a3 a4 a5
end Go.Proofs.YtpmphmpaeooeeaaDoorO.Code
/- The orders that make an entry: the reference. -/
namespace Go.Proofs.YtpmphmpaeooeeaaDoorO.Code
open Go Go.Ev Go.Proofs
set_option maxRecDepth 100000
set_option linter.unusedSimpArgs false
set_option linter.unusedVariables false
def zadd (k : Txt) (x : Sc) : List Txt := [[90, 65, 68, 68], k, decZ x.2, x.1]
def hsetV (k : Txt) (x : Pr) : List Txt := [[72, 83, 69, 84], k, x.1, x.2]
/-- What makes an entry's contents. -/
def bodyV (e : En) : List (List Txt) :=
  if e.kind = 1 then [[[83, 69, 84], e.key, e.text]]
  else if e.kind = 2 then manyV [82, 80, 85, 83, 72] e.key e.list
  else if e.kind = 3 then manyV [83, 65, 68, 68] e.key e.list
  else if e.kind = 4 then e.scores.map (zadd e.key)
  else if e.kind = 5 then e.fields.map (hsetV e.key)
  else []
def tillO (e : En) : List (List Txt) := if e.till = 0 then [] else [[[69, 88, 80, 73, 82, 69, 65, 84], e.key, decZ e.till]]
/-- What makes an entry. -/
def makeV (e : En) : List (List Txt) := bodyV e ++ tillO e
/-- The box of an entry, and a row of data. -/
def bx (H : Hp) (e : En) : Hp := hpush H (.row 0 7 [.d (enD e)])
theorem bx_len (H : Hp) (e : En) : hlen (bx H e) = hlen H + 1 := hlen_hpush _ _
def rowD (g : Nat) (xss : List (List Txt)) : Ev.Obj := .row g 1 ((textss xss).map V.d)
theorem bx_load (H : Hp) (e : En) (o : Ev.Obj) (j n : Nat) : hload (hpush (bx H e) o) (hlen H) 0 0 j n = if j + n ≤ 7 then some ((([.d (.str e.key), .d (.int .i64 e.till), .d (.int .i64 e.kind), .d (.str e.text), .d (txts e.list), .d (scs e.scores), .d (prs e.fields)] : List V).drop j).take n) else none := by
  have hr : rowOf (hpush (bx H e) o) (hlen H) 0 = some (7, [.d (enD e)]) := rowOf_push (rowOf_self _ _ _ _)
  simp [hload, hr, enD, V.cells, D.cells]
/-- What the loops leave. -/
def Q57 (H : Hp) (e : En) (ex : Nat) (xss : List (List Txt)) (o : Option (Ev.Out × St)) : Prop :=
  ∃ e' g', o = some (.exit ex, ⟨e', hpush (bx H e) (rowD g' xss)⟩) ∧ e'.get 1 = .ptr (hlen H) 0 0 0 ∧ e'.get 3 = .slc (hlen H + 1) g' 0 xss.length
theorem l57a (n0 : Nat) (H : Hp) (en : En) (hx : en.scores.length ≤ 16) (hs : ∀ i, i < en.scores.length → -1000000000 ≤ (en.scores.getD i ([], 0)).2 ∧ (en.scores.getD i ([], 0)).2 ≤ 1000000000) : ∀ (n i g : Nat) (acc : List (List Txt)) (e : Env), i + n = en.scores.length → acc.length + n ≤ 100 → e.get 1 = .ptr (hlen H) 0 0 0 → e.get 3 = .slc (hlen H + 1) g 0 acc.length → e.get 4 = .d (.int .i64 i) →
    Q57 H en 1 (acc ++ (en.scores.drop i).map (zadd en.key)) (evLoop (evCode (ev R) R.glob n0 evLoop f57l0) [1, 3, 4] ⟨e, hpush (bx H en) (rowD g acc)⟩)
  | 0, i, g, acc, e, h1, h2, g1, g3, g4 => by
    have c : ¬ (i : Int) < (en.scores.length : Int) := by omega
    have c' : ¬ i < en.scores.length := by omega
    have ld := bx_load H en (rowD g acc)
    rw [List.drop_of_length_le (by omega), List.map_nil, List.append_nil]
    obtain ⟨Y, hY⟩ : ∃ Y, hpush (bx H en) (rowD g acc) = Y := ⟨_, rfl⟩
    rw [hY] at ld
    have key : ∃ e', evLoop (evCode (ev R) R.glob n0 evLoop f57l0) [1, 3, 4] ⟨e, Y⟩ = some (.exit 1, ⟨e', Y⟩) ∧ e'.get 1 = .ptr (hlen H) 0 0 0 ∧ e'.get 3 = .slc (hlen H + 1) g 0 acc.length := by
      rw [evLoop_eq]
      refine ⟨?_, ?_, ?_, ?_⟩
      rotate_left
      · simp [-List.getD_eq_getElem?_getD, -List.map_map, evBody, evCode, evOps, evOper, evOp, opd, Env.get, Env.put, Env.keep, zipEnv, V.ok, V.sto, V.cells, D.cells, V.isAgg, binD, binInt, binStr, shInt, unD, eqOf, asI, leave, resOf, mapO, fzV, tupOf, view, view1, isData, hand, flatV, flatD, allD, mkAgg, mkVal, beq_lit, IntKind.bits, htake_self, htake_push, hget_hpush_self, hset_push, rowOf_self, okIn, lowIn, lowIn1, fzC_d, fzC_row, f57l0, g1, g3, g4, ld, scs, c, c']
        try rfl
      · simp [-List.getD_eq_getElem?_getD, -List.map_map, evBody, evCode, evOps, evOper, evOp, opd, Env.get, Env.put, Env.keep, zipEnv, V.ok, V.sto, V.cells, D.cells, V.isAgg, binD, binInt, binStr, shInt, unD, eqOf, asI, leave, resOf, mapO, fzV, tupOf, view, view1, isData, hand, flatV, flatD, allD, mkAgg, mkVal, beq_lit, IntKind.bits, htake_self, htake_push, hget_hpush_self, hset_push, rowOf_self, okIn, lowIn, lowIn1, fzC_d, fzC_row, g1]
      · simp [-List.getD_eq_getElem?_getD, -List.map_map, evBody, evCode, evOps, evOper, evOp, opd, Env.get, Env.put, Env.keep, zipEnv, V.ok, V.sto, V.cells, D.cells, V.isAgg, binD, binInt, binStr, shInt, unD, eqOf, asI, leave, resOf, mapO, fzV, tupOf, view, view1, isData, hand, flatV, flatD, allD, mkAgg, mkVal, beq_lit, IntKind.bits, htake_self, htake_push, hget_hpush_self, hset_push, rowOf_self, okIn, lowIn, lowIn1, fzC_d, fzC_row, g3]
    obtain ⟨e', k1, k2, k3⟩ := key
    exact ⟨e', g, by rw [hY]; exact k1, k2, k3⟩
  | n + 1, i, g, acc, e, h1, h2, g1, g3, g4 => by
    have c : (i : Int) < (en.scores.length : Int) := by omega
    have c' : i < en.scores.length := by omega
    have ld := bx_load H en (rowD g acc)
    have ga := scs_get en.scores i c'
    have hsi := hs i c'
    have p := pureCall_eq (cl := ev R) fun H => e65z H (en.scores.getD i ([], 0)).2 hsi
    have w1 : IntKind.i64.wrap ((i : Int) + 1) = ((i + 1 : Nat) : Int) := by rw [IntWalk.i64_in _ (by omega)]; rfl
    have hd : en.scores.drop i = en.scores.getD i ([], 0) :: en.scores.drop (i + 1) := by
      rw [List.getD_eq_getElem?_getD, List.getElem?_eq_getElem c']
      exact List.drop_eq_getElem_cons c'
    have rw1 : rowOf (hpush (bx H en) (rowD g acc)) (hlen H + 1) g = some (1, (textss acc).map V.d) := by rw [← bx_len H en]; exact rowOf_self _ _ _ _
    have rs : hset (hpush (bx H en) (rowD g acc)) (hlen H + 1) (.row (g + 1) 1 ((textss acc).map V.d ++ [.d (txts (zadd en.key (en.scores.getD i ([], 0))))])) = hpush (bx H en) (rowD (g + 1) (acc ++ [zadd en.key (en.scores.getD i ([], 0))])) := by
      rw [← bx_len H en, hset_push]
      simp [rowD, textss]
    have ih := l57a n0 H en hx hs n (i + 1) (g + 1) (acc ++ [zadd en.key (en.scores.getD i ([], 0))])
    rw [hd, List.map_cons]
    rw [List.append_assoc, List.singleton_append, List.length_append, List.length_singleton] at ih
    have vl : ((textss acc).map V.d).length = acc.length := by rw [List.length_map, textss_len]
    have rm : (acc.length + 1) * 24 ≤ room := by unfold room; omega
    generalize acc ++ zadd en.key (en.scores.getD i ([], 0)) :: (en.scores.drop (i + 1)).map (zadd en.key) = CC at *
    obtain ⟨Y2, hY2⟩ : ∃ Y2, hpush (bx H en) (rowD (g + 1) (acc ++ [zadd en.key (en.scores.getD i ([], 0))])) = Y2 := ⟨_, rfl⟩
    rw [hY2] at rs ih
    clear hY2
    simp only [zadd, txts, List.map_cons, List.map_nil] at rs
    generalize (textss acc).map V.d = vs at *
    generalize hpush (bx H en) (rowD g acc) = Y at *
    generalize en.scores.getD i ([], 0) = x at *
    rw [evLoop_eq]
    generalize evLoop (evCode (ev R) R.glob n0 evLoop f57l0) [1, 3, 4] = F at ih ⊢
    simp [-List.getD_eq_getElem?_getD, -List.map_map, evBody, evCode, evOps, evOper, evOp, opd, Env.get, Env.put, Env.keep, zipEnv, V.ok, V.sto, V.cells, D.cells, V.isAgg, binD, binInt, binStr, shInt, unD, eqOf, asI, leave, resOf, mapO, fzV, tupOf, view, view1, isData, hand, flatV, flatD, allD, mkAgg, mkVal, beq_lit, IntKind.bits, htake_self, htake_push, hget_hpush_self, hset_push, rowOf_self, okIn, lowIn, lowIn1, fzC_d, fzC_row, f57l0, g1, g3, g4, ld, scs, c, c', ga, p, w1, rw1, src, vl, rm, rs]
    refine ih _ (by omega) (by omega) ?_ ?_ ?_ <;> (first | rfl | exact g1)
theorem l57b (n0 : Nat) (H : Hp) (en : En) (hx : en.fields.length ≤ 16) : ∀ (n i g : Nat) (acc : List (List Txt)) (e : Env), i + n = en.fields.length → acc.length + n ≤ 100 → e.get 1 = .ptr (hlen H) 0 0 0 → e.get 3 = .slc (hlen H + 1) g 0 acc.length → e.get 5 = .d (.int .i64 i) →
    Q57 H en 3 (acc ++ (en.fields.drop i).map (hsetV en.key)) (evLoop (evCode (ev R) R.glob n0 evLoop f57l1) [1, 3, 5] ⟨e, hpush (bx H en) (rowD g acc)⟩)
  | 0, i, g, acc, e, h1, h2, g1, g3, g5 => by
    have c : ¬ (i : Int) < (en.fields.length : Int) := by omega
    have c' : ¬ i < en.fields.length := by omega
    have ld := bx_load H en (rowD g acc)
    rw [List.drop_of_length_le (by omega), List.map_nil, List.append_nil]
    obtain ⟨Y, hY⟩ : ∃ Y, hpush (bx H en) (rowD g acc) = Y := ⟨_, rfl⟩
    rw [hY] at ld
    have key : ∃ e', evLoop (evCode (ev R) R.glob n0 evLoop f57l1) [1, 3, 5] ⟨e, Y⟩ = some (.exit 3, ⟨e', Y⟩) ∧ e'.get 1 = .ptr (hlen H) 0 0 0 ∧ e'.get 3 = .slc (hlen H + 1) g 0 acc.length := by
      rw [evLoop_eq]
      refine ⟨?_, ?_, ?_, ?_⟩
      rotate_left
      · simp [-List.getD_eq_getElem?_getD, -List.map_map, evBody, evCode, evOps, evOper, evOp, opd, Env.get, Env.put, Env.keep, zipEnv, V.ok, V.sto, V.cells, D.cells, V.isAgg, binD, binInt, binStr, shInt, unD, eqOf, asI, leave, resOf, mapO, fzV, tupOf, view, view1, isData, hand, flatV, flatD, allD, mkAgg, mkVal, beq_lit, IntKind.bits, htake_self, htake_push, hget_hpush_self, hset_push, rowOf_self, okIn, lowIn, lowIn1, fzC_d, fzC_row, f57l1, g1, g3, g5, ld, prs, c, c']
        try rfl
      · simp [-List.getD_eq_getElem?_getD, -List.map_map, evBody, evCode, evOps, evOper, evOp, opd, Env.get, Env.put, Env.keep, zipEnv, V.ok, V.sto, V.cells, D.cells, V.isAgg, binD, binInt, binStr, shInt, unD, eqOf, asI, leave, resOf, mapO, fzV, tupOf, view, view1, isData, hand, flatV, flatD, allD, mkAgg, mkVal, beq_lit, IntKind.bits, htake_self, htake_push, hget_hpush_self, hset_push, rowOf_self, okIn, lowIn, lowIn1, fzC_d, fzC_row, g1]
      · simp [-List.getD_eq_getElem?_getD, -List.map_map, evBody, evCode, evOps, evOper, evOp, opd, Env.get, Env.put, Env.keep, zipEnv, V.ok, V.sto, V.cells, D.cells, V.isAgg, binD, binInt, binStr, shInt, unD, eqOf, asI, leave, resOf, mapO, fzV, tupOf, view, view1, isData, hand, flatV, flatD, allD, mkAgg, mkVal, beq_lit, IntKind.bits, htake_self, htake_push, hget_hpush_self, hset_push, rowOf_self, okIn, lowIn, lowIn1, fzC_d, fzC_row, g3]
    obtain ⟨e', k1, k2, k3⟩ := key
    exact ⟨e', g, by rw [hY]; exact k1, k2, k3⟩
  | n + 1, i, g, acc, e, h1, h2, g1, g3, g5 => by
    have c : (i : Int) < (en.fields.length : Int) := by omega
    have c' : i < en.fields.length := by omega
    have ld := bx_load H en (rowD g acc)
    have ga := prs_get en.fields i c'
    have w1 : IntKind.i64.wrap ((i : Int) + 1) = ((i + 1 : Nat) : Int) := by rw [IntWalk.i64_in _ (by omega)]; rfl
    have hd : en.fields.drop i = en.fields.getD i ([], []) :: en.fields.drop (i + 1) := by
      rw [List.getD_eq_getElem?_getD, List.getElem?_eq_getElem c']
      exact List.drop_eq_getElem_cons c'
    have rw1 : rowOf (hpush (bx H en) (rowD g acc)) (hlen H + 1) g = some (1, (textss acc).map V.d) := by rw [← bx_len H en]; exact rowOf_self _ _ _ _
    have rs : hset (hpush (bx H en) (rowD g acc)) (hlen H + 1) (.row (g + 1) 1 ((textss acc).map V.d ++ [.d (txts (hsetV en.key (en.fields.getD i ([], []))))])) = hpush (bx H en) (rowD (g + 1) (acc ++ [hsetV en.key (en.fields.getD i ([], []))])) := by
      rw [← bx_len H en, hset_push]
      simp [rowD, textss]
    have ih := l57b n0 H en hx n (i + 1) (g + 1) (acc ++ [hsetV en.key (en.fields.getD i ([], []))])
    rw [hd, List.map_cons]
    rw [List.append_assoc, List.singleton_append, List.length_append, List.length_singleton] at ih
    have vl : ((textss acc).map V.d).length = acc.length := by rw [List.length_map, textss_len]
    have rm : (acc.length + 1) * 24 ≤ room := by unfold room; omega
    generalize acc ++ hsetV en.key (en.fields.getD i ([], [])) :: (en.fields.drop (i + 1)).map (hsetV en.key) = CC at *
    obtain ⟨Y2, hY2⟩ : ∃ Y2, hpush (bx H en) (rowD (g + 1) (acc ++ [hsetV en.key (en.fields.getD i ([], []))])) = Y2 := ⟨_, rfl⟩
    rw [hY2] at rs ih
    clear hY2
    simp only [hsetV, txts, List.map_cons, List.map_nil] at rs
    generalize (textss acc).map V.d = vs at *
    generalize hpush (bx H en) (rowD g acc) = Y at *
    generalize en.fields.getD i ([], []) = x at *
    rw [evLoop_eq]
    generalize evLoop (evCode (ev R) R.glob n0 evLoop f57l1) [1, 3, 5] = F at ih ⊢
    simp [-List.getD_eq_getElem?_getD, -List.map_map, evBody, evCode, evOps, evOper, evOp, opd, Env.get, Env.put, Env.keep, zipEnv, V.ok, V.sto, V.cells, D.cells, V.isAgg, binD, binInt, binStr, shInt, unD, eqOf, asI, leave, resOf, mapO, fzV, tupOf, view, view1, isData, hand, flatV, flatD, allD, mkAgg, mkVal, beq_lit, IntKind.bits, htake_self, htake_push, hget_hpush_self, hset_push, rowOf_self, okIn, lowIn, lowIn1, fzC_d, fzC_row, f57l1, g1, g3, g5, ld, prs, c, c', ga, w1, rw1, src, vl, rm, rs]
    refine ih _ (by omega) (by omega) ?_ ?_ ?_ <;> (first | rfl | exact g1)
end Go.Proofs.YtpmphmpaeooeeaaDoorO.Code

/- Lemmas (several texts in one). -/
import Derived.Test.YtpmphmpaeooeeaaDoorM4
import Derived.ChangeArms
import Derived.ChangeSlices
import Derived.OpenShut
import Derived.ChangeShapes
/- The orders that make an entry: the code under test, its loops. -/
namespace Go.Proofs.YtpmphmpaeooeeaaDoorO.Code
open Go Go.Ev Go.Proofs
set_option maxRecDepth 100000
set_option linter.unusedSimpArgs false
set_option linter.unusedVariables false
/-- The box of an entry whose lists are rows. -/
def bxV (X : Hp) (r : Nat) (e : En) : Hp := hpush X (.row 0 7 [enV r e])
theorem bxV_len (X : Hp) (r : Nat) (e : En) : hlen (bxV X r e) = hlen X + 1 := hlen_hpush _ _
theorem bxV_load {X Y : Hp} {r o g : Nat} {e : En} {L : List Li} (h : Out (bxV X r e) o Y g L) (j : Nat) : hload Y (hlen X) 0 0 j 1 = if j + 1 ≤ 7 then some (([.d (.str e.key), .d (.int .i64 e.till), .d (.int .i64 e.kind), .d (.str e.text), .slc r 0 0 e.list.length, .slc (r + 1) 0 0 e.scores.length, .slc (r + 2) 0 0 e.fields.length].drop j).take 1) else none := by
  have hr : rowOf Y (hlen X) 0 = some (7, [enV r e]) := h.base (rowOf_self _ _ _ _)
  simp [hload, hr, enV, V.cells]
/-- What the loops leave. -/
def Q26 (X : Hp) (r : Nat) (e : En) (ex : Nat) (xss : List (List Txt)) (o : Option (Ev.Out × St)) : Prop :=
  ∃ e' Y' g' L', o = some (.exit ex, ⟨e', Y'⟩) ∧ Out (bxV X r e) (hlen X + 1) Y' g' L' ∧ listsL L' = xss ∧ e'.get 1 = .ptr (hlen X) 0 0 0 ∧ e'.get 3 = .slc (hlen X + 1) g' 0 L'.length
theorem l26b (X : Hp) (r : Nat) (en : En) (hr2 : rowOf X (r + 1) 0 = some (2, (en.scores.map scD).map V.d)) (hx : en.scores.length ≤ 16) (hs : ∀ i, i < en.scores.length → -1000000000 ≤ (en.scores.getD i ([], 0)).2 ∧ (en.scores.getD i ([], 0)).2 ≤ 1000000000) : ∀ (n i g : Nat) (L : List Li) (Y : Hp) (e : Env), i + n = en.scores.length → L.length + n ≤ 100 → Out (bxV X r en) (hlen X + 1) Y g L → e.get 1 = .ptr (hlen X) 0 0 0 → e.get 3 = .slc (hlen X + 1) g 0 L.length → e.get 64 = .slc (r + 1) 0 0 en.scores.length → e.get 65 = .d (.int .i64 en.scores.length) → e.get 66 = .d (.int .i64 i) →
    Q26 X r en 3 (listsL L ++ (en.scores.drop i).map (zadd en.key)) (evLoop (evCode (ev R) R.glob (hlen X) evLoop f26l1) [1, 3, 64, 65, 66] ⟨e, Y⟩)
  | 0, i, g, L, Y, e, h1, h2, hO, g1, g3, g64, g65, g66 => by
    have c : ¬ (i : Int) < (en.scores.length : Int) := by omega
    have c' : ¬ i < en.scores.length := by omega
    rw [evLoop_eq, List.drop_of_length_le (by omega), List.map_nil, List.append_nil]
    unfold Q26
    refine ⟨?_, Y, g, L, ?_, hO, rfl, ?_, ?_⟩
    rotate_left
    · simp [-List.getD_eq_getElem?_getD, -List.map_map, evBody, evCode, evOps, evOper, evOp, opd, Env.get, Env.put, Env.keep, zipEnv, V.ok, V.sto, V.cells, D.cells, V.isAgg, binD, binInt, binStr, shInt, unD, eqOf, asI, leave, resOf, mapO, fzV, tupOf, view, view1, isData, hand, flatV, flatD, allD, mkAgg, mkVal, beq_lit, IntKind.bits, htake_self, htake_push, hget_hpush_self, hset_push, rowOf_self, okIn, lowIn, lowIn1, fzC_d, fzC_row, f26l1, g1, g3, g64, g65, g66, c, c']
      try rfl
    · simp [-List.getD_eq_getElem?_getD, -List.map_map, evBody, evCode, evOps, evOper, evOp, opd, Env.get, Env.put, Env.keep, zipEnv, V.ok, V.sto, V.cells, D.cells, V.isAgg, binD, binInt, binStr, shInt, unD, eqOf, asI, leave, resOf, mapO, fzV, tupOf, view, view1, isData, hand, flatV, flatD, allD, mkAgg, mkVal, beq_lit, IntKind.bits, htake_self, htake_push, hget_hpush_self, hset_push, rowOf_self, okIn, lowIn, lowIn1, fzC_d, fzC_row, g1]
    · simp [-List.getD_eq_getElem?_getD, -List.map_map, evBody, evCode, evOps, evOper, evOp, opd, Env.get, Env.put, Env.keep, zipEnv, V.ok, V.sto, V.cells, D.cells, V.isAgg, binD, binInt, binStr, shInt, unD, eqOf, asI, leave, resOf, mapO, fzV, tupOf, view, view1, isData, hand, flatV, flatD, allD, mkAgg, mkVal, beq_lit, IntKind.bits, htake_self, htake_push, hget_hpush_self, hset_push, rowOf_self, okIn, lowIn, lowIn1, fzC_d, fzC_row, g3]
  | n + 1, i, g, L, Y, e, h1, h2, hO, g1, g3, g64, g65, g66 => by
    have c' : i < en.scores.length := by omega
    have c : (i : Int) < (en.scores.length : Int) := by omega
    have hsi := hs i c'
    have p := pureCall_eq (cl := ev R) fun H => e35 H (en.scores.getD i ([], 0)).2 hsi
    have w1 : IntKind.i64.wrap ((i : Int) + 1) = ((i + 1 : Nat) : Int) := by rw [IntWalk.i64_in _ (by omega)]; rfl
    have hd : en.scores.drop i = en.scores.getD i ([], 0) :: en.scores.drop (i + 1) := by
      rw [List.getD_eq_getElem?_getD, List.getElem?_eq_getElem c']
      exact List.drop_eq_getElem_cons c'
    have hlt := hO.lt
    have hrY : rowOf Y (r + 1) 0 = some (2, (en.scores.map scD).map V.d) := hO.base (rowOf_push hr2)
    have ld0 : hload Y (r + 1) 0 i 0 2 = some [.d (.str (en.scores.getD i ([], 0)).1), .d (.int .i64 (en.scores.getD i ([], 0)).2)] := by
      have : ((en.scores.map scD).map V.d)[i]? = some (.d (.agg [.str (en.scores.getD i ([], 0)).1, .int .i64 (en.scores.getD i ([], 0)).2])) := by
        simp [scD, List.getD_eq_getElem?_getD, c']
      generalize (en.scores.map scD).map V.d = vs at *
      simp [hload, hrY, this, V.cells]
    obtain ⟨x, hx'⟩ : ∃ x, en.scores.getD i ([], 0) = x := ⟨_, rfl⟩
    rw [hx'] at p ld0 hd
    obtain ⟨o1, ho1⟩ : ∃ o, Ev.Obj.row 0 2 [.d (.agg [.str x.1, .int .i64 x.2])] = o := ⟨_, rfl⟩
    -- the score, boxed
    obtain ⟨Y1, hY1⟩ : ∃ Y1, hpush Y o1 = Y1 := ⟨_, rfl⟩
    have st : hstore (hpush Y (.row 0 2 [.d (.agg [.str [], .int .i64 0])])) (hlen Y) 0 0 0 [.d (.str x.1), .d (.int .i64 x.2)] = some Y1 := by
      rw [← hY1, ← ho1]
      simp [hstore, rowOf_self, V.cells, D.cells, reCell, V.isAgg, mkAgg, allD, hset_push]
    have O1 : Out (bxV X r en) (hlen X + 1) Y1 g L := by rw [← hY1]; exact hO.push _
    have lk := bxV_load O1
    have la : hload Y1 (hlen Y) 0 0 0 1 = some [.d (.str x.1)] := by rw [← hY1, ← ho1]; simp [hload, rowOf_self, V.cells, D.cells]
    have lb : hload Y1 (hlen Y) 0 0 1 1 = some [.d (.int .i64 x.2)] := by rw [← hY1, ← ho1]; simp [hload, rowOf_self, V.cells, D.cells]
    -- the order, and the literal that it is added by
    obtain ⟨Y2, hY2⟩ : ∃ Y2, hpush Y1 (.row 0 1 [.d (.str [90, 65, 68, 68]), .d (.str en.key), .d (.str (decZ x.2)), .d (.str x.1)]) = Y2 := ⟨_, rfl⟩
    have r2 : rowOf Y2 (hlen Y1) 0 = some (1, dat (zadd en.key x)) := by rw [← hY2]; exact rowOf_self _ _ _ _
    have O2 : Out (bxV X r en) (hlen X + 1) Y2 g L := by rw [← hY2]; exact O1.push _
    obtain ⟨Y3, hY3⟩ : ∃ Y3, hpush Y2 (.row 0 1 [.slc (hlen Y1) 0 0 4]) = Y3 := ⟨_, rfl⟩
    have O3 : Out (bxV X r en) (hlen X + 1) Y3 g L := by rw [← hY3]; exact O2.push _
    have r3 : rowOf Y3 (hlen Y1) 0 = some (1, dat (zadd en.key x)) := by rw [← hY3]; exact rowOf_push r2
    have r4 : rowOf Y3 (hlen Y2) 0 = some (1, [.slc (hlen Y1) 0 0 4]) := by rw [← hY3]; exact rowOf_self _ _ _ _
    have ro := O3.row
    have lt1 := O1.lt
    have O4 := O3.add (x := zadd en.key x) r3 lt1 (fun p hp => by have := O1.fresh p hp; omega)
    have zl : (zadd en.key x).length = 4 := rfl
    rw [zl] at O4
    obtain ⟨Y4, hY4⟩ : ∃ Y4, hset Y3 (hlen X + 1) (.row (g + 1) 1 (refsL L ++ [.slc (hlen Y1) 0 0 4])) = Y4 := ⟨_, rfl⟩
    rw [hY4] at O4
    have rl := refsL_len L
    have rm : (L.length + 1) * 24 ≤ room := by unfold room; omega
    have ble : (hlen X).ble (hlen X + 1) = true := by simp
    have ih := l26b X r en hr2 hx hs n (i + 1) (g + 1) (L ++ [(hlen Y1, 0, zadd en.key x)]) Y4
    rw [listsL_snoc, List.append_assoc, List.singleton_append, List.length_append, List.length_singleton] at ih
    rw [hd, List.map_cons]
    generalize listsL L ++ zadd en.key x :: (en.scores.drop (i + 1)).map (zadd en.key) = CC at *
    rw [evLoop_eq]
    generalize evLoop (evCode (ev R) R.glob (hlen X) evLoop f26l1) [1, 3, 64, 65, 66] = F at ih ⊢
    simp [-List.getD_eq_getElem?_getD, -List.map_map, evBody, evCode, evOps, evOper, evOp, opd, Env.get, Env.put, Env.keep, zipEnv, V.ok, V.sto, V.cells, D.cells, V.isAgg, binD, binInt, binStr, shInt, unD, eqOf, asI, leave, resOf, mapO, fzV, tupOf, view, view1, isData, hand, flatV, flatD, allD, mkAgg, mkVal, beq_lit, IntKind.bits, htake_self, htake_push, hget_hpush_self, hset_push, rowOf_self, okIn, lowIn, lowIn1, fzC_d, fzC_row, f26l1, g1, g3, g64, g65, g66, c, c', p, w1, hrY, ld0, st, lk, la, lb, hY2, hY3, r4, ro, rl, hY4, rm, ble, src]
    refine ih _ (by omega) (by omega) O4 ?_ ?_ ?_ ?_ ?_ <;> (first | rfl | assumption)
theorem l26c (X : Hp) (r : Nat) (en : En) (hr2 : rowOf X (r + 2) 0 = some (2, (en.fields.map prD).map V.d)) (hx : en.fields.length ≤ 16) : ∀ (n i g : Nat) (L : List Li) (Y : Hp) (e : Env), i + n = en.fields.length → L.length + n ≤ 100 → Out (bxV X r en) (hlen X + 1) Y g L → e.get 1 = .ptr (hlen X) 0 0 0 → e.get 3 = .slc (hlen X + 1) g 0 L.length → e.get 85 = .slc (r + 2) 0 0 en.fields.length → e.get 86 = .d (.int .i64 en.fields.length) → e.get 87 = .d (.int .i64 i) →
    Q26 X r en 5 (listsL L ++ (en.fields.drop i).map (hsetV en.key)) (evLoop (evCode (ev R) R.glob (hlen X) evLoop f26l2) [1, 3, 85, 86, 87] ⟨e, Y⟩)
  | 0, i, g, L, Y, e, h1, h2, hO, g1, g3, g85, g86, g87 => by
    have c : ¬ (i : Int) < (en.fields.length : Int) := by omega
    have c' : ¬ i < en.fields.length := by omega
    rw [evLoop_eq, List.drop_of_length_le (by omega), List.map_nil, List.append_nil]
    unfold Q26
    refine ⟨?_, Y, g, L, ?_, hO, rfl, ?_, ?_⟩
    rotate_left
    · simp [-List.getD_eq_getElem?_getD, -List.map_map, evBody, evCode, evOps, evOper, evOp, opd, Env.get, Env.put, Env.keep, zipEnv, V.ok, V.sto, V.cells, D.cells, V.isAgg, binD, binInt, binStr, shInt, unD, eqOf, asI, leave, resOf, mapO, fzV, tupOf, view, view1, isData, hand, flatV, flatD, allD, mkAgg, mkVal, beq_lit, IntKind.bits, htake_self, htake_push, hget_hpush_self, hset_push, rowOf_self, okIn, lowIn, lowIn1, fzC_d, fzC_row, f26l2, g1, g3, g85, g86, g87, c, c']
      try rfl
    · simp [-List.getD_eq_getElem?_getD, -List.map_map, evBody, evCode, evOps, evOper, evOp, opd, Env.get, Env.put, Env.keep, zipEnv, V.ok, V.sto, V.cells, D.cells, V.isAgg, binD, binInt, binStr, shInt, unD, eqOf, asI, leave, resOf, mapO, fzV, tupOf, view, view1, isData, hand, flatV, flatD, allD, mkAgg, mkVal, beq_lit, IntKind.bits, htake_self, htake_push, hget_hpush_self, hset_push, rowOf_self, okIn, lowIn, lowIn1, fzC_d, fzC_row, g1]
    · simp [-List.getD_eq_getElem?_getD, -List.map_map, evBody, evCode, evOps, evOper, evOp, opd, Env.get, Env.put, Env.keep, zipEnv, V.ok, V.sto, V.cells, D.cells, V.isAgg, binD, binInt, binStr, shInt, unD, eqOf, asI, leave, resOf, mapO, fzV, tupOf, view, view1, isData, hand, flatV, flatD, allD, mkAgg, mkVal, beq_lit, IntKind.bits, htake_self, htake_push, hget_hpush_self, hset_push, rowOf_self, okIn, lowIn, lowIn1, fzC_d, fzC_row, g3]
  | n + 1, i, g, L, Y, e, h1, h2, hO, g1, g3, g85, g86, g87 => by
    have c' : i < en.fields.length := by omega
    have c : (i : Int) < (en.fields.length : Int) := by omega
    have w1 : IntKind.i64.wrap ((i : Int) + 1) = ((i + 1 : Nat) : Int) := by rw [IntWalk.i64_in _ (by omega)]; rfl
    have hd : en.fields.drop i = en.fields.getD i ([], []) :: en.fields.drop (i + 1) := by
      rw [List.getD_eq_getElem?_getD, List.getElem?_eq_getElem c']
      exact List.drop_eq_getElem_cons c'
    have hlt := hO.lt
    have hrY : rowOf Y (r + 2) 0 = some (2, (en.fields.map prD).map V.d) := hO.base (rowOf_push hr2)
    have ld0 : hload Y (r + 2) 0 i 0 2 = some [.d (.str (en.fields.getD i ([], [])).1), .d (.str (en.fields.getD i ([], [])).2)] := by
      have : ((en.fields.map prD).map V.d)[i]? = some (.d (.agg [.str (en.fields.getD i ([], [])).1, .str (en.fields.getD i ([], [])).2])) := by
        simp [prD, List.getD_eq_getElem?_getD, c']
      generalize (en.fields.map prD).map V.d = vs at *
      simp [hload, hrY, this, V.cells]
    obtain ⟨x, hx'⟩ : ∃ x, en.fields.getD i ([], []) = x := ⟨_, rfl⟩
    rw [hx'] at ld0 hd
    obtain ⟨o1, ho1⟩ : ∃ o, Ev.Obj.row 0 2 [.d (.agg [.str x.1, .str x.2])] = o := ⟨_, rfl⟩
    -- the score, boxed
    obtain ⟨Y1, hY1⟩ : ∃ Y1, hpush Y o1 = Y1 := ⟨_, rfl⟩
    have st : hstore (hpush Y (.row 0 2 [.d (.agg [.str [], .str []])])) (hlen Y) 0 0 0 [.d (.str x.1), .d (.str x.2)] = some Y1 := by
      rw [← hY1, ← ho1]
      simp [hstore, rowOf_self, V.cells, D.cells, reCell, V.isAgg, mkAgg, allD, hset_push]
    have O1 : Out (bxV X r en) (hlen X + 1) Y1 g L := by rw [← hY1]; exact hO.push _
    have lk := bxV_load O1
    have la : hload Y1 (hlen Y) 0 0 0 1 = some [.d (.str x.1)] := by rw [← hY1, ← ho1]; simp [hload, rowOf_self, V.cells, D.cells]
    have lb : hload Y1 (hlen Y) 0 0 1 1 = some [.d (.str x.2)] := by rw [← hY1, ← ho1]; simp [hload, rowOf_self, V.cells, D.cells]
    -- the order, and the literal that it is added by
    obtain ⟨Y2, hY2⟩ : ∃ Y2, hpush Y1 (.row 0 1 [.d (.str [72, 83, 69, 84]), .d (.str en.key), .d (.str x.1), .d (.str x.2)]) = Y2 := ⟨_, rfl⟩
    have r2 : rowOf Y2 (hlen Y1) 0 = some (1, dat (hsetV en.key x)) := by rw [← hY2]; exact rowOf_self _ _ _ _
    have O2 : Out (bxV X r en) (hlen X + 1) Y2 g L := by rw [← hY2]; exact O1.push _
    obtain ⟨Y3, hY3⟩ : ∃ Y3, hpush Y2 (.row 0 1 [.slc (hlen Y1) 0 0 4]) = Y3 := ⟨_, rfl⟩
    have O3 : Out (bxV X r en) (hlen X + 1) Y3 g L := by rw [← hY3]; exact O2.push _
    have r3 : rowOf Y3 (hlen Y1) 0 = some (1, dat (hsetV en.key x)) := by rw [← hY3]; exact rowOf_push r2
    have r4 : rowOf Y3 (hlen Y2) 0 = some (1, [.slc (hlen Y1) 0 0 4]) := by rw [← hY3]; exact rowOf_self _ _ _ _
    have ro := O3.row
    have lt1 := O1.lt
    have O4 := O3.add (x := hsetV en.key x) r3 lt1 (fun p hp => by have := O1.fresh p hp; omega)
    have zl : (hsetV en.key x).length = 4 := rfl
    rw [zl] at O4
    obtain ⟨Y4, hY4⟩ : ∃ Y4, hset Y3 (hlen X + 1) (.row (g + 1) 1 (refsL L ++ [.slc (hlen Y1) 0 0 4])) = Y4 := ⟨_, rfl⟩
    rw [hY4] at O4
    have rl := refsL_len L
    have rm : (L.length + 1) * 24 ≤ room := by unfold room; omega
    have ble : (hlen X).ble (hlen X + 1) = true := by simp
    have ih := l26c X r en hr2 hx n (i + 1) (g + 1) (L ++ [(hlen Y1, 0, hsetV en.key x)]) Y4
    rw [listsL_snoc, List.append_assoc, List.singleton_append, List.length_append, List.length_singleton] at ih
    rw [hd, List.map_cons]
    generalize listsL L ++ hsetV en.key x :: (en.fields.drop (i + 1)).map (hsetV en.key) = CC at *
    rw [evLoop_eq]
    generalize evLoop (evCode (ev R) R.glob (hlen X) evLoop f26l2) [1, 3, 85, 86, 87] = F at ih ⊢
    simp [-List.getD_eq_getElem?_getD, -List.map_map, evBody, evCode, evOps, evOper, evOp, opd, Env.get, Env.put, Env.keep, zipEnv, V.ok, V.sto, V.cells, D.cells, V.isAgg, binD, binInt, binStr, shInt, unD, eqOf, asI, leave, resOf, mapO, fzV, tupOf, view, view1, isData, hand, flatV, flatD, allD, mkAgg, mkVal, beq_lit, IntKind.bits, htake_self, htake_push, hget_hpush_self, hset_push, rowOf_self, okIn, lowIn, lowIn1, fzC_d, fzC_row, f26l2, g1, g3, g85, g86, g87, c, c', w1, hrY, ld0, st, lk, la, lb, hY2, hY3, r4, ro, rl, hY4, rm, ble, src]
    refine ih _ (by omega) (by omega) O4 ?_ ?_ ?_ ?_ ?_ <;> (first | rfl | assumption)
end Go.Proofs.YtpmphmpaeooeeaaDoorO.Code
/- The orders that make an entry: the code under test, its chunks. -/
namespace Go.Proofs.YtpmphmpaeooeeaaDoorO.Code
open Go Go.Ev Go.Proofs
set_option maxRecDepth 100000
set_option linter.unusedSimpArgs false
set_option linter.unusedVariables false
theorem l26a (X : Hp) (r : Nat) (en : En) (hr1 : rowOf X r 0 = some (1, dat en.list)) (w : Txt) (hx : en.list.length ≤ 1000000) : ∀ (f i g : Nat) (L : List Li) (Y : Hp) (e : Env), en.list.length ≤ i + 6 * f → L.length + f ≤ 1000000 → i ≤ 2000000 → Out (bxV X r en) (hlen X + 1) Y g L → e.get 1 = .ptr (hlen X) 0 0 0 → e.get 3 = .slc (hlen X + 1) g 0 L.length → e.get 4 = .d (.str w) → e.get 5 = .d (.int .i64 i) →
    Q26 X r en 1 (listsL L ++ chunks w en.key en.list f i) (evLoop (evCode (ev R) R.glob (hlen X) evLoop f26l0) [1, 3, 4, 5] ⟨e, Y⟩)
  | f, i, g, L, Y, e, h1, h2, hi, hO, g1, g3, g4, g5 => by
    have lk := bxV_load hO
    by_cases c' : i < en.list.length
    · cases f with
      | zero => omega
      | succ f =>
        have c : (i : Int) < (en.list.length : Int) := by omega
        have hlt := hO.lt
        have hrY : rowOf Y r 0 = some (1, dat en.list) := hO.base (rowOf_push hr1)
        have hrl : r < hlen X := rowOf_lt hr1
        obtain ⟨m, hm⟩ : ∃ m, min (i + 6) en.list.length = m := ⟨_, rfl⟩
        obtain ⟨x, hxx⟩ : ∃ x, (w :: en.key :: ((en.list.take m).drop i)) = x := ⟨_, rfl⟩
        have xl : x.length = 2 + (m - i) := by rw [← hxx]; simp; omega
        obtain ⟨T, hT⟩ : ∃ T : List V, ((dat en.list).drop i).take (m - i) = T := ⟨_, rfl⟩
        have xd : dat x = .d (.str w) :: .d (.str en.key) :: T := by
          rw [← hxx, ← hT]
          simp only [dat, List.map_cons, List.map_drop, List.map_take]
          rw [List.drop_take]
        have ch : chunks w en.key en.list (f + 1) i = x :: chunks w en.key en.list f (i + 6) := by rw [chunks, if_pos c', hm, hxx]
        have dl : T.length = m - i := by rw [← hT]; simp [dat]; omega
        have al : T.all (okIn (hlen X) (hlen Y)) = true := by
          rw [← hT, List.all_eq_true]
          intro v hv
          have := List.mem_of_mem_drop (List.mem_of_mem_take hv)
          simp only [dat, List.mem_map] at this
          obtain ⟨d, _, rfl⟩ := this
          rfl
        have al' : ∀ v ∈ T, okIn (hlen X) (hlen Y) v = true := List.all_eq_true.1 al
        have fit : i + (m - i) ≤ (dat en.list).length := by simp [dat]; omega
        have fit2 : m ≤ (dat en.list).length := by simp [dat]; omega
        have lxy : hlen X ≤ hlen Y := by omega
        -- the rows that are made
        obtain ⟨X1, eX1⟩ : ∃ X1, hpush Y (.row 0 1 [.d (.str w), .d (.str en.key)]) = X1 := ⟨_, rfl⟩
        have r1 : rowOf X1 (hlen Y) 0 = some (1, [.d (.str w), .d (.str en.key)]) := by rw [← eX1]; exact rowOf_self _ _ _ _
        have hr1' : rowOf X1 r 0 = some (1, dat en.list) := by rw [← eX1]; exact rowOf_push hrY
        obtain ⟨X2, eX2⟩ : ∃ X2, hset X1 (hlen Y) (.row 1 1 (.d (.str w) :: .d (.str en.key) :: T)) = X2 := ⟨_, rfl⟩
        have eX2' : X2 = hpush Y (.row 1 1 (dat x)) := by rw [← eX2, ← eX1, hset_push, xd]
        have r2 : rowOf X2 (hlen Y) 1 = some (1, dat x) := by rw [eX2']; exact rowOf_self _ _ _ _
        have O2 : Out (bxV X r en) (hlen X + 1) X2 g L := by rw [eX2']; exact hO.push _
        obtain ⟨X3, eX3⟩ : ∃ X3, hpush X2 (.row 0 1 [.slc (hlen Y) 1 0 x.length]) = X3 := ⟨_, rfl⟩
        have O3 : Out (bxV X r en) (hlen X + 1) X3 g L := by rw [← eX3]; exact O2.push _
        have r3 : rowOf X3 (hlen Y) 1 = some (1, dat x) := by rw [← eX3]; exact rowOf_push r2
        have r4 : rowOf X3 (hlen X2) 0 = some (1, [.slc (hlen Y) 1 0 x.length]) := by rw [← eX3]; exact rowOf_self _ _ _ _
        have ro := O3.row
        have O4 := O3.add r3 hlt (fun p hp => by have := hO.fresh p hp; omega)
        obtain ⟨X4, eX4⟩ : ∃ X4, hset X3 (hlen X + 1) (.row (g + 1) 1 (refsL L ++ [.slc (hlen Y) 1 0 x.length])) = X4 := ⟨_, rfl⟩
        rw [eX4] at O4
        rw [xl] at eX3 r4 eX4
        have rl := refsL_len L
        have ih := l26a X r en hr1 w hx f (i + 6) (g + 1) (L ++ [(hlen Y, 1, x)]) X4
        rw [listsL_snoc, List.append_assoc, List.singleton_append, List.length_append, List.length_singleton] at ih
        rw [ch]
        have rm : (L.length + 1) * 24 ≤ room := by unfold room; omega
        have rm2 : (2 + (m - i)) * 16 ≤ room := by unfold room; omega
        have ble : (hlen X).ble (hlen X + 1) = true := by simp
        generalize listsL L ++ x :: chunks w en.key en.list f (i + 6) = CC at ih ⊢
        rw [evLoop_eq]
        generalize evLoop (evCode (ev R) R.glob (hlen X) evLoop f26l0) [1, 3, 4, 5] = F at ih ⊢
        generalize dat en.list = dl1 at *
        obtain ⟨I, hI⟩ : ∃ I : Int, (i : Int) = I := ⟨_, rfl⟩
        obtain ⟨I2, hI2⟩ : ∃ I : Int, ((i + 6 : Nat) : Int) = I := ⟨_, rfl⟩
        obtain ⟨N, hN⟩ : ∃ N : Int, (en.list.length : Int) = N := ⟨_, rfl⟩
        have w6 : IntKind.i64.wrap (I + 8) = I + 8 := IntWalk.i64_in _ (by omega)
        have w6' : IntKind.i64.wrap (I + 8 - 2) = I2 := by rw [IntWalk.i64_in _ (by omega)]; omega
        have w7 : IntKind.i64.wrap (I + 6) = I2 := by rw [IntWalk.i64_in _ (by omega)]; omega
        have a1 : I.toNat = i := by omega
        have a0 : 0 ≤ I := by omega
        have b0 : 0 ≤ I2 := by omega
        have n0 : 0 ≤ N := by omega
        rw [hI] at c g5
        rw [hI2] at ih
        rw [hN] at c
        by_cases d : N < I2
        · have n1 : N.toNat = m := by omega
          have n2 : I ≤ (m : Int) := by omega
          have n3 : N ≤ (en.list.length : Int) := by omega
          have n5 : i ≤ m := by omega
          simp [-List.getD_eq_getElem?_getD, -List.map_map, evBody, evCode, evOps, evOper, evOp, opd, Env.get, Env.put, Env.keep, zipEnv, V.ok, V.sto, V.cells, D.cells, V.isAgg, binD, binInt, binStr, shInt, unD, eqOf, asI, leave, resOf, mapO, fzV, tupOf, view, view1, isData, hand, flatV, flatD, allD, mkAgg, mkVal, beq_lit, IntKind.bits, htake_self, htake_push, hget_hpush_self, hset_push, rowOf_self, okIn, lowIn, lowIn1, fzC_d, fzC_row, f26l0, g1, g3, g4, g5, lk, hN, c, w6, w6', w7, mnmxL, mnmx2, d, bound, a0, a1, b0, n0, n1, n2, n3, n5, hrY, hr1', fit, fit2, lxy, hT, eX1, r1, src, eX2, eX3, r4, ro, rl, eX4, rm, rm2, ble, dl, xl, al, al']
          refine ih _ (by omega) (by omega) (by omega) O4 ?_ ?_ ?_ ?_ <;> (first | rfl | assumption)
        · have n1 : I2.toNat = m := by omega
          have n2 : I ≤ (m : Int) := by omega
          have n3 : I2 ≤ N := by omega
          have n5 : i ≤ m := by omega
          simp [-List.getD_eq_getElem?_getD, -List.map_map, evBody, evCode, evOps, evOper, evOp, opd, Env.get, Env.put, Env.keep, zipEnv, V.ok, V.sto, V.cells, D.cells, V.isAgg, binD, binInt, binStr, shInt, unD, eqOf, asI, leave, resOf, mapO, fzV, tupOf, view, view1, isData, hand, flatV, flatD, allD, mkAgg, mkVal, beq_lit, IntKind.bits, htake_self, htake_push, hget_hpush_self, hset_push, rowOf_self, okIn, lowIn, lowIn1, fzC_d, fzC_row, f26l0, g1, g3, g4, g5, lk, hN, c, w6, w6', w7, mnmxL, mnmx2, d, bound, a0, a1, b0, n0, n1, n2, n3, n5, hrY, hr1', fit, fit2, lxy, hT, eX1, r1, src, eX2, eX3, r4, ro, rl, eX4, rm, rm2, ble, dl, xl, al, al']
          refine ih _ (by omega) (by omega) (by omega) O4 ?_ ?_ ?_ ?_ <;> (first | rfl | assumption)
    · have c : ¬ (i : Int) < (en.list.length : Int) := by omega
      have e0 : chunks w en.key en.list f i = [] := by cases f <;> simp [chunks, c']
      rw [evLoop_eq, e0, List.append_nil]
      unfold Q26
      refine ⟨?_, Y, g, L, ?_, hO, rfl, ?_, ?_⟩
      rotate_left
      · simp [-List.getD_eq_getElem?_getD, -List.map_map, evBody, evCode, evOps, evOper, evOp, opd, Env.get, Env.put, Env.keep, zipEnv, V.ok, V.sto, V.cells, D.cells, V.isAgg, binD, binInt, binStr, shInt, unD, eqOf, asI, leave, resOf, mapO, fzV, tupOf, view, view1, isData, hand, flatV, flatD, allD, mkAgg, mkVal, beq_lit, IntKind.bits, htake_self, htake_push, hget_hpush_self, hset_push, rowOf_self, okIn, lowIn, lowIn1, fzC_d, fzC_row, f26l0, g1, g3, g4, g5, lk, c, c']
        try rfl
      · simp [-List.getD_eq_getElem?_getD, -List.map_map, evBody, evCode, evOps, evOper, evOp, opd, Env.get, Env.put, Env.keep, zipEnv, V.ok, V.sto, V.cells, D.cells, V.isAgg, binD, binInt, binStr, shInt, unD, eqOf, asI, leave, resOf, mapO, fzV, tupOf, view, view1, isData, hand, flatV, flatD, allD, mkAgg, mkVal, beq_lit, IntKind.bits, htake_self, htake_push, hget_hpush_self, hset_push, rowOf_self, okIn, lowIn, lowIn1, fzC_d, fzC_row, g1]
      · simp [-List.getD_eq_getElem?_getD, -List.map_map, evBody, evCode, evOps, evOper, evOp, opd, Env.get, Env.put, Env.keep, zipEnv, V.ok, V.sto, V.cells, D.cells, V.isAgg, binD, binInt, binStr, shInt, unD, eqOf, asI, leave, resOf, mapO, fzV, tupOf, view, view1, isData, hand, flatV, flatD, allD, mkAgg, mkVal, beq_lit, IntKind.bits, htake_self, htake_push, hget_hpush_self, hset_push, rowOf_self, okIn, lowIn, lowIn1, fzC_d, fzC_row, g3]
termination_by f => f
end Go.Proofs.YtpmphmpaeooeeaaDoorO.Code
/- The orders that make an entry: the whole of them, as the reference says. -/
namespace Go.Proofs.YtpmphmpaeooeeaaDoorO.Code
open Go Go.Ev Go.Proofs
set_option maxRecDepth 100000
set_option linter.unusedSimpArgs false
set_option linter.unusedVariables false
section
variable (H : Hp) (e : En)
theorem rowD_row (g : Nat) (acc : List (List Txt)) : rowOf (hpush (bx H e) (rowD g acc)) (hlen H + 1) g = some (1, (textss acc).map V.d) := by rw [← bx_len H e]; exact rowOf_self _ _ _ _
theorem rowD_add (g g' : Nat) (acc : List (List Txt)) (o : Ev.Obj) (x : List Txt) : hset (hpush (bx H e) o) (hlen H + 1) (.row g' 1 ((textss acc).map V.d ++ [.d (txts x)])) = hpush (bx H e) (rowD g' (acc ++ [x])) := by
  rw [← bx_len H e, hset_push]
  simp [rowD, textss]
theorem rowD_fz (g : Nat) (acc : List (List Txt)) : fzC (hlen H) (hpush (bx H e) (rowD g acc)) (.slc (hlen H + 1) g 0 acc.length) = some (.d (.vals 1 (textss acc))) := by
  have h := fz_row (n := hlen H) (d := 7) (i := 0) (k := acc.length) (by omega) (rowD_row H e g acc) (by simp [textss]) (ys := textss acc) (by
    rw [List.drop_zero, List.take_of_length_le (by simp [textss])]; exact mapO_d _)
  show (if hlen H + 1 < hlen H then _ else (match fz (hlen H) deep _ (.slc (hlen H + 1) g 0 acc.length) with | some x => some (V.d x) | none => none)) = _
  rw [if_neg (by omega), show deep = 7 + 1 from rfl, h]
theorem bx_take (o : Ev.Obj) : htake (hpush (bx H e) o) (hlen H) = H := by
  unfold bx
  simp [htake, hpush, hlen]
end
theorem nestH_row (X : Hp) (xss : List (List Txt)) {r g : Nat} {p : Nat × List V} (hr : rowOf X r g = some p) : rowOf (nestH X xss) r g = some p := by
  have hl := rowOf_lt hr
  unfold rowOf at hr ⊢
  have e : hget (nestH X xss) r = hget X r := by
    rw [hget_at, hget_at]
    simp only [nestH, hpush]
    simp only [hlen] at hl
    rw [List.append_assoc, List.getElem?_append_left hl]
  rw [e]; exact hr
theorem nestH_nest (H : Hp) (xss : List (List Txt)) : Nest (nestH H xss) (hlen H) xss := by
  refine ⟨fun j hj => ?_, ?_⟩
  · have e : (nestH H xss)[hlen H + j]? = some (rowT 0 (xss.getD j [])) := by
      simp only [nestH, hpush]
      rw [List.append_assoc, List.getElem?_append_right (by simp [hlen])]
      have : hlen H + j - H.length = j := by simp only [hlen]; omega
      rw [this, List.getElem?_append_left (by simpa using hj)]
      simp [List.getD_eq_getElem?_getD, hj]
    simp only [rowOf, hget_at, e, rowT_is]
    simp
  · have e : (nestH H xss)[hlen H + xss.length]? = some (.row 0 1 (refs1 (hlen H) xss)) := by
      simp only [nestH, hpush]
      rw [List.getElem?_append_right (by simp [hlen])]
      simp [hlen]
    simp only [rowOf, hget_at, e]
    simp
theorem nestH_take (X : Hp) (xss : List (List Txt)) (n : Nat) (h : n ≤ hlen X) : htake (nestH X xss) n = htake X n := by
  simp only [htake, nestH, hpush, hlen] at *
  rw [List.append_assoc, List.take_append_of_le_length h]
theorem fz_refsN {n : Nat} {X : Hp} : ∀ (xss : List (List Txt)) (k : Nat), n ≤ k → (∀ j, j < xss.length → rowOf X (k + j) 0 = some (1, dat (xss.getD j []))) → mapO (fz n 7 X) (refs1 k xss) = some (textss xss)
  | [], _, _, _ => rfl
  | x :: r, k, hk, h => by
    have h0 := h 0 (by simp)
    simp only [Nat.add_zero, List.getD_cons_zero] at h0
    have f := fz_row (n := n) (d := 6) (i := 0) (k := x.length) (by omega) h0 (by simp [dat]) (ys := x.map D.str) (by
      rw [List.drop_zero, List.take_of_length_le (by simp [dat])]; exact mapO_d _)
    have ih := fz_refsN (n := n) (X := X) r (k + 1) (by omega) (fun j hj => by
      have := h (j + 1) (by simp; omega)
      rw [show k + (j + 1) = k + 1 + j by omega, List.getD_cons_succ] at this
      exact this)
    simp only [refs1, mapO, f, ih]
    rfl
theorem mapO_append {α β : Type} (f : α → Option β) : ∀ (xs ys : List α) (us bs : List β), mapO f xs = some us → mapO f ys = some bs → mapO f (xs ++ ys) = some (us ++ bs)
  | [], ys, us, bs, h1, h2 => by
    simp only [mapO, Option.some.injEq] at h1
    subst h1
    simpa using h2
  | x :: xs, ys, us, bs, h1, h2 => by
    simp only [mapO] at h1
    split at h1
    · rename_i b hb
      split at h1
      · rename_i cs hcs
        simp only [Option.some.injEq] at h1
        subst h1
        have := mapO_append f xs ys cs bs hcs h2
        simp only [List.cons_append, mapO, hb, this]
      · simp at h1
    · simp at h1
def CF (e : En) : Prop := e.scores.length ≤ 16 ∧ (∀ i, i < e.scores.length → -1000000000 ≤ (e.scores.getD i ([], 0)).2 ∧ (e.scores.getD i ([], 0)).2 ≤ 1000000000) ∧ e.fields.length ≤ 16 ∧ e.list.length ≤ 900000 ∧ 0 ≤ e.till ∧ e.till ≤ 2000000
theorem e57_k1 (H : Hp) (e : En) (hc : CF e) (hd : e.kind = 1) : ev R 57 [.d (enD e)] H = some (.d (.vals 1 (textss (makeV e))), H) := by
  refine ev_fn (fn := f57) rfl rfl ?_
  obtain ⟨c1, c2, c3, c4, c5, c6⟩ := hc
  have p := pureCall_eq (cl := ev R) fun H => e65z H e.till (by omega)
  have eb : hpush H (.row 0 7 [.d (enD e)]) = bx H e := rfl
  simp only [enD, txts, scs, prs] at eb
  have bl := bx_len H e
  have e0 : Ev.Obj.row 0 1 [] = rowD 0 [] := rfl
  have ld := bx_load H e
  simp only [txts, scs, prs] at ld
  have r0 := rowD_row H e 0 []
  have ad0 := rowD_add H e 0 1 [] (rowD 0 []) [[83, 69, 84], e.key, e.text]
  have r1 := rowD_row H e 1 [[[83, 69, 84], e.key, e.text]]
  have ad1 := rowD_add H e 1 2 [[[83, 69, 84], e.key, e.text]] (rowD 1 [[[83, 69, 84], e.key, e.text]]) [[69, 88, 80, 73, 82, 69, 65, 84], e.key, decZ e.till]
  have f1 := rowD_fz H e 1 [[[83, 69, 84], e.key, e.text]]
  have f2 := rowD_fz H e 2 ([[[83, 69, 84], e.key, e.text]] ++ [[[69, 88, 80, 73, 82, 69, 65, 84], e.key, decZ e.till]])
  have tk := bx_take H e
  unfold makeV bodyV tillO
  rw [if_pos hd]
  simp only [List.nil_append, List.singleton_append, List.length_cons, List.length_nil, textss, List.map_nil, List.map_cons, txts] at r0 ad0 r1 ad1 f1 f2
  have rm : (1 : Nat) * 24 ≤ room := by unfold room; omega
  have rm2 : (2 : Nat) * 24 ≤ room := by unfold room; omega
  obtain ⟨B, hB⟩ : ∃ B, bx H e = B := ⟨_, rfl⟩
  rw [hB] at eb bl
  simp only [hB] at ld r0 ad0 r1 ad1 f1 f2 tk
  clear hB
  obtain ⟨key, till, kind, text, list, scores, fields⟩ := e
  simp only at *
  subst hd
  by_cases ht : till = 0
  · subst ht
    simp [-List.getD_eq_getElem?_getD, -List.map_map, evBody, evCode, evOps, evOper, evOp, opd, Env.get, Env.put, Env.keep, zipEnv, V.ok, V.sto, V.cells, D.cells, V.isAgg, binD, binInt, binStr, shInt, unD, eqOf, asI, leave, resOf, mapO, fzV, tupOf, view, view1, isData, hand, flatV, flatD, allD, mkAgg, mkVal, beq_lit, IntKind.bits, htake_self, htake_push, hget_hpush_self, hset_push, rowOf_self, okIn, lowIn, lowIn1, fzC_d, fzC_row, f57, enD, scs, prs, eb, bl, e0, ld, r0, ad0, f1, tk, textss, txts, src, rm, rm2]
  · simp [-List.getD_eq_getElem?_getD, -List.map_map, evBody, evCode, evOps, evOper, evOp, opd, Env.get, Env.put, Env.keep, zipEnv, V.ok, V.sto, V.cells, D.cells, V.isAgg, binD, binInt, binStr, shInt, unD, eqOf, asI, leave, resOf, mapO, fzV, tupOf, view, view1, isData, hand, flatV, flatD, allD, mkAgg, mkVal, beq_lit, IntKind.bits, htake_self, htake_push, hget_hpush_self, hset_push, rowOf_self, okIn, lowIn, lowIn1, fzC_d, fzC_row, f57, enD, scs, prs, eb, bl, e0, ld, r0, ad0, r1, ad1, f2, tk, ht, p, textss, txts, src, rm, rm2]
end Go.Proofs.YtpmphmpaeooeeaaDoorO.Code
/- The orders that make an entry: the whole of them, as the reference says. -/
namespace Go.Proofs.YtpmphmpaeooeeaaDoorO.Code
open Go Go.Ev Go.Proofs
set_option maxRecDepth 100000
set_option linter.unusedSimpArgs false
set_option linter.unusedVariables false
theorem e57_k4 (H : Hp) (e : En) (hc : CF e) (hd : e.kind = 4) : ev R 57 [.d (enD e)] H = some (.d (.vals 1 (textss (makeV e))), H) := by
  refine ev_fn (fn := f57) rfl rfl ?_
  obtain ⟨c1, c2, c3, c4, c5, c6⟩ := hc
  have p := pureCall_eq (cl := ev R) fun H => e65z H e.till (by omega)
  have eb : hpush H (.row 0 7 [.d (enD e)]) = bx H e := rfl
  simp only [enD, txts, scs, prs] at eb
  have bl := bx_len H e
  have e0 : Ev.Obj.row 0 1 [] = rowD 0 [] := rfl
  have ld := bx_load H e
  simp only [txts, scs, prs] at ld
  obtain ⟨e', g, he, h1, h3⟩ := l57a (hlen H) H e c1 c2 e.scores.length 0 0 [] [(1, .ptr (hlen H) 0 0 0), (3, .slc (hlen H + 1) 0 0 0), (4, .d (.int .i64 0))] (by omega) (by simp; omega) rfl rfl rfl
  rw [List.drop_zero, List.nil_append] at he h3
  have f1 := rowD_fz H e g (e.scores.map (zadd e.key))
  have r1 := rowD_row H e g (e.scores.map (zadd e.key))
  have ad1 := rowD_add H e g (g + 1) (e.scores.map (zadd e.key)) (rowD g (e.scores.map (zadd e.key))) [[69, 88, 80, 73, 82, 69, 65, 84], e.key, decZ e.till]
  have f2 := rowD_fz H e (g + 1) (e.scores.map (zadd e.key) ++ [[[69, 88, 80, 73, 82, 69, 65, 84], e.key, decZ e.till]])
  have tk := bx_take H e
  have vl : ((textss (e.scores.map (zadd e.key))).map V.d).length = (e.scores.map (zadd e.key)).length := by rw [List.length_map, textss_len]
  unfold makeV bodyV tillO
  rw [if_neg (by omega), if_neg (by omega), if_neg (by omega), if_pos hd]
  have ml : (e.scores.map (zadd e.key)).length ≤ 16 := by rw [List.length_map]; assumption
  rw [List.length_append, List.length_singleton] at f2
  generalize e.scores.map (zadd e.key) = M at *
  simp only [txts, List.map_nil, List.map_cons] at ad1
  have rm : (M.length + 1) * 24 ≤ room := by unfold room; omega
  have ml0 := textss_len M
  generalize (textss M).map V.d = vs at *
  obtain ⟨B, hB⟩ : ∃ B, bx H e = B := ⟨_, rfl⟩
  rw [hB] at eb bl he
  simp only [hB] at ld r1 ad1 f1 f2 tk
  clear hB
  obtain ⟨key, till, kind, text, list, scores, fields⟩ := e
  simp only at *
  subst hd
  by_cases ht : till = 0
  · subst ht
    rw [if_pos rfl, List.append_nil]
    simp [-List.getD_eq_getElem?_getD, -List.map_map, evBody, evCode, evOps, evOper, evOp, opd, Env.get, Env.put, Env.keep, zipEnv, V.ok, V.sto, V.cells, D.cells, V.isAgg, binD, binInt, binStr, shInt, unD, eqOf, asI, leave, resOf, mapO, fzV, tupOf, view, view1, isData, hand, flatV, flatD, allD, mkAgg, mkVal, beq_lit, IntKind.bits, htake_self, htake_push, hget_hpush_self, hset_push, rowOf_self, okIn, lowIn, lowIn1, fzC_d, fzC_row, f57, enD, scs, prs, txts, eb, bl, e0, ld, he, h1, h3, f1, tk]
  · rw [if_neg ht]
    have tz := tk (rowD (g + 1) (M ++ [[[69, 88, 80, 73, 82, 69, 65, 84], key, decZ till]]))
    generalize textss (M ++ [[[69, 88, 80, 73, 82, 69, 65, 84], key, decZ till]]) = TT at *
    generalize hpush B (rowD (g + 1) (M ++ [[[69, 88, 80, 73, 82, 69, 65, 84], key, decZ till]])) = ZZ at *
    simp [-List.getD_eq_getElem?_getD, -List.map_map, evBody, evCode, evOps, evOper, evOp, opd, Env.get, Env.put, Env.keep, zipEnv, V.ok, V.sto, V.cells, D.cells, V.isAgg, binD, binInt, binStr, shInt, unD, eqOf, asI, leave, resOf, mapO, fzV, tupOf, view, view1, isData, hand, flatV, flatD, allD, mkAgg, mkVal, beq_lit, IntKind.bits, htake_self, htake_push, hget_hpush_self, hset_push, rowOf_self, okIn, lowIn, lowIn1, fzC_d, fzC_row, f57, enD, scs, prs, txts, eb, bl, e0, ld, he, h1, h3, r1, ad1, f2, tk, tz, ht, p, src, vl, rm]
theorem e57_k5 (H : Hp) (e : En) (hc : CF e) (hd : e.kind = 5) : ev R 57 [.d (enD e)] H = some (.d (.vals 1 (textss (makeV e))), H) := by
  refine ev_fn (fn := f57) rfl rfl ?_
  obtain ⟨c1, c2, c3, c4, c5, c6⟩ := hc
  have p := pureCall_eq (cl := ev R) fun H => e65z H e.till (by omega)
  have eb : hpush H (.row 0 7 [.d (enD e)]) = bx H e := rfl
  simp only [enD, txts, scs, prs] at eb
  have bl := bx_len H e
  have e0 : Ev.Obj.row 0 1 [] = rowD 0 [] := rfl
  have ld := bx_load H e
  simp only [txts, scs, prs] at ld
  obtain ⟨e', g, he, h1, h3⟩ := l57b (hlen H) H e c3 e.fields.length 0 0 [] [(1, .ptr (hlen H) 0 0 0), (3, .slc (hlen H + 1) 0 0 0), (5, .d (.int .i64 0))] (by omega) (by simp; omega) rfl rfl rfl
  rw [List.drop_zero, List.nil_append] at he h3
  have f1 := rowD_fz H e g (e.fields.map (hsetV e.key))
  have r1 := rowD_row H e g (e.fields.map (hsetV e.key))
  have ad1 := rowD_add H e g (g + 1) (e.fields.map (hsetV e.key)) (rowD g (e.fields.map (hsetV e.key))) [[69, 88, 80, 73, 82, 69, 65, 84], e.key, decZ e.till]
  have f2 := rowD_fz H e (g + 1) (e.fields.map (hsetV e.key) ++ [[[69, 88, 80, 73, 82, 69, 65, 84], e.key, decZ e.till]])
  have tk := bx_take H e
  have vl : ((textss (e.fields.map (hsetV e.key))).map V.d).length = (e.fields.map (hsetV e.key)).length := by rw [List.length_map, textss_len]
  unfold makeV bodyV tillO
  rw [if_neg (by omega), if_neg (by omega), if_neg (by omega), if_neg (by omega), if_pos hd]
  have ml : (e.fields.map (hsetV e.key)).length ≤ 16 := by rw [List.length_map]; assumption
  rw [List.length_append, List.length_singleton] at f2
  generalize e.fields.map (hsetV e.key) = M at *
  simp only [txts, List.map_nil, List.map_cons] at ad1
  have rm : (M.length + 1) * 24 ≤ room := by unfold room; omega
  have ml0 := textss_len M
  generalize (textss M).map V.d = vs at *
  obtain ⟨B, hB⟩ : ∃ B, bx H e = B := ⟨_, rfl⟩
  rw [hB] at eb bl he
  simp only [hB] at ld r1 ad1 f1 f2 tk
  clear hB
  obtain ⟨key, till, kind, text, list, scores, fields⟩ := e
  simp only at *
  subst hd
  by_cases ht : till = 0
  · subst ht
    rw [if_pos rfl, List.append_nil]
    simp [-List.getD_eq_getElem?_getD, -List.map_map, evBody, evCode, evOps, evOper, evOp, opd, Env.get, Env.put, Env.keep, zipEnv, V.ok, V.sto, V.cells, D.cells, V.isAgg, binD, binInt, binStr, shInt, unD, eqOf, asI, leave, resOf, mapO, fzV, tupOf, view, view1, isData, hand, flatV, flatD, allD, mkAgg, mkVal, beq_lit, IntKind.bits, htake_self, htake_push, hget_hpush_self, hset_push, rowOf_self, okIn, lowIn, lowIn1, fzC_d, fzC_row, f57, enD, scs, prs, txts, eb, bl, e0, ld, he, h1, h3, f1, tk]
  · rw [if_neg ht]
    have tz := tk (rowD (g + 1) (M ++ [[[69, 88, 80, 73, 82, 69, 65, 84], key, decZ till]]))
    generalize textss (M ++ [[[69, 88, 80, 73, 82, 69, 65, 84], key, decZ till]]) = TT at *
    generalize hpush B (rowD (g + 1) (M ++ [[[69, 88, 80, 73, 82, 69, 65, 84], key, decZ till]])) = ZZ at *
    simp [-List.getD_eq_getElem?_getD, -List.map_map, evBody, evCode, evOps, evOper, evOp, opd, Env.get, Env.put, Env.keep, zipEnv, V.ok, V.sto, V.cells, D.cells, V.isAgg, binD, binInt, binStr, shInt, unD, eqOf, asI, leave, resOf, mapO, fzV, tupOf, view, view1, isData, hand, flatV, flatD, allD, mkAgg, mkVal, beq_lit, IntKind.bits, htake_self, htake_push, hget_hpush_self, hset_push, rowOf_self, okIn, lowIn, lowIn1, fzC_d, fzC_row, f57, enD, scs, prs, txts, eb, bl, e0, ld, he, h1, h3, r1, ad1, f2, tk, tz, ht, p, src, vl, rm]
end Go.Proofs.YtpmphmpaeooeeaaDoorO.Code
/- The orders that make an entry: lists and sets, as the reference says; and the reference whole. -/
namespace Go.Proofs.YtpmphmpaeooeeaaDoorO.Code
open Go Go.Ev Go.Proofs
set_option maxRecDepth 100000
set_option linter.unusedSimpArgs false
set_option linter.unusedVariables false
theorem box_load {H N : Hp} {e : En} (hr : rowOf N (hlen H) 0 = some (7, [.d (enD e)])) (j n : Nat) : hload N (hlen H) 0 0 j n = if j + n ≤ 7 then some ((([.d (.str e.key), .d (.int .i64 e.till), .d (.int .i64 e.kind), .d (.str e.text), .d (txts e.list), .d (scs e.scores), .d (prs e.fields)] : List V).drop j).take n) else none := by
  simp [hload, hr, enD, V.cells, D.cells]
theorem nest_fz {n k : Nat} {N : Hp} {M : List (List Txt)} (h : Nest N k M) (hk : n ≤ k) : fzC n N (.slc (k + M.length) 0 0 M.length) = some (.d (.vals 1 (textss M))) := by
  have f := fz_row (n := n) (d := 7) (i := 0) (k := M.length) (by omega) h.2 (by rw [refs1_len]; omega) (ys := textss M) (by
    rw [List.drop_zero, List.take_of_length_le (by rw [refs1_len]; omega)]; exact fz_refsN M k hk h.1)
  show (if k + M.length < n then _ else (match fz n deep _ (.slc (k + M.length) 0 0 M.length) with | some x => some (V.d x) | none => none)) = _
  rw [if_neg (by omega), show deep = 7 + 1 from rfl, f]
theorem nest_fz1 {n k : Nat} {N : Hp} {M : List (List Txt)} (h : Nest N k M) (hk : n ≤ k) (x : List Txt) : fzC n (hset N (k + M.length) (.row 1 1 (refs1 k M ++ [.d (txts x)]))) (.slc (k + M.length) 1 0 (M.length + 1)) = some (.d (.vals 1 (textss (M ++ [x])))) := by
  have hl := rowOf_lt h.2
  have hr : rowOf (hset N (k + M.length) (.row 1 1 (refs1 k M ++ [.d (txts x)]))) (k + M.length) 1 = some (1, refs1 k M ++ [.d (txts x)]) := rowOf_hset_self _ _ _ hl
  have f0 := fz_refsN (n := n) (X := hset N (k + M.length) (.row 1 1 (refs1 k M ++ [.d (txts x)]))) M k hk (fun j hj => by rw [rowOf_hset_ne _ (by omega)]; exact h.1 j hj)
  have f := fz_row (n := n) (d := 7) (i := 0) (k := M.length + 1) (by omega) hr (by simp [refs1_len]) (ys := textss (M ++ [x])) (by
    rw [List.drop_zero, List.take_of_length_le (by simp [refs1_len])]
    rw [show textss (M ++ [x]) = textss M ++ [txts x] by simp [textss]]
    exact mapO_append _ _ _ _ _ f0 rfl)
  show (if k + M.length < n then _ else (match fz n deep _ (.slc (k + M.length) 1 0 (M.length + 1)) with | some x => some (V.d x) | none => none)) = _
  rw [if_neg (by omega), show deep = 7 + 1 from rfl, f]
theorem chunks_len (w k : Txt) (xs : List Txt) : ∀ (f i : Nat), (chunks w k xs f i).length ≤ f
  | 0, _ => by simp [chunks]
  | f + 1, i => by
    rw [chunks]
    split
    · have := chunks_len w k xs f (i + 6)
      rw [List.length_cons]; omega
    · simp
theorem e57_k2 (H : Hp) (e : En) (hc : CF e) (hd : e.kind = 2) : ev R 57 [.d (enD e)] H = some (.d (.vals 1 (textss (makeV e))), H) := by
  refine ev_fn (fn := f57) rfl rfl ?_
  obtain ⟨c1, c2, c3, c4, c5, c6⟩ := hc
  have p := pureCall_eq (cl := ev R) fun H => e65z H e.till (by omega)
  have eb : hpush H (.row 0 7 [.d (enD e)]) = bx H e := rfl
  simp only [enD, txts, scs, prs] at eb
  have bl := bx_len H e
  have e0 : Ev.Obj.row 0 1 [] = rowD 0 [] := rfl
  have ld := bx_load H e
  have hb : rowOf (hpush (bx H e) (rowD 0 [])) (hlen H) 0 = some (7, [.d (enD e)]) := rowOf_push (rowOf_self _ _ _ _)
  have q := e84 (hpush (bx H e) (rowD 0 [])) [82, 80, 85, 83, 72] e.key e.list c4
  have tk0 := bx_take H e (rowD 0 [])
  have l0 : hlen (hpush (bx H e) (rowD 0 [])) = hlen H + 2 := by rw [hlen_hpush, bx_len]
  have ml : (manyV [82, 80, 85, 83, 72] e.key e.list).length ≤ 900000 := Nat.le_trans (chunks_len _ _ _ _ _) c4
  unfold makeV bodyV tillO
  rw [if_neg (by omega), if_pos hd]
  generalize manyV [82, 80, 85, 83, 72] e.key e.list = M at *
  obtain ⟨X0, hX0⟩ : ∃ X0, hpush (bx H e) (rowD 0 []) = X0 := ⟨_, rfl⟩
  have ld0 := ld (rowD 0 [])
  rw [hX0] at hb q tk0 l0 ld0
  have nn := nestH_nest X0 M
  have hbN := nestH_row X0 M hb
  have tkN := nestH_take X0 M (hlen H) (by omega)
  rw [tk0] at tkN
  obtain ⟨N, hN⟩ : ∃ N, nestH X0 M = N := ⟨_, rfl⟩
  rw [hN] at q nn hbN tkN
  have ldN := box_load hbN
  have f1 := nest_fz nn (show hlen H ≤ hlen X0 by omega)
  have f2 := nest_fz1 nn (show hlen H ≤ hlen X0 by omega) [[69, 88, 80, 73, 82, 69, 65, 84], e.key, decZ e.till]
  have rN := nn.2
  have rl := refs1_len M (hlen X0)
  obtain ⟨N2, hN2⟩ : ∃ N2, hset N (hlen X0 + M.length) (.row 1 1 (refs1 (hlen X0) M ++ [.d (txts [[69, 88, 80, 73, 82, 69, 65, 84], e.key, decZ e.till])])) = N2 := ⟨_, rfl⟩
  have tk2 : htake N2 (hlen H) = H := by
    rw [← hN2, htake_hset_le _ (by omega)]; exact tkN
  rw [hN2] at f2
  have rm : (M.length + 1) * 24 ≤ room := by unfold room; omega
  generalize hlen X0 + M.length = K at *
  generalize refs1 (hlen X0) M = vs at *
  simp only [txts, scs, prs, List.map_cons, List.map_nil] at ld0 ldN q hN2
  rw [eb.symm] at hX0
  clear nn hb hbN hN ld l0 bl tk0
  obtain ⟨key, till, kind, text, list, scores, fields⟩ := e
  simp only at *
  subst hd
  by_cases ht : till = 0
  · subst ht
    rw [if_pos rfl, List.append_nil]
    generalize textss M = TT at *
    simp [-List.getD_eq_getElem?_getD, -List.map_map, evBody, evCode, evOps, evOper, evOp, opd, Env.get, Env.put, Env.keep, zipEnv, V.ok, V.sto, V.cells, D.cells, V.isAgg, binD, binInt, binStr, shInt, unD, eqOf, asI, leave, resOf, mapO, fzV, tupOf, view, view1, isData, hand, flatV, flatD, allD, mkAgg, mkVal, beq_lit, IntKind.bits, htake_self, htake_push, hget_hpush_self, hset_push, rowOf_self, okIn, lowIn, lowIn1, fzC_d, fzC_row, f57, enD, scs, prs, txts, e0, hX0, ld0, q, ldN, f1, tkN]
  · rw [if_neg ht]
    generalize textss (M ++ [[[69, 88, 80, 73, 82, 69, 65, 84], key, decZ till]]) = TT at *
    simp [-List.getD_eq_getElem?_getD, -List.map_map, evBody, evCode, evOps, evOper, evOp, opd, Env.get, Env.put, Env.keep, zipEnv, V.ok, V.sto, V.cells, D.cells, V.isAgg, binD, binInt, binStr, shInt, unD, eqOf, asI, leave, resOf, mapO, fzV, tupOf, view, view1, isData, hand, flatV, flatD, allD, mkAgg, mkVal, beq_lit, IntKind.bits, htake_self, htake_push, hget_hpush_self, hset_push, rowOf_self, okIn, lowIn, lowIn1, fzC_d, fzC_row, f57, enD, scs, prs, txts, e0, hX0, ld0, q, ldN, f2, tk2, ht, p, src, rN, rl, hN2, rm]
theorem e57_k3 (H : Hp) (e : En) (hc : CF e) (hd : e.kind = 3) : ev R 57 [.d (enD e)] H = some (.d (.vals 1 (textss (makeV e))), H) := by
  refine ev_fn (fn := f57) rfl rfl ?_
  obtain ⟨c1, c2, c3, c4, c5, c6⟩ := hc
  have p := pureCall_eq (cl := ev R) fun H => e65z H e.till (by omega)
  have eb : hpush H (.row 0 7 [.d (enD e)]) = bx H e := rfl
  simp only [enD, txts, scs, prs] at eb
  have bl := bx_len H e
  have e0 : Ev.Obj.row 0 1 [] = rowD 0 [] := rfl
  have ld := bx_load H e
  have hb : rowOf (hpush (bx H e) (rowD 0 [])) (hlen H) 0 = some (7, [.d (enD e)]) := rowOf_push (rowOf_self _ _ _ _)
  have q := e84 (hpush (bx H e) (rowD 0 [])) [83, 65, 68, 68] e.key e.list c4
  have tk0 := bx_take H e (rowD 0 [])
  have l0 : hlen (hpush (bx H e) (rowD 0 [])) = hlen H + 2 := by rw [hlen_hpush, bx_len]
  have ml : (manyV [83, 65, 68, 68] e.key e.list).length ≤ 900000 := Nat.le_trans (chunks_len _ _ _ _ _) c4
  unfold makeV bodyV tillO
  rw [if_neg (by omega), if_neg (by omega), if_pos hd]
  generalize manyV [83, 65, 68, 68] e.key e.list = M at *
  obtain ⟨X0, hX0⟩ : ∃ X0, hpush (bx H e) (rowD 0 []) = X0 := ⟨_, rfl⟩
  have ld0 := ld (rowD 0 [])
  rw [hX0] at hb q tk0 l0 ld0
  have nn := nestH_nest X0 M
  have hbN := nestH_row X0 M hb
  have tkN := nestH_take X0 M (hlen H) (by omega)
  rw [tk0] at tkN
  obtain ⟨N, hN⟩ : ∃ N, nestH X0 M = N := ⟨_, rfl⟩
  rw [hN] at q nn hbN tkN
  have ldN := box_load hbN
  have f1 := nest_fz nn (show hlen H ≤ hlen X0 by omega)
  have f2 := nest_fz1 nn (show hlen H ≤ hlen X0 by omega) [[69, 88, 80, 73, 82, 69, 65, 84], e.key, decZ e.till]
  have rN := nn.2
  have rl := refs1_len M (hlen X0)
  obtain ⟨N2, hN2⟩ : ∃ N2, hset N (hlen X0 + M.length) (.row 1 1 (refs1 (hlen X0) M ++ [.d (txts [[69, 88, 80, 73, 82, 69, 65, 84], e.key, decZ e.till])])) = N2 := ⟨_, rfl⟩
  have tk2 : htake N2 (hlen H) = H := by
    rw [← hN2, htake_hset_le _ (by omega)]; exact tkN
  rw [hN2] at f2
  have rm : (M.length + 1) * 24 ≤ room := by unfold room; omega
  generalize hlen X0 + M.length = K at *
  generalize refs1 (hlen X0) M = vs at *
  simp only [txts, scs, prs, List.map_cons, List.map_nil] at ld0 ldN q hN2
  rw [eb.symm] at hX0
  clear nn hb hbN hN ld l0 bl tk0
  obtain ⟨key, till, kind, text, list, scores, fields⟩ := e
  simp only at *
  subst hd
  by_cases ht : till = 0
  · subst ht
    rw [if_pos rfl, List.append_nil]
    generalize textss M = TT at *
    simp [-List.getD_eq_getElem?_getD, -List.map_map, evBody, evCode, evOps, evOper, evOp, opd, Env.get, Env.put, Env.keep, zipEnv, V.ok, V.sto, V.cells, D.cells, V.isAgg, binD, binInt, binStr, shInt, unD, eqOf, asI, leave, resOf, mapO, fzV, tupOf, view, view1, isData, hand, flatV, flatD, allD, mkAgg, mkVal, beq_lit, IntKind.bits, htake_self, htake_push, hget_hpush_self, hset_push, rowOf_self, okIn, lowIn, lowIn1, fzC_d, fzC_row, f57, enD, scs, prs, txts, e0, hX0, ld0, q, ldN, f1, tkN]
  · rw [if_neg ht]
    generalize textss (M ++ [[[69, 88, 80, 73, 82, 69, 65, 84], key, decZ till]]) = TT at *
    simp [-List.getD_eq_getElem?_getD, -List.map_map, evBody, evCode, evOps, evOper, evOp, opd, Env.get, Env.put, Env.keep, zipEnv, V.ok, V.sto, V.cells, D.cells, V.isAgg, binD, binInt, binStr, shInt, unD, eqOf, asI, leave, resOf, mapO, fzV, tupOf, view, view1, isData, hand, flatV, flatD, allD, mkAgg, mkVal, beq_lit, IntKind.bits, htake_self, htake_push, hget_hpush_self, hset_push, rowOf_self, okIn, lowIn, lowIn1, fzC_d, fzC_row, f57, enD, scs, prs, txts, e0, hX0, ld0, q, ldN, f2, tk2, ht, p, src, rN, rl, hN2, rm]
end Go.Proofs.YtpmphmpaeooeeaaDoorO.Code
/- The reference's orders of an entry. -/
namespace Go.Proofs.YtpmphmpaeooeeaaDoorO.Code
open Go Go.Ev Go.Proofs
set_option maxRecDepth 100000
set_option linter.unusedSimpArgs false
set_option linter.unusedVariables false
theorem anyF_false {p : Nat → Bool} : ∀ {n i : Nat}, anyF p n i = false → ∀ k, i ≤ k → k < i + n → p k = false
  | 0, i, h, k, h1, h2 => by omega
  | n + 1, i, h, k, h1, h2 => by
    simp only [anyF, Bool.or_eq_false_iff] at h
    by_cases e : k = i
    · subst e; exact h.1
    · exact anyF_false h.2 k (by omega) (by omega)
theorem scores_in {xs : List Sc} (h : scoresV xs = true) : xs.length ≤ 16 ∧ ∀ i, i < xs.length → -1000000000 ≤ (xs.getD i ([], 0)).2 ∧ (xs.getD i ([], 0)).2 ≤ 1000000000 := by
  unfold scoresV at h
  simp only [Bool.and_eq_true, Bool.not_eq_true', decide_eq_true_eq] at h
  refine ⟨h.2, fun i hi => ?_⟩
  have hb := anyF_false h.1 i (by omega) (by omega)
  unfold badSc at hb
  simp only [Bool.or_eq_false_iff] at hb
  have := hb.1.1.2
  simp only [Bool.not_eq_false', Bool.and_eq_true, decide_eq_true_eq] at this
  omega
theorem enOk_cf {e : En} (h : enOk e = true) (hl : e.list.length ≤ 900000) : CF e ∧ (e.kind = 1 ∨ e.kind = 2 ∨ e.kind = 3 ∨ e.kind = 4 ∨ e.kind = 5) := by
  unfold enOk tillV kindV at h
  simp only [Bool.and_eq_true, decide_eq_true_eq] at h
  obtain ⟨⟨_, h1, h2⟩, h3⟩ := h
  unfold CF
  have em : ∀ {α : Type} {l : List α}, l.isEmpty = true → l.length = 0 := fun {α l} h => by cases l <;> simp_all
  have none : e.scores.isEmpty = true → e.scores.length ≤ 16 ∧ ∀ i, i < e.scores.length → -1000000000 ≤ (e.scores.getD i ([], 0)).2 ∧ (e.scores.getD i ([], 0)).2 ≤ 1000000000 := fun h => by
    have := em h
    exact ⟨by omega, fun i hi => by omega⟩
  split at h3
  · rename_i k
    simp only [Bool.and_eq_true, decide_eq_true_eq] at h3
    obtain ⟨⟨⟨a, b⟩, c⟩, d⟩ := h3
    exact ⟨⟨(none c).1, (none c).2, by have := em d; omega, hl, h1, h2⟩, by omega⟩
  · split at h3
    · simp only [Bool.and_eq_true] at h3
      obtain ⟨⟨⟨⟨a, b⟩, c⟩, d⟩, f⟩ := h3
      exact ⟨⟨(none d).1, (none d).2, by have := em f; omega, hl, h1, h2⟩, by omega⟩
    · split at h3
      · simp only [Bool.and_eq_true] at h3
        obtain ⟨⟨⟨⟨a, b⟩, c⟩, d⟩, f⟩ := h3
        exact ⟨⟨(none d).1, (none d).2, by have := em f; omega, hl, h1, h2⟩, by omega⟩
      · split at h3
        · simp only [Bool.and_eq_true] at h3
          obtain ⟨⟨⟨⟨a, b⟩, c⟩, d⟩, f⟩ := h3
          exact ⟨⟨(scores_in d).1, (scores_in d).2, by have := em f; omega, hl, h1, h2⟩, by omega⟩
        · split at h3
          · simp only [Bool.and_eq_true] at h3
            obtain ⟨⟨⟨⟨a, b⟩, c⟩, d⟩, f⟩ := h3
            have : e.fields.length ≤ 16 := by
              unfold fieldsV at f
              simp only [Bool.and_eq_true, decide_eq_true_eq] at f
              exact f.2
            exact ⟨⟨(none c).1, (none c).2, this, hl, h1, h2⟩, by omega⟩
          · simp at h3
theorem e57 (H : Hp) (e : En) (h : enOk e = true) (hl : e.list.length ≤ 900000) : ev R 57 [.d (enD e)] H = some (.d (.vals 1 (textss (makeV e))), H) := by
  obtain ⟨hc, k | k | k | k | k⟩ := enOk_cf h hl
  · exact e57_k1 H e hc k
  · exact e57_k2 H e hc k
  · exact e57_k3 H e hc k
  · exact e57_k4 H e hc k
  · exact e57_k5 H e hc k
/-- The orders of an entry. -/
def ordersV (e : En) : List (List Txt) := if enOk e = true then makeV e else []
theorem e24 (H : Hp) (e : En) (hf : EnFit e) (hl : e.list.length ≤ 900000) : ev R 24 [.d (enD e)] H = some (.d (.vals 1 (textss (ordersV e))), H) := by
  refine ev_fn (fn := f24) rfl rfl ?_
  have p1 := pureCall_eq (cl := ev R) fun H => e56 H e hf
  have hr : rowOf (hpush H (.row 0 7 [.d (enD e)])) (hlen H) 0 = some (7, [.d (enD e)]) := rowOf_self _ _ _ _
  have ld := box_load hr 0 7
  simp only [enD] at p1 hr ld
  unfold ordersV
  by_cases hk : enOk e = true
  · rw [if_pos hk]
    rw [hk] at p1
    have p2 := pureCall_eq (cl := ev R) fun H => e57 H e hk hl
    simp only [enD] at p2
    generalize textss (makeV e) = T at *
    simp [-List.getD_eq_getElem?_getD, -List.map_map, evBody, evCode, evOps, evOper, evOp, opd, Env.get, Env.put, Env.keep, zipEnv, V.ok, V.sto, V.cells, D.cells, V.isAgg, binD, binInt, binStr, shInt, unD, eqOf, asI, leave, resOf, mapO, fzV, tupOf, view, view1, isData, hand, flatV, flatD, allD, mkAgg, mkVal, beq_lit, IntKind.bits, htake_self, htake_push, hget_hpush_self, hset_push, rowOf_self, okIn, lowIn, lowIn1, fzC_d, fzC_row, f24, enD, p1, p2, ld]
  · rw [if_neg hk]
    rw [Bool.not_eq_true] at hk
    rw [hk] at p1
    simp [-List.getD_eq_getElem?_getD, -List.map_map, evBody, evCode, evOps, evOper, evOp, opd, Env.get, Env.put, Env.keep, zipEnv, V.ok, V.sto, V.cells, D.cells, V.isAgg, binD, binInt, binStr, shInt, unD, eqOf, asI, leave, resOf, mapO, fzV, tupOf, view, view1, isData, hand, flatV, flatD, allD, mkAgg, mkVal, beq_lit, IntKind.bits, htake_self, htake_push, hget_hpush_self, hset_push, rowOf_self, okIn, lowIn, lowIn1, fzC_d, fzC_row, f24, enD, p1, ld, textss]
end Go.Proofs.YtpmphmpaeooeeaaDoorO.Code
/- Which entries may be: what the code under test says. -/
namespace Go.Proofs.YtpmphmpaeooeeaaDoorO.Code
open Go Go.Ev Go.Proofs
set_option maxRecDepth 100000
set_option linter.unusedSimpArgs false
set_option linter.unusedVariables false
theorem e60_no (H : Hp) (e : En) (hf : EnFit e) (hk : keyV e.key = false ∨ tillV e.till = false) : ev R 60 [.d (enD e)] H = some (.d (.bool (enOk e)), H) := by
  refine ev_fn (fn := f60) rfl rfl ?_
  have pk : pureCall (ev R) 87 [.d (.str e.key)] = some (.d (.bool (keyV e.key))) := pureCall_eq (cl := ev R) fun H => e87 H e.key
  have pt : pureCall (ev R) 34 [.d (.int .i64 e.till), .d (.int .i64 0), .d (.int .i64 2000000)] = some (.d (.bool (tillV e.till))) := p34 e.till 0 2000000
  have p80 := pureCall_eq (cl := ev R) fun H => e88 H e.list hf.list
  have p81 := pureCall_eq (cl := ev R) fun H => e89 H e.list hf.list
  have p82 := pureCall_eq (cl := ev R) fun H => e90 H e.scores hf.scores
  have p83 := pureCall_eq (cl := ev R) fun H => e91 H e.fields hf.fields
  have x0 : (e.text = []) = (e.text.isEmpty = true) := by simp
  have y1 : ((e.list.length : Int) = 0) = (e.list.isEmpty = true) := by cases e.list <;> simp <;> try omega
  have z1 : (0 < (e.list.length : Int)) = (e.list.isEmpty = false) := by cases e.list <;> simp <;> try omega
  have y2 : ((e.scores.length : Int) = 0) = (e.scores.isEmpty = true) := by cases e.scores <;> simp <;> try omega
  have z2 : (0 < (e.scores.length : Int)) = (e.scores.isEmpty = false) := by cases e.scores <;> simp <;> try omega
  have y3 : ((e.fields.length : Int) = 0) = (e.fields.isEmpty = true) := by cases e.fields <;> simp <;> try omega
  have z3 : (0 < (e.fields.length : Int)) = (e.fields.isEmpty = false) := by cases e.fields <;> simp <;> try omega
  have l1 : ((e.list.map D.str).length : Int) = (e.list.length : Int) := by simp
  have l2 : ((e.scores.map scD).length : Int) = (e.scores.length : Int) := by simp
  have l3 : ((e.fields.map prD).length : Int) = (e.fields.length : Int) := by simp
  have xl : ((e.text.length : Int) ≤ 40) = (decide (e.text.length ≤ 40) = true) := by simp; omega
  have ld : ∀ j n, hload (hpush H (.row 0 7 [.d (.agg [.str e.key, .int .i64 e.till, .int .i64 e.kind, .str e.text, txts e.list, scs e.scores, prs e.fields])])) (hlen H) 0 0 j n = if j + n ≤ 7 then some ((([.d (.str e.key), .d (.int .i64 e.till), .d (.int .i64 e.kind), .d (.str e.text), .d (txts e.list), .d (scs e.scores), .d (prs e.fields)] : List V).drop j).take n) else none := fun j n => by
    simp [hload, rowOf_self, V.cells, D.cells]
  have tk := htake_push H (.row 0 7 [.d (.agg [.str e.key, .int .i64 e.till, .int .i64 e.kind, .str e.text, txts e.list, scs e.scores, prs e.fields])])
  unfold enOk kindV
  unfold enD
  simp only [txts, scs, prs] at *
  obtain ⟨key, till, kind, text, list, scores, fields⟩ := e
  simp only at *
  generalize keyV key = KV at *
  generalize tillV till = TV at *
  obtain ⟨Y, eY⟩ : ∃ Y, hpush H (.row 0 7 [.d (.agg [.str key, .int .i64 till, .int .i64 kind, .str text, .vals 1 (list.map D.str), .vals 2 (scores.map scD), .vals 2 (fields.map prD)])]) = Y := ⟨_, rfl⟩
  rw [eY] at ld tk
  generalize list.map D.str = d1 at *
  generalize scores.map scD = d2 at *
  generalize fields.map prD = d3 at *
  generalize (list.length : Int) = n1 at *
  generalize (scores.length : Int) = n2 at *
  generalize (fields.length : Int) = n3 at *
  generalize okTexts list = P80 at *
  generalize setV list = P81 at *
  generalize scoresV scores = P82 at *
  generalize fieldsV fields = P83 at *
  generalize text.isEmpty = B0 at *
  generalize list.isEmpty = B1 at *
  generalize scores.isEmpty = B2 at *
  generalize fields.isEmpty = B3 at *
  generalize decide (text.length ≤ 40) = C at *
  cases KV with
  | false => simp [-List.getD_eq_getElem?_getD, -List.map_map, evBody, evCode, evOps, evOper, evOp, opd, Env.get, Env.put, Env.keep, zipEnv, V.ok, V.sto, V.cells, D.cells, V.isAgg, binD, binInt, binStr, shInt, unD, eqOf, asI, leave, resOf, mapO, fzV, tupOf, view, view1, isData, hand, flatV, flatD, allD, mkAgg, mkVal, beq_lit, IntKind.bits, htake_self, htake_push, hget_hpush_self, hset_push, rowOf_self, okIn, lowIn, lowIn1, fzC_d, fzC_row, f60, eY, pk, pt, ld, tk, l1, l2, l3, xl]
  | true =>
    cases TV with
    | false => simp [-List.getD_eq_getElem?_getD, -List.map_map, evBody, evCode, evOps, evOper, evOp, opd, Env.get, Env.put, Env.keep, zipEnv, V.ok, V.sto, V.cells, D.cells, V.isAgg, binD, binInt, binStr, shInt, unD, eqOf, asI, leave, resOf, mapO, fzV, tupOf, view, view1, isData, hand, flatV, flatD, allD, mkAgg, mkVal, beq_lit, IntKind.bits, htake_self, htake_push, hget_hpush_self, hset_push, rowOf_self, okIn, lowIn, lowIn1, fzC_d, fzC_row, f60, eY, pk, pt, ld, tk, l1, l2, l3, xl]
    | true => simp at hk
set_option maxHeartbeats 800000 in
theorem e60_k1 (H : Hp) (e : En) (hf : EnFit e) (hk : keyV e.key = true) (ht : tillV e.till = true) (hd : e.kind = 1) : ev R 60 [.d (enD e)] H = some (.d (.bool (enOk e)), H) := by
  refine ev_fn (fn := f60) rfl rfl ?_
  have pk : pureCall (ev R) 87 [.d (.str e.key)] = some (.d (.bool (keyV e.key))) := pureCall_eq (cl := ev R) fun H => e87 H e.key
  have pt : pureCall (ev R) 34 [.d (.int .i64 e.till), .d (.int .i64 0), .d (.int .i64 2000000)] = some (.d (.bool (tillV e.till))) := p34 e.till 0 2000000
  have p80 := pureCall_eq (cl := ev R) fun H => e88 H e.list hf.list
  have p81 := pureCall_eq (cl := ev R) fun H => e89 H e.list hf.list
  have p82 := pureCall_eq (cl := ev R) fun H => e90 H e.scores hf.scores
  have p83 := pureCall_eq (cl := ev R) fun H => e91 H e.fields hf.fields
  have x0 : (e.text = []) = (e.text.isEmpty = true) := by simp
  have y1 : ((e.list.length : Int) = 0) = (e.list.isEmpty = true) := by cases e.list <;> simp <;> try omega
  have z1 : (0 < (e.list.length : Int)) = (e.list.isEmpty = false) := by cases e.list <;> simp <;> try omega
  have y2 : ((e.scores.length : Int) = 0) = (e.scores.isEmpty = true) := by cases e.scores <;> simp <;> try omega
  have z2 : (0 < (e.scores.length : Int)) = (e.scores.isEmpty = false) := by cases e.scores <;> simp <;> try omega
  have y3 : ((e.fields.length : Int) = 0) = (e.fields.isEmpty = true) := by cases e.fields <;> simp <;> try omega
  have z3 : (0 < (e.fields.length : Int)) = (e.fields.isEmpty = false) := by cases e.fields <;> simp <;> try omega
  have l1 : ((e.list.map D.str).length : Int) = (e.list.length : Int) := by simp
  have l2 : ((e.scores.map scD).length : Int) = (e.scores.length : Int) := by simp
  have l3 : ((e.fields.map prD).length : Int) = (e.fields.length : Int) := by simp
  have xl : ((e.text.length : Int) ≤ 40) = (decide (e.text.length ≤ 40) = true) := by simp; omega
  have ld : ∀ j n, hload (hpush H (.row 0 7 [.d (.agg [.str e.key, .int .i64 e.till, .int .i64 e.kind, .str e.text, txts e.list, scs e.scores, prs e.fields])])) (hlen H) 0 0 j n = if j + n ≤ 7 then some ((([.d (.str e.key), .d (.int .i64 e.till), .d (.int .i64 e.kind), .d (.str e.text), .d (txts e.list), .d (scs e.scores), .d (prs e.fields)] : List V).drop j).take n) else none := fun j n => by
    simp [hload, rowOf_self, V.cells, D.cells]
  have tk := htake_push H (.row 0 7 [.d (.agg [.str e.key, .int .i64 e.till, .int .i64 e.kind, .str e.text, txts e.list, scs e.scores, prs e.fields])])
  unfold enOk kindV
  unfold enD
  simp only [txts, scs, prs] at *
  obtain ⟨key, till, kind, text, list, scores, fields⟩ := e
  simp only at *
  generalize keyV key = KV at *
  generalize tillV till = TV at *
  obtain ⟨Y, eY⟩ : ∃ Y, hpush H (.row 0 7 [.d (.agg [.str key, .int .i64 till, .int .i64 kind, .str text, .vals 1 (list.map D.str), .vals 2 (scores.map scD), .vals 2 (fields.map prD)])]) = Y := ⟨_, rfl⟩
  rw [eY] at ld tk
  generalize list.map D.str = d1 at *
  generalize scores.map scD = d2 at *
  generalize fields.map prD = d3 at *
  generalize (list.length : Int) = n1 at *
  generalize (scores.length : Int) = n2 at *
  generalize (fields.length : Int) = n3 at *
  generalize okTexts list = P80 at *
  generalize setV list = P81 at *
  generalize scoresV scores = P82 at *
  generalize fieldsV fields = P83 at *
  generalize text.isEmpty = B0 at *
  generalize list.isEmpty = B1 at *
  generalize scores.isEmpty = B2 at *
  generalize fields.isEmpty = B3 at *
  generalize decide (text.length ≤ 40) = C at *
  subst hk ht hd
  cases C with
  | false => simp [-List.getD_eq_getElem?_getD, -List.map_map, evBody, evCode, evOps, evOper, evOp, opd, Env.get, Env.put, Env.keep, zipEnv, V.ok, V.sto, V.cells, D.cells, V.isAgg, binD, binInt, binStr, shInt, unD, eqOf, asI, leave, resOf, mapO, fzV, tupOf, view, view1, isData, hand, flatV, flatD, allD, mkAgg, mkVal, beq_lit, IntKind.bits, htake_self, htake_push, hget_hpush_self, hset_push, rowOf_self, okIn, lowIn, lowIn1, fzC_d, fzC_row, f60, eY, pk, pt, ld, tk, l1, l2, l3, xl, x0, y1, z1, y2, z2, y3, z3]
  | true =>
    cases B1 with
    | false => simp [-List.getD_eq_getElem?_getD, -List.map_map, evBody, evCode, evOps, evOper, evOp, opd, Env.get, Env.put, Env.keep, zipEnv, V.ok, V.sto, V.cells, D.cells, V.isAgg, binD, binInt, binStr, shInt, unD, eqOf, asI, leave, resOf, mapO, fzV, tupOf, view, view1, isData, hand, flatV, flatD, allD, mkAgg, mkVal, beq_lit, IntKind.bits, htake_self, htake_push, hget_hpush_self, hset_push, rowOf_self, okIn, lowIn, lowIn1, fzC_d, fzC_row, f60, eY, pk, pt, ld, tk, l1, l2, l3, xl, x0, y1, z1, y2, z2, y3, z3]
    | true =>
      cases B2 with
      | false => simp [-List.getD_eq_getElem?_getD, -List.map_map, evBody, evCode, evOps, evOper, evOp, opd, Env.get, Env.put, Env.keep, zipEnv, V.ok, V.sto, V.cells, D.cells, V.isAgg, binD, binInt, binStr, shInt, unD, eqOf, asI, leave, resOf, mapO, fzV, tupOf, view, view1, isData, hand, flatV, flatD, allD, mkAgg, mkVal, beq_lit, IntKind.bits, htake_self, htake_push, hget_hpush_self, hset_push, rowOf_self, okIn, lowIn, lowIn1, fzC_d, fzC_row, f60, eY, pk, pt, ld, tk, l1, l2, l3, xl, x0, y1, z1, y2, z2, y3, z3]
      | true =>
        cases B3 with
        | false => simp [-List.getD_eq_getElem?_getD, -List.map_map, evBody, evCode, evOps, evOper, evOp, opd, Env.get, Env.put, Env.keep, zipEnv, V.ok, V.sto, V.cells, D.cells, V.isAgg, binD, binInt, binStr, shInt, unD, eqOf, asI, leave, resOf, mapO, fzV, tupOf, view, view1, isData, hand, flatV, flatD, allD, mkAgg, mkVal, beq_lit, IntKind.bits, htake_self, htake_push, hget_hpush_self, hset_push, rowOf_self, okIn, lowIn, lowIn1, fzC_d, fzC_row, f60, eY, pk, pt, ld, tk, l1, l2, l3, xl, x0, y1, z1, y2, z2, y3, z3]
        | true =>
          simp [-List.getD_eq_getElem?_getD, -List.map_map, evBody, evCode, evOps, evOper, evOp, opd, Env.get, Env.put, Env.keep, zipEnv, V.ok, V.sto, V.cells, D.cells, V.isAgg, binD, binInt, binStr, shInt, unD, eqOf, asI, leave, resOf, mapO, fzV, tupOf, view, view1, isData, hand, flatV, flatD, allD, mkAgg, mkVal, beq_lit, IntKind.bits, htake_self, htake_push, hget_hpush_self, hset_push, rowOf_self, okIn, lowIn, lowIn1, fzC_d, fzC_row, f60, eY, pk, pt, ld, tk, l1, l2, l3, xl, x0, y1, z1, y2, z2, y3, z3]
set_option maxHeartbeats 800000 in
theorem e60_k2 (H : Hp) (e : En) (hf : EnFit e) (hk : keyV e.key = true) (ht : tillV e.till = true) (hd : e.kind = 2) : ev R 60 [.d (enD e)] H = some (.d (.bool (enOk e)), H) := by
  refine ev_fn (fn := f60) rfl rfl ?_
  have pk : pureCall (ev R) 87 [.d (.str e.key)] = some (.d (.bool (keyV e.key))) := pureCall_eq (cl := ev R) fun H => e87 H e.key
  have pt : pureCall (ev R) 34 [.d (.int .i64 e.till), .d (.int .i64 0), .d (.int .i64 2000000)] = some (.d (.bool (tillV e.till))) := p34 e.till 0 2000000
  have p80 := pureCall_eq (cl := ev R) fun H => e88 H e.list hf.list
  have p81 := pureCall_eq (cl := ev R) fun H => e89 H e.list hf.list
  have p82 := pureCall_eq (cl := ev R) fun H => e90 H e.scores hf.scores
  have p83 := pureCall_eq (cl := ev R) fun H => e91 H e.fields hf.fields
  have x0 : (e.text = []) = (e.text.isEmpty = true) := by simp
  have y1 : ((e.list.length : Int) = 0) = (e.list.isEmpty = true) := by cases e.list <;> simp <;> try omega
  have z1 : (0 < (e.list.length : Int)) = (e.list.isEmpty = false) := by cases e.list <;> simp <;> try omega
  have y2 : ((e.scores.length : Int) = 0) = (e.scores.isEmpty = true) := by cases e.scores <;> simp <;> try omega
  have z2 : (0 < (e.scores.length : Int)) = (e.scores.isEmpty = false) := by cases e.scores <;> simp <;> try omega
  have y3 : ((e.fields.length : Int) = 0) = (e.fields.isEmpty = true) := by cases e.fields <;> simp <;> try omega
  have z3 : (0 < (e.fields.length : Int)) = (e.fields.isEmpty = false) := by cases e.fields <;> simp <;> try omega
  have l1 : ((e.list.map D.str).length : Int) = (e.list.length : Int) := by simp
  have l2 : ((e.scores.map scD).length : Int) = (e.scores.length : Int) := by simp
  have l3 : ((e.fields.map prD).length : Int) = (e.fields.length : Int) := by simp
  have xl : ((e.text.length : Int) ≤ 40) = (decide (e.text.length ≤ 40) = true) := by simp; omega
  have ld : ∀ j n, hload (hpush H (.row 0 7 [.d (.agg [.str e.key, .int .i64 e.till, .int .i64 e.kind, .str e.text, txts e.list, scs e.scores, prs e.fields])])) (hlen H) 0 0 j n = if j + n ≤ 7 then some ((([.d (.str e.key), .d (.int .i64 e.till), .d (.int .i64 e.kind), .d (.str e.text), .d (txts e.list), .d (scs e.scores), .d (prs e.fields)] : List V).drop j).take n) else none := fun j n => by
    simp [hload, rowOf_self, V.cells, D.cells]
  have tk := htake_push H (.row 0 7 [.d (.agg [.str e.key, .int .i64 e.till, .int .i64 e.kind, .str e.text, txts e.list, scs e.scores, prs e.fields])])
  unfold enOk kindV
  unfold enD
  simp only [txts, scs, prs] at *
  obtain ⟨key, till, kind, text, list, scores, fields⟩ := e
  simp only at *
  generalize keyV key = KV at *
  generalize tillV till = TV at *
  obtain ⟨Y, eY⟩ : ∃ Y, hpush H (.row 0 7 [.d (.agg [.str key, .int .i64 till, .int .i64 kind, .str text, .vals 1 (list.map D.str), .vals 2 (scores.map scD), .vals 2 (fields.map prD)])]) = Y := ⟨_, rfl⟩
  rw [eY] at ld tk
  generalize list.map D.str = d1 at *
  generalize scores.map scD = d2 at *
  generalize fields.map prD = d3 at *
  generalize (list.length : Int) = n1 at *
  generalize (scores.length : Int) = n2 at *
  generalize (fields.length : Int) = n3 at *
  generalize okTexts list = P80 at *
  generalize setV list = P81 at *
  generalize scoresV scores = P82 at *
  generalize fieldsV fields = P83 at *
  generalize text.isEmpty = B0 at *
  generalize list.isEmpty = B1 at *
  generalize scores.isEmpty = B2 at *
  generalize fields.isEmpty = B3 at *
  generalize decide (text.length ≤ 40) = C at *
  subst hk ht hd
  cases B1 with
  | true => simp [-List.getD_eq_getElem?_getD, -List.map_map, evBody, evCode, evOps, evOper, evOp, opd, Env.get, Env.put, Env.keep, zipEnv, V.ok, V.sto, V.cells, D.cells, V.isAgg, binD, binInt, binStr, shInt, unD, eqOf, asI, leave, resOf, mapO, fzV, tupOf, view, view1, isData, hand, flatV, flatD, allD, mkAgg, mkVal, beq_lit, IntKind.bits, htake_self, htake_push, hget_hpush_self, hset_push, rowOf_self, okIn, lowIn, lowIn1, fzC_d, fzC_row, f60, eY, pk, pt, ld, tk, l1, l2, l3, xl, x0, y1, z1, y2, z2, y3, z3, p80]
  | false =>
    cases P80 with
    | false => simp [-List.getD_eq_getElem?_getD, -List.map_map, evBody, evCode, evOps, evOper, evOp, opd, Env.get, Env.put, Env.keep, zipEnv, V.ok, V.sto, V.cells, D.cells, V.isAgg, binD, binInt, binStr, shInt, unD, eqOf, asI, leave, resOf, mapO, fzV, tupOf, view, view1, isData, hand, flatV, flatD, allD, mkAgg, mkVal, beq_lit, IntKind.bits, htake_self, htake_push, hget_hpush_self, hset_push, rowOf_self, okIn, lowIn, lowIn1, fzC_d, fzC_row, f60, eY, pk, pt, ld, tk, l1, l2, l3, xl, x0, y1, z1, y2, z2, y3, z3, p80]
    | true =>
      cases B0 with
      | false => simp [-List.getD_eq_getElem?_getD, -List.map_map, evBody, evCode, evOps, evOper, evOp, opd, Env.get, Env.put, Env.keep, zipEnv, V.ok, V.sto, V.cells, D.cells, V.isAgg, binD, binInt, binStr, shInt, unD, eqOf, asI, leave, resOf, mapO, fzV, tupOf, view, view1, isData, hand, flatV, flatD, allD, mkAgg, mkVal, beq_lit, IntKind.bits, htake_self, htake_push, hget_hpush_self, hset_push, rowOf_self, okIn, lowIn, lowIn1, fzC_d, fzC_row, f60, eY, pk, pt, ld, tk, l1, l2, l3, xl, x0, y1, z1, y2, z2, y3, z3, p80]
      | true =>
        cases B2 with
        | false => simp [-List.getD_eq_getElem?_getD, -List.map_map, evBody, evCode, evOps, evOper, evOp, opd, Env.get, Env.put, Env.keep, zipEnv, V.ok, V.sto, V.cells, D.cells, V.isAgg, binD, binInt, binStr, shInt, unD, eqOf, asI, leave, resOf, mapO, fzV, tupOf, view, view1, isData, hand, flatV, flatD, allD, mkAgg, mkVal, beq_lit, IntKind.bits, htake_self, htake_push, hget_hpush_self, hset_push, rowOf_self, okIn, lowIn, lowIn1, fzC_d, fzC_row, f60, eY, pk, pt, ld, tk, l1, l2, l3, xl, x0, y1, z1, y2, z2, y3, z3, p80]
        | true =>
          cases B3 with
          | false => simp [-List.getD_eq_getElem?_getD, -List.map_map, evBody, evCode, evOps, evOper, evOp, opd, Env.get, Env.put, Env.keep, zipEnv, V.ok, V.sto, V.cells, D.cells, V.isAgg, binD, binInt, binStr, shInt, unD, eqOf, asI, leave, resOf, mapO, fzV, tupOf, view, view1, isData, hand, flatV, flatD, allD, mkAgg, mkVal, beq_lit, IntKind.bits, htake_self, htake_push, hget_hpush_self, hset_push, rowOf_self, okIn, lowIn, lowIn1, fzC_d, fzC_row, f60, eY, pk, pt, ld, tk, l1, l2, l3, xl, x0, y1, z1, y2, z2, y3, z3, p80]
          | true =>
            simp [-List.getD_eq_getElem?_getD, -List.map_map, evBody, evCode, evOps, evOper, evOp, opd, Env.get, Env.put, Env.keep, zipEnv, V.ok, V.sto, V.cells, D.cells, V.isAgg, binD, binInt, binStr, shInt, unD, eqOf, asI, leave, resOf, mapO, fzV, tupOf, view, view1, isData, hand, flatV, flatD, allD, mkAgg, mkVal, beq_lit, IntKind.bits, htake_self, htake_push, hget_hpush_self, hset_push, rowOf_self, okIn, lowIn, lowIn1, fzC_d, fzC_row, f60, eY, pk, pt, ld, tk, l1, l2, l3, xl, x0, y1, z1, y2, z2, y3, z3, p80]
set_option maxHeartbeats 800000 in
theorem e60_k3 (H : Hp) (e : En) (hf : EnFit e) (hk : keyV e.key = true) (ht : tillV e.till = true) (hd : e.kind = 3) : ev R 60 [.d (enD e)] H = some (.d (.bool (enOk e)), H) := by
  refine ev_fn (fn := f60) rfl rfl ?_
  have pk : pureCall (ev R) 87 [.d (.str e.key)] = some (.d (.bool (keyV e.key))) := pureCall_eq (cl := ev R) fun H => e87 H e.key
  have pt : pureCall (ev R) 34 [.d (.int .i64 e.till), .d (.int .i64 0), .d (.int .i64 2000000)] = some (.d (.bool (tillV e.till))) := p34 e.till 0 2000000
  have p80 := pureCall_eq (cl := ev R) fun H => e88 H e.list hf.list
  have p81 := pureCall_eq (cl := ev R) fun H => e89 H e.list hf.list
  have p82 := pureCall_eq (cl := ev R) fun H => e90 H e.scores hf.scores
  have p83 := pureCall_eq (cl := ev R) fun H => e91 H e.fields hf.fields
  have x0 : (e.text = []) = (e.text.isEmpty = true) := by simp
  have y1 : ((e.list.length : Int) = 0) = (e.list.isEmpty = true) := by cases e.list <;> simp <;> try omega
  have z1 : (0 < (e.list.length : Int)) = (e.list.isEmpty = false) := by cases e.list <;> simp <;> try omega
  have y2 : ((e.scores.length : Int) = 0) = (e.scores.isEmpty = true) := by cases e.scores <;> simp <;> try omega
  have z2 : (0 < (e.scores.length : Int)) = (e.scores.isEmpty = false) := by cases e.scores <;> simp <;> try omega
  have y3 : ((e.fields.length : Int) = 0) = (e.fields.isEmpty = true) := by cases e.fields <;> simp <;> try omega
  have z3 : (0 < (e.fields.length : Int)) = (e.fields.isEmpty = false) := by cases e.fields <;> simp <;> try omega
  have l1 : ((e.list.map D.str).length : Int) = (e.list.length : Int) := by simp
  have l2 : ((e.scores.map scD).length : Int) = (e.scores.length : Int) := by simp
  have l3 : ((e.fields.map prD).length : Int) = (e.fields.length : Int) := by simp
  have xl : ((e.text.length : Int) ≤ 40) = (decide (e.text.length ≤ 40) = true) := by simp; omega
  have ld : ∀ j n, hload (hpush H (.row 0 7 [.d (.agg [.str e.key, .int .i64 e.till, .int .i64 e.kind, .str e.text, txts e.list, scs e.scores, prs e.fields])])) (hlen H) 0 0 j n = if j + n ≤ 7 then some ((([.d (.str e.key), .d (.int .i64 e.till), .d (.int .i64 e.kind), .d (.str e.text), .d (txts e.list), .d (scs e.scores), .d (prs e.fields)] : List V).drop j).take n) else none := fun j n => by
    simp [hload, rowOf_self, V.cells, D.cells]
  have tk := htake_push H (.row 0 7 [.d (.agg [.str e.key, .int .i64 e.till, .int .i64 e.kind, .str e.text, txts e.list, scs e.scores, prs e.fields])])
  unfold enOk kindV
  unfold enD
  simp only [txts, scs, prs] at *
  obtain ⟨key, till, kind, text, list, scores, fields⟩ := e
  simp only at *
  generalize keyV key = KV at *
  generalize tillV till = TV at *
  obtain ⟨Y, eY⟩ : ∃ Y, hpush H (.row 0 7 [.d (.agg [.str key, .int .i64 till, .int .i64 kind, .str text, .vals 1 (list.map D.str), .vals 2 (scores.map scD), .vals 2 (fields.map prD)])]) = Y := ⟨_, rfl⟩
  rw [eY] at ld tk
  generalize list.map D.str = d1 at *
  generalize scores.map scD = d2 at *
  generalize fields.map prD = d3 at *
  generalize (list.length : Int) = n1 at *
  generalize (scores.length : Int) = n2 at *
  generalize (fields.length : Int) = n3 at *
  generalize okTexts list = P80 at *
  generalize setV list = P81 at *
  generalize scoresV scores = P82 at *
  generalize fieldsV fields = P83 at *
  generalize text.isEmpty = B0 at *
  generalize list.isEmpty = B1 at *
  generalize scores.isEmpty = B2 at *
  generalize fields.isEmpty = B3 at *
  generalize decide (text.length ≤ 40) = C at *
  subst hk ht hd
  cases B1 with
  | true => simp [-List.getD_eq_getElem?_getD, -List.map_map, evBody, evCode, evOps, evOper, evOp, opd, Env.get, Env.put, Env.keep, zipEnv, V.ok, V.sto, V.cells, D.cells, V.isAgg, binD, binInt, binStr, shInt, unD, eqOf, asI, leave, resOf, mapO, fzV, tupOf, view, view1, isData, hand, flatV, flatD, allD, mkAgg, mkVal, beq_lit, IntKind.bits, htake_self, htake_push, hget_hpush_self, hset_push, rowOf_self, okIn, lowIn, lowIn1, fzC_d, fzC_row, f60, eY, pk, pt, ld, tk, l1, l2, l3, xl, x0, y1, z1, y2, z2, y3, z3, p81]
  | false =>
    cases P81 with
    | false => simp [-List.getD_eq_getElem?_getD, -List.map_map, evBody, evCode, evOps, evOper, evOp, opd, Env.get, Env.put, Env.keep, zipEnv, V.ok, V.sto, V.cells, D.cells, V.isAgg, binD, binInt, binStr, shInt, unD, eqOf, asI, leave, resOf, mapO, fzV, tupOf, view, view1, isData, hand, flatV, flatD, allD, mkAgg, mkVal, beq_lit, IntKind.bits, htake_self, htake_push, hget_hpush_self, hset_push, rowOf_self, okIn, lowIn, lowIn1, fzC_d, fzC_row, f60, eY, pk, pt, ld, tk, l1, l2, l3, xl, x0, y1, z1, y2, z2, y3, z3, p81]
    | true =>
      cases B0 with
      | false => simp [-List.getD_eq_getElem?_getD, -List.map_map, evBody, evCode, evOps, evOper, evOp, opd, Env.get, Env.put, Env.keep, zipEnv, V.ok, V.sto, V.cells, D.cells, V.isAgg, binD, binInt, binStr, shInt, unD, eqOf, asI, leave, resOf, mapO, fzV, tupOf, view, view1, isData, hand, flatV, flatD, allD, mkAgg, mkVal, beq_lit, IntKind.bits, htake_self, htake_push, hget_hpush_self, hset_push, rowOf_self, okIn, lowIn, lowIn1, fzC_d, fzC_row, f60, eY, pk, pt, ld, tk, l1, l2, l3, xl, x0, y1, z1, y2, z2, y3, z3, p81]
      | true =>
        cases B2 with
        | false => simp [-List.getD_eq_getElem?_getD, -List.map_map, evBody, evCode, evOps, evOper, evOp, opd, Env.get, Env.put, Env.keep, zipEnv, V.ok, V.sto, V.cells, D.cells, V.isAgg, binD, binInt, binStr, shInt, unD, eqOf, asI, leave, resOf, mapO, fzV, tupOf, view, view1, isData, hand, flatV, flatD, allD, mkAgg, mkVal, beq_lit, IntKind.bits, htake_self, htake_push, hget_hpush_self, hset_push, rowOf_self, okIn, lowIn, lowIn1, fzC_d, fzC_row, f60, eY, pk, pt, ld, tk, l1, l2, l3, xl, x0, y1, z1, y2, z2, y3, z3, p81]
        | true =>
          cases B3 with
          | false => simp [-List.getD_eq_getElem?_getD, -List.map_map, evBody, evCode, evOps, evOper, evOp, opd, Env.get, Env.put, Env.keep, zipEnv, V.ok, V.sto, V.cells, D.cells, V.isAgg, binD, binInt, binStr, shInt, unD, eqOf, asI, leave, resOf, mapO, fzV, tupOf, view, view1, isData, hand, flatV, flatD, allD, mkAgg, mkVal, beq_lit, IntKind.bits, htake_self, htake_push, hget_hpush_self, hset_push, rowOf_self, okIn, lowIn, lowIn1, fzC_d, fzC_row, f60, eY, pk, pt, ld, tk, l1, l2, l3, xl, x0, y1, z1, y2, z2, y3, z3, p81]
          | true =>
            simp [-List.getD_eq_getElem?_getD, -List.map_map, evBody, evCode, evOps, evOper, evOp, opd, Env.get, Env.put, Env.keep, zipEnv, V.ok, V.sto, V.cells, D.cells, V.isAgg, binD, binInt, binStr, shInt, unD, eqOf, asI, leave, resOf, mapO, fzV, tupOf, view, view1, isData, hand, flatV, flatD, allD, mkAgg, mkVal, beq_lit, IntKind.bits, htake_self, htake_push, hget_hpush_self, hset_push, rowOf_self, okIn, lowIn, lowIn1, fzC_d, fzC_row, f60, eY, pk, pt, ld, tk, l1, l2, l3, xl, x0, y1, z1, y2, z2, y3, z3, p81]
set_option maxHeartbeats 800000 in
theorem e60_k4 (H : Hp) (e : En) (hf : EnFit e) (hk : keyV e.key = true) (ht : tillV e.till = true) (hd : e.kind = 4) : ev R 60 [.d (enD e)] H = some (.d (.bool (enOk e)), H) := by
  refine ev_fn (fn := f60) rfl rfl ?_
  have pk : pureCall (ev R) 87 [.d (.str e.key)] = some (.d (.bool (keyV e.key))) := pureCall_eq (cl := ev R) fun H => e87 H e.key
  have pt : pureCall (ev R) 34 [.d (.int .i64 e.till), .d (.int .i64 0), .d (.int .i64 2000000)] = some (.d (.bool (tillV e.till))) := p34 e.till 0 2000000
  have p80 := pureCall_eq (cl := ev R) fun H => e88 H e.list hf.list
  have p81 := pureCall_eq (cl := ev R) fun H => e89 H e.list hf.list
  have p82 := pureCall_eq (cl := ev R) fun H => e90 H e.scores hf.scores
  have p83 := pureCall_eq (cl := ev R) fun H => e91 H e.fields hf.fields
  have x0 : (e.text = []) = (e.text.isEmpty = true) := by simp
  have y1 : ((e.list.length : Int) = 0) = (e.list.isEmpty = true) := by cases e.list <;> simp <;> try omega
  have z1 : (0 < (e.list.length : Int)) = (e.list.isEmpty = false) := by cases e.list <;> simp <;> try omega
  have y2 : ((e.scores.length : Int) = 0) = (e.scores.isEmpty = true) := by cases e.scores <;> simp <;> try omega
  have z2 : (0 < (e.scores.length : Int)) = (e.scores.isEmpty = false) := by cases e.scores <;> simp <;> try omega
  have y3 : ((e.fields.length : Int) = 0) = (e.fields.isEmpty = true) := by cases e.fields <;> simp <;> try omega
  have z3 : (0 < (e.fields.length : Int)) = (e.fields.isEmpty = false) := by cases e.fields <;> simp <;> try omega
  have l1 : ((e.list.map D.str).length : Int) = (e.list.length : Int) := by simp
  have l2 : ((e.scores.map scD).length : Int) = (e.scores.length : Int) := by simp
  have l3 : ((e.fields.map prD).length : Int) = (e.fields.length : Int) := by simp
  have xl : ((e.text.length : Int) ≤ 40) = (decide (e.text.length ≤ 40) = true) := by simp; omega
  have ld : ∀ j n, hload (hpush H (.row 0 7 [.d (.agg [.str e.key, .int .i64 e.till, .int .i64 e.kind, .str e.text, txts e.list, scs e.scores, prs e.fields])])) (hlen H) 0 0 j n = if j + n ≤ 7 then some ((([.d (.str e.key), .d (.int .i64 e.till), .d (.int .i64 e.kind), .d (.str e.text), .d (txts e.list), .d (scs e.scores), .d (prs e.fields)] : List V).drop j).take n) else none := fun j n => by
    simp [hload, rowOf_self, V.cells, D.cells]
  have tk := htake_push H (.row 0 7 [.d (.agg [.str e.key, .int .i64 e.till, .int .i64 e.kind, .str e.text, txts e.list, scs e.scores, prs e.fields])])
  unfold enOk kindV
  unfold enD
  simp only [txts, scs, prs] at *
  obtain ⟨key, till, kind, text, list, scores, fields⟩ := e
  simp only at *
  generalize keyV key = KV at *
  generalize tillV till = TV at *
  obtain ⟨Y, eY⟩ : ∃ Y, hpush H (.row 0 7 [.d (.agg [.str key, .int .i64 till, .int .i64 kind, .str text, .vals 1 (list.map D.str), .vals 2 (scores.map scD), .vals 2 (fields.map prD)])]) = Y := ⟨_, rfl⟩
  rw [eY] at ld tk
  generalize list.map D.str = d1 at *
  generalize scores.map scD = d2 at *
  generalize fields.map prD = d3 at *
  generalize (list.length : Int) = n1 at *
  generalize (scores.length : Int) = n2 at *
  generalize (fields.length : Int) = n3 at *
  generalize okTexts list = P80 at *
  generalize setV list = P81 at *
  generalize scoresV scores = P82 at *
  generalize fieldsV fields = P83 at *
  generalize text.isEmpty = B0 at *
  generalize list.isEmpty = B1 at *
  generalize scores.isEmpty = B2 at *
  generalize fields.isEmpty = B3 at *
  generalize decide (text.length ≤ 40) = C at *
  subst hk ht hd
  cases B2 with
  | true => simp [-List.getD_eq_getElem?_getD, -List.map_map, evBody, evCode, evOps, evOper, evOp, opd, Env.get, Env.put, Env.keep, zipEnv, V.ok, V.sto, V.cells, D.cells, V.isAgg, binD, binInt, binStr, shInt, unD, eqOf, asI, leave, resOf, mapO, fzV, tupOf, view, view1, isData, hand, flatV, flatD, allD, mkAgg, mkVal, beq_lit, IntKind.bits, htake_self, htake_push, hget_hpush_self, hset_push, rowOf_self, okIn, lowIn, lowIn1, fzC_d, fzC_row, f60, eY, pk, pt, ld, tk, l1, l2, l3, xl, x0, y1, z1, y2, z2, y3, z3, p82]
  | false =>
    cases P82 with
    | false => simp [-List.getD_eq_getElem?_getD, -List.map_map, evBody, evCode, evOps, evOper, evOp, opd, Env.get, Env.put, Env.keep, zipEnv, V.ok, V.sto, V.cells, D.cells, V.isAgg, binD, binInt, binStr, shInt, unD, eqOf, asI, leave, resOf, mapO, fzV, tupOf, view, view1, isData, hand, flatV, flatD, allD, mkAgg, mkVal, beq_lit, IntKind.bits, htake_self, htake_push, hget_hpush_self, hset_push, rowOf_self, okIn, lowIn, lowIn1, fzC_d, fzC_row, f60, eY, pk, pt, ld, tk, l1, l2, l3, xl, x0, y1, z1, y2, z2, y3, z3, p82]
    | true =>
      cases B0 with
      | false => simp [-List.getD_eq_getElem?_getD, -List.map_map, evBody, evCode, evOps, evOper, evOp, opd, Env.get, Env.put, Env.keep, zipEnv, V.ok, V.sto, V.cells, D.cells, V.isAgg, binD, binInt, binStr, shInt, unD, eqOf, asI, leave, resOf, mapO, fzV, tupOf, view, view1, isData, hand, flatV, flatD, allD, mkAgg, mkVal, beq_lit, IntKind.bits, htake_self, htake_push, hget_hpush_self, hset_push, rowOf_self, okIn, lowIn, lowIn1, fzC_d, fzC_row, f60, eY, pk, pt, ld, tk, l1, l2, l3, xl, x0, y1, z1, y2, z2, y3, z3, p82]
      | true =>
        cases B1 with
        | false => simp [-List.getD_eq_getElem?_getD, -List.map_map, evBody, evCode, evOps, evOper, evOp, opd, Env.get, Env.put, Env.keep, zipEnv, V.ok, V.sto, V.cells, D.cells, V.isAgg, binD, binInt, binStr, shInt, unD, eqOf, asI, leave, resOf, mapO, fzV, tupOf, view, view1, isData, hand, flatV, flatD, allD, mkAgg, mkVal, beq_lit, IntKind.bits, htake_self, htake_push, hget_hpush_self, hset_push, rowOf_self, okIn, lowIn, lowIn1, fzC_d, fzC_row, f60, eY, pk, pt, ld, tk, l1, l2, l3, xl, x0, y1, z1, y2, z2, y3, z3, p82]
        | true =>
          cases B3 with
          | false => simp [-List.getD_eq_getElem?_getD, -List.map_map, evBody, evCode, evOps, evOper, evOp, opd, Env.get, Env.put, Env.keep, zipEnv, V.ok, V.sto, V.cells, D.cells, V.isAgg, binD, binInt, binStr, shInt, unD, eqOf, asI, leave, resOf, mapO, fzV, tupOf, view, view1, isData, hand, flatV, flatD, allD, mkAgg, mkVal, beq_lit, IntKind.bits, htake_self, htake_push, hget_hpush_self, hset_push, rowOf_self, okIn, lowIn, lowIn1, fzC_d, fzC_row, f60, eY, pk, pt, ld, tk, l1, l2, l3, xl, x0, y1, z1, y2, z2, y3, z3, p82]
          | true =>
            simp [-List.getD_eq_getElem?_getD, -List.map_map, evBody, evCode, evOps, evOper, evOp, opd, Env.get, Env.put, Env.keep, zipEnv, V.ok, V.sto, V.cells, D.cells, V.isAgg, binD, binInt, binStr, shInt, unD, eqOf, asI, leave, resOf, mapO, fzV, tupOf, view, view1, isData, hand, flatV, flatD, allD, mkAgg, mkVal, beq_lit, IntKind.bits, htake_self, htake_push, hget_hpush_self, hset_push, rowOf_self, okIn, lowIn, lowIn1, fzC_d, fzC_row, f60, eY, pk, pt, ld, tk, l1, l2, l3, xl, x0, y1, z1, y2, z2, y3, z3, p82]
set_option maxHeartbeats 800000 in
theorem e60_k5 (H : Hp) (e : En) (hf : EnFit e) (hk : keyV e.key = true) (ht : tillV e.till = true) (hd : e.kind = 5) : ev R 60 [.d (enD e)] H = some (.d (.bool (enOk e)), H) := by
  refine ev_fn (fn := f60) rfl rfl ?_
  have pk : pureCall (ev R) 87 [.d (.str e.key)] = some (.d (.bool (keyV e.key))) := pureCall_eq (cl := ev R) fun H => e87 H e.key
  have pt : pureCall (ev R) 34 [.d (.int .i64 e.till), .d (.int .i64 0), .d (.int .i64 2000000)] = some (.d (.bool (tillV e.till))) := p34 e.till 0 2000000
  have p80 := pureCall_eq (cl := ev R) fun H => e88 H e.list hf.list
  have p81 := pureCall_eq (cl := ev R) fun H => e89 H e.list hf.list
  have p82 := pureCall_eq (cl := ev R) fun H => e90 H e.scores hf.scores
  have p83 := pureCall_eq (cl := ev R) fun H => e91 H e.fields hf.fields
  have x0 : (e.text = []) = (e.text.isEmpty = true) := by simp
  have y1 : ((e.list.length : Int) = 0) = (e.list.isEmpty = true) := by cases e.list <;> simp <;> try omega
  have z1 : (0 < (e.list.length : Int)) = (e.list.isEmpty = false) := by cases e.list <;> simp <;> try omega
  have y2 : ((e.scores.length : Int) = 0) = (e.scores.isEmpty = true) := by cases e.scores <;> simp <;> try omega
  have z2 : (0 < (e.scores.length : Int)) = (e.scores.isEmpty = false) := by cases e.scores <;> simp <;> try omega
  have y3 : ((e.fields.length : Int) = 0) = (e.fields.isEmpty = true) := by cases e.fields <;> simp <;> try omega
  have z3 : (0 < (e.fields.length : Int)) = (e.fields.isEmpty = false) := by cases e.fields <;> simp <;> try omega
  have l1 : ((e.list.map D.str).length : Int) = (e.list.length : Int) := by simp
  have l2 : ((e.scores.map scD).length : Int) = (e.scores.length : Int) := by simp
  have l3 : ((e.fields.map prD).length : Int) = (e.fields.length : Int) := by simp
  have xl : ((e.text.length : Int) ≤ 40) = (decide (e.text.length ≤ 40) = true) := by simp; omega
  have ld : ∀ j n, hload (hpush H (.row 0 7 [.d (.agg [.str e.key, .int .i64 e.till, .int .i64 e.kind, .str e.text, txts e.list, scs e.scores, prs e.fields])])) (hlen H) 0 0 j n = if j + n ≤ 7 then some ((([.d (.str e.key), .d (.int .i64 e.till), .d (.int .i64 e.kind), .d (.str e.text), .d (txts e.list), .d (scs e.scores), .d (prs e.fields)] : List V).drop j).take n) else none := fun j n => by
    simp [hload, rowOf_self, V.cells, D.cells]
  have tk := htake_push H (.row 0 7 [.d (.agg [.str e.key, .int .i64 e.till, .int .i64 e.kind, .str e.text, txts e.list, scs e.scores, prs e.fields])])
  unfold enOk kindV
  unfold enD
  simp only [txts, scs, prs] at *
  obtain ⟨key, till, kind, text, list, scores, fields⟩ := e
  simp only at *
  generalize keyV key = KV at *
  generalize tillV till = TV at *
  obtain ⟨Y, eY⟩ : ∃ Y, hpush H (.row 0 7 [.d (.agg [.str key, .int .i64 till, .int .i64 kind, .str text, .vals 1 (list.map D.str), .vals 2 (scores.map scD), .vals 2 (fields.map prD)])]) = Y := ⟨_, rfl⟩
  rw [eY] at ld tk
  generalize list.map D.str = d1 at *
  generalize scores.map scD = d2 at *
  generalize fields.map prD = d3 at *
  generalize (list.length : Int) = n1 at *
  generalize (scores.length : Int) = n2 at *
  generalize (fields.length : Int) = n3 at *
  generalize okTexts list = P80 at *
  generalize setV list = P81 at *
  generalize scoresV scores = P82 at *
  generalize fieldsV fields = P83 at *
  generalize text.isEmpty = B0 at *
  generalize list.isEmpty = B1 at *
  generalize scores.isEmpty = B2 at *
  generalize fields.isEmpty = B3 at *
  generalize decide (text.length ≤ 40) = C at *
  subst hk ht hd
  cases B3 with
  | true => simp [-List.getD_eq_getElem?_getD, -List.map_map, evBody, evCode, evOps, evOper, evOp, opd, Env.get, Env.put, Env.keep, zipEnv, V.ok, V.sto, V.cells, D.cells, V.isAgg, binD, binInt, binStr, shInt, unD, eqOf, asI, leave, resOf, mapO, fzV, tupOf, view, view1, isData, hand, flatV, flatD, allD, mkAgg, mkVal, beq_lit, IntKind.bits, htake_self, htake_push, hget_hpush_self, hset_push, rowOf_self, okIn, lowIn, lowIn1, fzC_d, fzC_row, f60, eY, pk, pt, ld, tk, l1, l2, l3, xl, x0, y1, z1, y2, z2, y3, z3, p83]
  | false =>
    cases P83 with
    | false => simp [-List.getD_eq_getElem?_getD, -List.map_map, evBody, evCode, evOps, evOper, evOp, opd, Env.get, Env.put, Env.keep, zipEnv, V.ok, V.sto, V.cells, D.cells, V.isAgg, binD, binInt, binStr, shInt, unD, eqOf, asI, leave, resOf, mapO, fzV, tupOf, view, view1, isData, hand, flatV, flatD, allD, mkAgg, mkVal, beq_lit, IntKind.bits, htake_self, htake_push, hget_hpush_self, hset_push, rowOf_self, okIn, lowIn, lowIn1, fzC_d, fzC_row, f60, eY, pk, pt, ld, tk, l1, l2, l3, xl, x0, y1, z1, y2, z2, y3, z3, p83]
    | true =>
      cases B0 with
      | false => simp [-List.getD_eq_getElem?_getD, -List.map_map, evBody, evCode, evOps, evOper, evOp, opd, Env.get, Env.put, Env.keep, zipEnv, V.ok, V.sto, V.cells, D.cells, V.isAgg, binD, binInt, binStr, shInt, unD, eqOf, asI, leave, resOf, mapO, fzV, tupOf, view, view1, isData, hand, flatV, flatD, allD, mkAgg, mkVal, beq_lit, IntKind.bits, htake_self, htake_push, hget_hpush_self, hset_push, rowOf_self, okIn, lowIn, lowIn1, fzC_d, fzC_row, f60, eY, pk, pt, ld, tk, l1, l2, l3, xl, x0, y1, z1, y2, z2, y3, z3, p83]
      | true =>
        cases B1 with
        | false => simp [-List.getD_eq_getElem?_getD, -List.map_map, evBody, evCode, evOps, evOper, evOp, opd, Env.get, Env.put, Env.keep, zipEnv, V.ok, V.sto, V.cells, D.cells, V.isAgg, binD, binInt, binStr, shInt, unD, eqOf, asI, leave, resOf, mapO, fzV, tupOf, view, view1, isData, hand, flatV, flatD, allD, mkAgg, mkVal, beq_lit, IntKind.bits, htake_self, htake_push, hget_hpush_self, hset_push, rowOf_self, okIn, lowIn, lowIn1, fzC_d, fzC_row, f60, eY, pk, pt, ld, tk, l1, l2, l3, xl, x0, y1, z1, y2, z2, y3, z3, p83]
        | true =>
          cases B2 with
          | false => simp [-List.getD_eq_getElem?_getD, -List.map_map, evBody, evCode, evOps, evOper, evOp, opd, Env.get, Env.put, Env.keep, zipEnv, V.ok, V.sto, V.cells, D.cells, V.isAgg, binD, binInt, binStr, shInt, unD, eqOf, asI, leave, resOf, mapO, fzV, tupOf, view, view1, isData, hand, flatV, flatD, allD, mkAgg, mkVal, beq_lit, IntKind.bits, htake_self, htake_push, hget_hpush_self, hset_push, rowOf_self, okIn, lowIn, lowIn1, fzC_d, fzC_row, f60, eY, pk, pt, ld, tk, l1, l2, l3, xl, x0, y1, z1, y2, z2, y3, z3, p83]
          | true =>
            simp [-List.getD_eq_getElem?_getD, -List.map_map, evBody, evCode, evOps, evOper, evOp, opd, Env.get, Env.put, Env.keep, zipEnv, V.ok, V.sto, V.cells, D.cells, V.isAgg, binD, binInt, binStr, shInt, unD, eqOf, asI, leave, resOf, mapO, fzV, tupOf, view, view1, isData, hand, flatV, flatD, allD, mkAgg, mkVal, beq_lit, IntKind.bits, htake_self, htake_push, hget_hpush_self, hset_push, rowOf_self, okIn, lowIn, lowIn1, fzC_d, fzC_row, f60, eY, pk, pt, ld, tk, l1, l2, l3, xl, x0, y1, z1, y2, z2, y3, z3, p83]
theorem e60_k0 (H : Hp) (e : En) (hf : EnFit e) (hk : keyV e.key = true) (ht : tillV e.till = true) (a1 : ¬ e.kind = 1) (a2 : ¬ e.kind = 2) (a3 : ¬ e.kind = 3) (a4 : ¬ e.kind = 4) (a5 : ¬ e.kind = 5) : ev R 60 [.d (enD e)] H = some (.d (.bool (enOk e)), H) := by
  refine ev_fn (fn := f60) rfl rfl ?_
  have pk : pureCall (ev R) 87 [.d (.str e.key)] = some (.d (.bool (keyV e.key))) := pureCall_eq (cl := ev R) fun H => e87 H e.key
  have pt : pureCall (ev R) 34 [.d (.int .i64 e.till), .d (.int .i64 0), .d (.int .i64 2000000)] = some (.d (.bool (tillV e.till))) := p34 e.till 0 2000000
  have p80 := pureCall_eq (cl := ev R) fun H => e88 H e.list hf.list
  have p81 := pureCall_eq (cl := ev R) fun H => e89 H e.list hf.list
  have p82 := pureCall_eq (cl := ev R) fun H => e90 H e.scores hf.scores
  have p83 := pureCall_eq (cl := ev R) fun H => e91 H e.fields hf.fields
  have x0 : (e.text = []) = (e.text.isEmpty = true) := by simp
  have y1 : ((e.list.length : Int) = 0) = (e.list.isEmpty = true) := by cases e.list <;> simp <;> try omega
  have z1 : (0 < (e.list.length : Int)) = (e.list.isEmpty = false) := by cases e.list <;> simp <;> try omega
  have y2 : ((e.scores.length : Int) = 0) = (e.scores.isEmpty = true) := by cases e.scores <;> simp <;> try omega
  have z2 : (0 < (e.scores.length : Int)) = (e.scores.isEmpty = false) := by cases e.scores <;> simp <;> try omega
  have y3 : ((e.fields.length : Int) = 0) = (e.fields.isEmpty = true) := by cases e.fields <;> simp <;> try omega
  have z3 : (0 < (e.fields.length : Int)) = (e.fields.isEmpty = false) := by cases e.fields <;> simp <;> try omega
  have l1 : ((e.list.map D.str).length : Int) = (e.list.length : Int) := by simp
  have l2 : ((e.scores.map scD).length : Int) = (e.scores.length : Int) := by simp
  have l3 : ((e.fields.map prD).length : Int) = (e.fields.length : Int) := by simp
  have xl : ((e.text.length : Int) ≤ 40) = (decide (e.text.length ≤ 40) = true) := by simp; omega
  have ld : ∀ j n, hload (hpush H (.row 0 7 [.d (.agg [.str e.key, .int .i64 e.till, .int .i64 e.kind, .str e.text, txts e.list, scs e.scores, prs e.fields])])) (hlen H) 0 0 j n = if j + n ≤ 7 then some ((([.d (.str e.key), .d (.int .i64 e.till), .d (.int .i64 e.kind), .d (.str e.text), .d (txts e.list), .d (scs e.scores), .d (prs e.fields)] : List V).drop j).take n) else none := fun j n => by
    simp [hload, rowOf_self, V.cells, D.cells]
  have tk := htake_push H (.row 0 7 [.d (.agg [.str e.key, .int .i64 e.till, .int .i64 e.kind, .str e.text, txts e.list, scs e.scores, prs e.fields])])
  unfold enOk kindV
  unfold enD
  simp only [txts, scs, prs] at *
  obtain ⟨key, till, kind, text, list, scores, fields⟩ := e
  simp only at *
  generalize keyV key = KV at *
  generalize tillV till = TV at *
  obtain ⟨Y, eY⟩ : ∃ Y, hpush H (.row 0 7 [.d (.agg [.str key, .int .i64 till, .int .i64 kind, .str text, .vals 1 (list.map D.str), .vals 2 (scores.map scD), .vals 2 (fields.map prD)])]) = Y := ⟨_, rfl⟩
  rw [eY] at ld tk
  generalize list.map D.str = d1 at *
  generalize scores.map scD = d2 at *
  generalize fields.map prD = d3 at *
  generalize (list.length : Int) = n1 at *
  generalize (scores.length : Int) = n2 at *
  generalize (fields.length : Int) = n3 at *
  generalize okTexts list = P80 at *
  generalize setV list = P81 at *
  generalize scoresV scores = P82 at *
  generalize fieldsV fields = P83 at *
  generalize text.isEmpty = B0 at *
  generalize list.isEmpty = B1 at *
  generalize scores.isEmpty = B2 at *
  generalize fields.isEmpty = B3 at *
  generalize decide (text.length ≤ 40) = C at *
  subst hk ht
  simp [-List.getD_eq_getElem?_getD, -List.map_map, evBody, evCode, evOps, evOper, evOp, opd, Env.get, Env.put, Env.keep, zipEnv, V.ok, V.sto, V.cells, D.cells, V.isAgg, binD, binInt, binStr, shInt, unD, eqOf, asI, leave, resOf, mapO, fzV, tupOf, view, view1, isData, hand, flatV, flatD, allD, mkAgg, mkVal, beq_lit, IntKind.bits, htake_self, htake_push, hget_hpush_self, hset_push, rowOf_self, okIn, lowIn, lowIn1, fzC_d, fzC_row, f60, eY, pk, pt, ld, tk, l1, l2, l3, xl, x0, y1, z1, y2, z2, y3, z3, a1, a2, a3, a4, a5]
theorem e60 (H : Hp) (e : En) (hf : EnFit e) : ev R 60 [.d (enD e)] H = some (.d (.bool (enOk e)), H) := by
  cases hk : keyV e.key with
  | false => exact e60_no H e hf (.inl hk)
  | true =>
    cases ht : tillV e.till with
    | false => exact e60_no H e hf (.inr ht)
    | true =>
      by_cases a1 : e.kind = 1
      · exact e60_k1 H e hf hk ht a1
      by_cases a2 : e.kind = 2
      · exact e60_k2 H e hf hk ht a2
      by_cases a3 : e.kind = 3
      · exact e60_k3 H e hf hk ht a3
      by_cases a4 : e.kind = 4
      · exact e60_k4 H e hf hk ht a4
      by_cases a5 : e.kind = 5
      · exact e60_k5 H e hf hk ht a5
      exact e60_k0 H e hf hk ht a1 a2 a3 a4 a5
end Go.Proofs.YtpmphmpaeooeeaaDoorO.Code
/- The orders that make an entry: the code under test, the whole of them. -/
namespace Go.Proofs.YtpmphmpaeooeeaaDoorO.Code
open Go Go.Ev Go.Proofs
set_option maxRecDepth 100000
set_option maxHeartbeats 1000000
set_option linter.unusedSimpArgs false
set_option linter.unusedVariables false
theorem bxV_load7 {X Y : Hp} {r o g : Nat} {e : En} {L : List Li} (h : Out (bxV X r e) o Y g L) : hload Y (hlen X) 0 0 0 7 = some [.d (.str e.key), .d (.int .i64 e.till), .d (.int .i64 e.kind), .d (.str e.text), .slc r 0 0 e.list.length, .slc (r + 1) 0 0 e.scores.length, .slc (r + 2) 0 0 e.fields.length] := by
  have hr : rowOf Y (hlen X) 0 = some (7, [enV r e]) := h.base (rowOf_self _ _ _ _)
  simp [hload, hr, enV, V.cells]
theorem out_take {X Y : Hp} {r o g : Nat} {e : En} {L : List Li} (h : Out (bxV X r e) o Y g L) : htake Y (hlen X) = X := by
  have h1 := h.take
  have h2 : htake Y (hlen X) = htake (htake Y (hlen (bxV X r e))) (hlen X) := by
    rw [bxV_len]
    simp only [htake, List.take_take]
    rw [Nat.min_eq_left (by omega)]
  rw [h2, h1]
  exact htake_push X _
theorem out_own {X Y : Hp} {r g : Nat} {e : En} {L : List Li} (h : Out (bxV X r e) (hlen X + 1) Y g L) : ∃ Z, ownL (hlen X) Y X [.slc (hlen X + 1) g 0 L.length] = some ([.slc (hlen X + (listsL L).length) 0 0 (listsL L).length], Z, nestH X (listsL L)) := by
  obtain ⟨Z, hZ⟩ := h.ownB (hlen X) X (by rw [bxV_len]; omega)
  exact ⟨Z, by rw [listsL_len]; exact hZ⟩
def expO (e : En) : List Txt := [[69, 88, 80, 73, 82, 69, 65, 84], e.key, decZ e.till]
structure RowsV (X : Hp) (r : Nat) (e : En) : Prop where
  list : rowOf X r 0 = some (1, dat e.list)
  scores : rowOf X (r + 1) 0 = some (2, (e.scores.map scD).map V.d)
  fields : rowOf X (r + 2) 0 = some (2, (e.fields.map prD).map V.d)
/-- One order more, in the heap. -/
theorem out_one {X Y : Hp} {r g : Nat} {e : En} {L : List Li} (O : Out (bxV X r e) (hlen X + 1) Y g L) (x : List Txt) (Y1 Y2 Y3 : Hp) (h1 : hpush Y (.row 0 1 (dat x)) = Y1) (h2 : hpush Y1 (.row 0 1 [.slc (hlen Y) 0 0 x.length]) = Y2) (h3 : hset Y2 (hlen X + 1) (.row (g + 1) 1 (refsL L ++ [.slc (hlen Y) 0 0 x.length])) = Y3) :
    Out (bxV X r e) (hlen X + 1) Y1 g L ∧ rowOf Y2 (hlen Y1) 0 = some (1, [.slc (hlen Y) 0 0 x.length]) ∧ rowOf Y2 (hlen X + 1) g = some (1, refsL L) ∧ Out (bxV X r e) (hlen X + 1) Y3 (g + 1) (L ++ [(hlen Y, 0, x)]) := by
  have r1 : rowOf Y1 (hlen Y) 0 = some (1, dat x) := by rw [← h1]; exact rowOf_self _ _ _ _
  have O1 : Out (bxV X r e) (hlen X + 1) Y1 g L := by rw [← h1]; exact O.push _
  have O2 : Out (bxV X r e) (hlen X + 1) Y2 g L := by rw [← h2]; exact O1.push _
  have r2 : rowOf Y2 (hlen Y) 0 = some (1, dat x) := by rw [← h2]; exact rowOf_push r1
  have r3 : rowOf Y2 (hlen Y1) 0 = some (1, [.slc (hlen Y) 0 0 x.length]) := by rw [← h2]; exact rowOf_self _ _ _ _
  have lt := O.lt
  have O3 := O2.add r2 lt (fun p hp => by have := O.fresh p hp; omega)
  rw [h3] at O3
  exact ⟨O1, r3, O2.row, O3⟩
theorem e26_k1 (X : Hp) (r : Nat) (e : En) (hr : RowsV X r e) (hf : EnFit e) (hk : enOk e = true) (hl : e.list.length ≤ 900000) (hd : e.kind = 1) : ev R 26 [enV r e] X = some (.slc (hlen X + (makeV e).length) 0 0 (makeV e).length, nestH X (makeV e)) := by
  refine ev_fn (fn := f26) rfl rfl ?_
  have p60 := pureCall_eq (cl := ev R) fun H => e60 H e hf
  rw [hk] at p60
  obtain ⟨Y0, hY0⟩ : ∃ Y0, hpush (bxV X r e) (.row 0 1 []) = Y0 := ⟨_, rfl⟩
  have O0 : Out (bxV X r e) (hlen X + 1) Y0 0 [] := by rw [← hY0, ← bxV_len X r e]; exact Out.start _ _ (htake_self _) (Nat.le_refl _)
  have bl := bxV_len X r e
  have ld7 := bxV_load7 O0
  have ld0 := bxV_load O0
  have v1 : rowOf Y0 r 0 = some (1, dat e.list) := O0.base (rowOf_push hr.list)
  have v2 : rowOf Y0 (r + 1) 0 = some (2, (e.scores.map scD).map V.d) := O0.base (rowOf_push hr.scores)
  have v3 : rowOf Y0 (r + 2) 0 = some (2, (e.fields.map prD).map V.d) := O0.base (rowOf_push hr.fields)
  have a1 := allD_dat e.list
  have a2 := allD_d (e.scores.map scD)
  have a3 := allD_d (e.fields.map prD)
  have m1 : e.list.length ≤ (dat e.list).length := by simp [dat]
  have m2 : e.scores.length ≤ ((e.scores.map scD).map V.d).length := by simp
  have m3 : e.fields.length ≤ ((e.fields.map prD).map V.d).length := by simp
  have t1 : (e.list.map D.str).take e.list.length = e.list.map D.str := List.take_of_length_le (by simp)
  have t2 : (e.scores.map scD).take e.scores.length = e.scores.map scD := List.take_of_length_le (by simp)
  have t3 : (e.fields.map prD).take e.fields.length = e.fields.map prD := List.take_of_length_le (by simp)
  have eb : hpush X (.row 0 7 [enV r e]) = bxV X r e := rfl
  obtain ⟨⟨c1, c2, c3, c4, c5, c6⟩, _⟩ := enOk_cf hk hl
  have p35 := pureCall_eq (cl := ev R) fun H => e35 H e.till (by omega)
  have mk : makeV e = [[[83, 69, 84], e.key, e.text]] ++ tillO e := by unfold makeV bodyV; rw [if_pos hd]
  obtain ⟨Y1, hY1⟩ : ∃ Y1, hpush Y0 (.row 0 1 [.d (.str [83, 69, 84]), .d (.str e.key), .d (.str e.text)]) = Y1 := ⟨_, rfl⟩
  obtain ⟨Y2, hY2⟩ : ∃ Y2, hpush Y1 (.row 0 1 [.slc (hlen Y0) 0 0 3]) = Y2 := ⟨_, rfl⟩
  obtain ⟨Y3, hY3⟩ : ∃ Y3, hset Y2 (hlen X + 1) (.row 1 1 [.slc (hlen Y0) 0 0 3]) = Y3 := ⟨_, rfl⟩
  obtain ⟨O1, r2, r2', O3⟩ := out_one O0 [[83, 69, 84], e.key, e.text] Y1 Y2 Y3 hY1 hY2 hY3
  simp only [refsL, List.map_nil] at r2'
  have ldA := bxV_load O1
  have ld3 := bxV_load O3
  have kf : listsL ([] ++ [(hlen Y0, 0, [[83, 69, 84], e.key, e.text])] : List Li) = [[[83, 69, 84], e.key, e.text]] := rfl
  have rm : (1 : Nat) * 24 ≤ room := by unfold room; omega
  have okb : (hlen X).ble (hlen X + 1) = true := by simp
  simp only [List.nil_append] at O3 kf
  rw [← kf] at mk
  have ll : ([(hlen Y0, 0, [[83, 69, 84], e.key, e.text])] : List Li).length = 1 := rfl
  generalize [(hlen Y0, 0, [[83, 69, 84], e.key, e.text])] = LL at O3 kf mk ll
  have tkA := out_take O3
  obtain ⟨Z, hZ⟩ := out_own O3
  obtain ⟨Y4, hY4⟩ : ∃ Y4, hpush Y3 (.row 0 1 [.d (.str [69, 88, 80, 73, 82, 69, 65, 84]), .d (.str e.key), .d (.str (decZ e.till))]) = Y4 := ⟨_, rfl⟩
  obtain ⟨Y5, hY5⟩ : ∃ Y5, hpush Y4 (.row 0 1 [.slc (hlen Y3) 0 0 3]) = Y5 := ⟨_, rfl⟩
  obtain ⟨Y6, hY6⟩ : ∃ Y6, hset Y5 (hlen X + 1) (.row (1 + 1) 1 (refsL LL ++ [.slc (hlen Y3) 0 0 3])) = Y6 := ⟨_, rfl⟩
  obtain ⟨O4, s2, s2', O6⟩ := out_one O3 (expO e) Y4 Y5 Y6 hY4 hY5 hY6
  have tkB := out_take O6
  obtain ⟨Z6, hZ6⟩ := out_own O6
  have rl := refsL_len LL
  have kl : listsL (LL ++ [(hlen Y3, 0, expO e)]) = listsL LL ++ [expO e] := listsL_snoc _ _ _ _
  have xl3 : (expO e).length = 3 := rfl
  have ln : (LL ++ [(hlen Y3, 0, expO e)]).length = LL.length + 1 := by simp
  rw [kl, ln] at hZ6
  rw [xl3] at s2
  have mkl : (makeV e) = listsL LL ++ tillO e := mk
  rw [mkl]
  have tO : tillO e = if e.till = 0 then [] else [expO e] := rfl
  rw [tO]
  clear mk mkl kl tO
  rw [ll] at hZ hZ6 rl
  have rm2 : (1 + 1) * 24 ≤ room := by unfold room; omega
  simp only [Nat.reduceAdd] at rm2 hZ6 hY6
  obtain ⟨NA, hNA⟩ : ∃ N, nestH X (listsL LL) = N := ⟨_, rfl⟩
  obtain ⟨NB, hNB⟩ : ∃ N, nestH X (listsL LL ++ [expO e]) = N := ⟨_, rfl⟩
  rw [hNA] at hZ
  rw [hNB] at hZ6
  generalize refsL LL = RL at *
  simp only [enD, txts, scs, prs] at p60
  generalize dat e.list = w1 at v1 a1 m1
  generalize (e.scores.map scD).map V.d = w2 at v2 a2 m2
  generalize (e.fields.map prD).map V.d = w3 at v3 a3 m3
  generalize listsL LL = LS at *
  obtain ⟨B, hB⟩ : ∃ B, bxV X r e = B := ⟨_, rfl⟩
  rw [hB] at eb bl hY0
  simp only [hB] at O0 O3 O6
  unfold enV at eb ⊢
  clear O0 O3 O4 O6 O1 ldA hB hf hk hr
  obtain ⟨key, till, kind, text, list, scores, fields⟩ := e
  simp only at *
  subst hd
  by_cases ht : till = 0
  · subst ht
    rw [if_pos rfl, List.append_nil, hNA]
    simp [-List.getD_eq_getElem?_getD, -List.map_map, evBody, evCode, evOps, evOper, evOp, opd, Env.get, Env.put, Env.keep, zipEnv, V.ok, V.sto, V.cells, D.cells, V.isAgg, binD, binInt, binStr, shInt, unD, eqOf, asI, leave, resOf, mapO, fzV, tupOf, view, view1, isData, hand, flatV, flatD, allD, mkAgg, mkVal, beq_lit, IntKind.bits, htake_self, htake_push, hget_hpush_self, hset_push, rowOf_self, okIn, lowIn, lowIn1, fzC_d, fzC_row, f26, view, view1, eb, bl, hY0, ld7, ld0, ld3, v1, v2, v3, a1, a2, a3, m1, m2, m3, t1, t2, t3, p60, hY1, hY2, hY3, r2, r2', src, rm, okb, tkA, hZ]
  · rw [if_neg ht, hNB]
    simp [-List.getD_eq_getElem?_getD, -List.map_map, evBody, evCode, evOps, evOper, evOp, opd, Env.get, Env.put, Env.keep, zipEnv, V.ok, V.sto, V.cells, D.cells, V.isAgg, binD, binInt, binStr, shInt, unD, eqOf, asI, leave, resOf, mapO, fzV, tupOf, view, view1, isData, hand, flatV, flatD, allD, mkAgg, mkVal, beq_lit, IntKind.bits, htake_self, htake_push, hget_hpush_self, hset_push, rowOf_self, okIn, lowIn, lowIn1, fzC_d, fzC_row, f26, view, view1, eb, bl, hY0, ld7, ld0, ld3, v1, v2, v3, a1, a2, a3, m1, m2, m3, t1, t2, t3, p60, hY1, hY2, hY3, r2, r2', src, rm, okb, src, ht, p35, hY4, hY5, s2, s2', rl, rm2, hY6, tkB, hZ6]
theorem e26_k2 (X : Hp) (r : Nat) (e : En) (hr : RowsV X r e) (hf : EnFit e) (hk : enOk e = true) (hl : e.list.length ≤ 900000) (hd : e.kind = 2) : ev R 26 [enV r e] X = some (.slc (hlen X + (makeV e).length) 0 0 (makeV e).length, nestH X (makeV e)) := by
  refine ev_fn (fn := f26) rfl rfl ?_
  have p60 := pureCall_eq (cl := ev R) fun H => e60 H e hf
  rw [hk] at p60
  obtain ⟨Y0, hY0⟩ : ∃ Y0, hpush (bxV X r e) (.row 0 1 []) = Y0 := ⟨_, rfl⟩
  have O0 : Out (bxV X r e) (hlen X + 1) Y0 0 [] := by rw [← hY0, ← bxV_len X r e]; exact Out.start _ _ (htake_self _) (Nat.le_refl _)
  have bl := bxV_len X r e
  have ld7 := bxV_load7 O0
  have ld0 := bxV_load O0
  have v1 : rowOf Y0 r 0 = some (1, dat e.list) := O0.base (rowOf_push hr.list)
  have v2 : rowOf Y0 (r + 1) 0 = some (2, (e.scores.map scD).map V.d) := O0.base (rowOf_push hr.scores)
  have v3 : rowOf Y0 (r + 2) 0 = some (2, (e.fields.map prD).map V.d) := O0.base (rowOf_push hr.fields)
  have a1 := allD_dat e.list
  have a2 := allD_d (e.scores.map scD)
  have a3 := allD_d (e.fields.map prD)
  have m1 : e.list.length ≤ (dat e.list).length := by simp [dat]
  have m2 : e.scores.length ≤ ((e.scores.map scD).map V.d).length := by simp
  have m3 : e.fields.length ≤ ((e.fields.map prD).map V.d).length := by simp
  have t1 : (e.list.map D.str).take e.list.length = e.list.map D.str := List.take_of_length_le (by simp)
  have t2 : (e.scores.map scD).take e.scores.length = e.scores.map scD := List.take_of_length_le (by simp)
  have t3 : (e.fields.map prD).take e.fields.length = e.fields.map prD := List.take_of_length_le (by simp)
  have eb : hpush X (.row 0 7 [enV r e]) = bxV X r e := rfl
  obtain ⟨⟨c1, c2, c3, c4, c5, c6⟩, _⟩ := enOk_cf hk hl
  have p35 := pureCall_eq (cl := ev R) fun H => e35 H e.till (by omega)
  have ch := chunks_len [82, 80, 85, 83, 72] e.key e.list e.list.length 0
  have q := l26a X r e hr.list [82, 80, 85, 83, 72] (by omega) e.list.length 0 0 [] Y0 [(1, .ptr (hlen X) 0 0 0), (3, .slc (hlen X + 1) 0 0 0), (4, .d (.str [82, 80, 85, 83, 72])), (5, .d (.int .i64 0))] (by omega) (by simp; omega) (by omega) O0 rfl rfl rfl rfl
  have mk : makeV e = (listsL [] ++ chunks [82, 80, 85, 83, 72] e.key e.list e.list.length 0) ++ tillO e := by unfold makeV bodyV; rw [if_neg (by omega), if_pos hd]; rfl
  have xl : (listsL [] ++ chunks [82, 80, 85, 83, 72] e.key e.list e.list.length 0).length ≤ 900000 := by simp [listsL]; omega
  obtain ⟨e', Y3, g, LL, he, O3, kf, g1, g3⟩ := q
  rw [← kf] at mk xl
  have ld3 := bxV_load O3
  have ll := listsL_len LL
  rw [ll] at xl
  have tkA := out_take O3
  obtain ⟨Z, hZ⟩ := out_own O3
  obtain ⟨Y4, hY4⟩ : ∃ Y4, hpush Y3 (.row 0 1 [.d (.str [69, 88, 80, 73, 82, 69, 65, 84]), .d (.str e.key), .d (.str (decZ e.till))]) = Y4 := ⟨_, rfl⟩
  obtain ⟨Y5, hY5⟩ : ∃ Y5, hpush Y4 (.row 0 1 [.slc (hlen Y3) 0 0 3]) = Y5 := ⟨_, rfl⟩
  obtain ⟨Y6, hY6⟩ : ∃ Y6, hset Y5 (hlen X + 1) (.row (g + 1) 1 (refsL LL ++ [.slc (hlen Y3) 0 0 3])) = Y6 := ⟨_, rfl⟩
  obtain ⟨O4, s2, s2', O6⟩ := out_one O3 (expO e) Y4 Y5 Y6 hY4 hY5 hY6
  have tkB := out_take O6
  obtain ⟨Z6, hZ6⟩ := out_own O6
  have rl := refsL_len LL
  have kl : listsL (LL ++ [(hlen Y3, 0, expO e)]) = listsL LL ++ [expO e] := listsL_snoc _ _ _ _
  have xl3 : (expO e).length = 3 := rfl
  have ln : (LL ++ [(hlen Y3, 0, expO e)]).length = LL.length + 1 := by simp
  rw [kl, ln] at hZ6
  rw [xl3] at s2
  have mkl : (makeV e) = listsL LL ++ tillO e := mk
  rw [mkl]
  have tO : tillO e = if e.till = 0 then [] else [expO e] := rfl
  rw [tO]
  clear mk mkl kl tO
  have rm2 : (LL.length + 1) * 24 ≤ room := by unfold room; omega
  have okb : (hlen X).ble (hlen X + 1) = true := by simp
  obtain ⟨NA, hNA⟩ : ∃ N, nestH X (listsL LL) = N := ⟨_, rfl⟩
  obtain ⟨NB, hNB⟩ : ∃ N, nestH X (listsL LL ++ [expO e]) = N := ⟨_, rfl⟩
  rw [hNA] at hZ
  rw [hNB] at hZ6
  generalize refsL LL = RL at *
  simp only [enD, txts, scs, prs] at p60
  generalize dat e.list = w1 at v1 a1 m1
  generalize (e.scores.map scD).map V.d = w2 at v2 a2 m2
  generalize (e.fields.map prD).map V.d = w3 at v3 a3 m3
  generalize listsL LL = LS at *
  obtain ⟨B, hB⟩ : ∃ B, bxV X r e = B := ⟨_, rfl⟩
  rw [hB] at eb bl hY0
  simp only [hB] at O0 O3 O6
  unfold enV at eb ⊢
  clear O0 O3 O4 O6  hB hf hk hr
  obtain ⟨key, till, kind, text, list, scores, fields⟩ := e
  simp only at *
  subst hd
  by_cases ht : till = 0
  · subst ht
    rw [if_pos rfl, List.append_nil, hNA]
    simp [-List.getD_eq_getElem?_getD, -List.map_map, evBody, evCode, evOps, evOper, evOp, opd, Env.get, Env.put, Env.keep, zipEnv, V.ok, V.sto, V.cells, D.cells, V.isAgg, binD, binInt, binStr, shInt, unD, eqOf, asI, leave, resOf, mapO, fzV, tupOf, view, view1, isData, hand, flatV, flatD, allD, mkAgg, mkVal, beq_lit, IntKind.bits, htake_self, htake_push, hget_hpush_self, hset_push, rowOf_self, okIn, lowIn, lowIn1, fzC_d, fzC_row, f26, view, view1, eb, bl, hY0, ld7, ld0, ld3, v1, v2, v3, a1, a2, a3, m1, m2, m3, t1, t2, t3, p60, he, g1, g3, tkA, hZ]
  · rw [if_neg ht, hNB]
    simp [-List.getD_eq_getElem?_getD, -List.map_map, evBody, evCode, evOps, evOper, evOp, opd, Env.get, Env.put, Env.keep, zipEnv, V.ok, V.sto, V.cells, D.cells, V.isAgg, binD, binInt, binStr, shInt, unD, eqOf, asI, leave, resOf, mapO, fzV, tupOf, view, view1, isData, hand, flatV, flatD, allD, mkAgg, mkVal, beq_lit, IntKind.bits, htake_self, htake_push, hget_hpush_self, hset_push, rowOf_self, okIn, lowIn, lowIn1, fzC_d, fzC_row, f26, view, view1, eb, bl, hY0, ld7, ld0, ld3, v1, v2, v3, a1, a2, a3, m1, m2, m3, t1, t2, t3, p60, he, g1, g3, src, ht, p35, hY4, hY5, s2, s2', rl, rm2, okb, hY6, tkB, hZ6]
theorem e26_k3 (X : Hp) (r : Nat) (e : En) (hr : RowsV X r e) (hf : EnFit e) (hk : enOk e = true) (hl : e.list.length ≤ 900000) (hd : e.kind = 3) : ev R 26 [enV r e] X = some (.slc (hlen X + (makeV e).length) 0 0 (makeV e).length, nestH X (makeV e)) := by
  refine ev_fn (fn := f26) rfl rfl ?_
  have p60 := pureCall_eq (cl := ev R) fun H => e60 H e hf
  rw [hk] at p60
  obtain ⟨Y0, hY0⟩ : ∃ Y0, hpush (bxV X r e) (.row 0 1 []) = Y0 := ⟨_, rfl⟩
  have O0 : Out (bxV X r e) (hlen X + 1) Y0 0 [] := by rw [← hY0, ← bxV_len X r e]; exact Out.start _ _ (htake_self _) (Nat.le_refl _)
  have bl := bxV_len X r e
  have ld7 := bxV_load7 O0
  have ld0 := bxV_load O0
  have v1 : rowOf Y0 r 0 = some (1, dat e.list) := O0.base (rowOf_push hr.list)
  have v2 : rowOf Y0 (r + 1) 0 = some (2, (e.scores.map scD).map V.d) := O0.base (rowOf_push hr.scores)
  have v3 : rowOf Y0 (r + 2) 0 = some (2, (e.fields.map prD).map V.d) := O0.base (rowOf_push hr.fields)
  have a1 := allD_dat e.list
  have a2 := allD_d (e.scores.map scD)
  have a3 := allD_d (e.fields.map prD)
  have m1 : e.list.length ≤ (dat e.list).length := by simp [dat]
  have m2 : e.scores.length ≤ ((e.scores.map scD).map V.d).length := by simp
  have m3 : e.fields.length ≤ ((e.fields.map prD).map V.d).length := by simp
  have t1 : (e.list.map D.str).take e.list.length = e.list.map D.str := List.take_of_length_le (by simp)
  have t2 : (e.scores.map scD).take e.scores.length = e.scores.map scD := List.take_of_length_le (by simp)
  have t3 : (e.fields.map prD).take e.fields.length = e.fields.map prD := List.take_of_length_le (by simp)
  have eb : hpush X (.row 0 7 [enV r e]) = bxV X r e := rfl
  obtain ⟨⟨c1, c2, c3, c4, c5, c6⟩, _⟩ := enOk_cf hk hl
  have p35 := pureCall_eq (cl := ev R) fun H => e35 H e.till (by omega)
  have ch := chunks_len [83, 65, 68, 68] e.key e.list e.list.length 0
  have q := l26a X r e hr.list [83, 65, 68, 68] (by omega) e.list.length 0 0 [] Y0 [(1, .ptr (hlen X) 0 0 0), (3, .slc (hlen X + 1) 0 0 0), (4, .d (.str [83, 65, 68, 68])), (5, .d (.int .i64 0))] (by omega) (by simp; omega) (by omega) O0 rfl rfl rfl rfl
  have mk : makeV e = (listsL [] ++ chunks [83, 65, 68, 68] e.key e.list e.list.length 0) ++ tillO e := by unfold makeV bodyV; rw [if_neg (by omega), if_neg (by omega), if_pos hd]; rfl
  have xl : (listsL [] ++ chunks [83, 65, 68, 68] e.key e.list e.list.length 0).length ≤ 900000 := by simp [listsL]; omega
  obtain ⟨e', Y3, g, LL, he, O3, kf, g1, g3⟩ := q
  rw [← kf] at mk xl
  have ld3 := bxV_load O3
  have ll := listsL_len LL
  rw [ll] at xl
  have tkA := out_take O3
  obtain ⟨Z, hZ⟩ := out_own O3
  obtain ⟨Y4, hY4⟩ : ∃ Y4, hpush Y3 (.row 0 1 [.d (.str [69, 88, 80, 73, 82, 69, 65, 84]), .d (.str e.key), .d (.str (decZ e.till))]) = Y4 := ⟨_, rfl⟩
  obtain ⟨Y5, hY5⟩ : ∃ Y5, hpush Y4 (.row 0 1 [.slc (hlen Y3) 0 0 3]) = Y5 := ⟨_, rfl⟩
  obtain ⟨Y6, hY6⟩ : ∃ Y6, hset Y5 (hlen X + 1) (.row (g + 1) 1 (refsL LL ++ [.slc (hlen Y3) 0 0 3])) = Y6 := ⟨_, rfl⟩
  obtain ⟨O4, s2, s2', O6⟩ := out_one O3 (expO e) Y4 Y5 Y6 hY4 hY5 hY6
  have tkB := out_take O6
  obtain ⟨Z6, hZ6⟩ := out_own O6
  have rl := refsL_len LL
  have kl : listsL (LL ++ [(hlen Y3, 0, expO e)]) = listsL LL ++ [expO e] := listsL_snoc _ _ _ _
  have xl3 : (expO e).length = 3 := rfl
  have ln : (LL ++ [(hlen Y3, 0, expO e)]).length = LL.length + 1 := by simp
  rw [kl, ln] at hZ6
  rw [xl3] at s2
  have mkl : (makeV e) = listsL LL ++ tillO e := mk
  rw [mkl]
  have tO : tillO e = if e.till = 0 then [] else [expO e] := rfl
  rw [tO]
  clear mk mkl kl tO
  have rm2 : (LL.length + 1) * 24 ≤ room := by unfold room; omega
  have okb : (hlen X).ble (hlen X + 1) = true := by simp
  obtain ⟨NA, hNA⟩ : ∃ N, nestH X (listsL LL) = N := ⟨_, rfl⟩
  obtain ⟨NB, hNB⟩ : ∃ N, nestH X (listsL LL ++ [expO e]) = N := ⟨_, rfl⟩
  rw [hNA] at hZ
  rw [hNB] at hZ6
  generalize refsL LL = RL at *
  simp only [enD, txts, scs, prs] at p60
  generalize dat e.list = w1 at v1 a1 m1
  generalize (e.scores.map scD).map V.d = w2 at v2 a2 m2
  generalize (e.fields.map prD).map V.d = w3 at v3 a3 m3
  generalize listsL LL = LS at *
  obtain ⟨B, hB⟩ : ∃ B, bxV X r e = B := ⟨_, rfl⟩
  rw [hB] at eb bl hY0
  simp only [hB] at O0 O3 O6
  unfold enV at eb ⊢
  clear O0 O3 O4 O6  hB hf hk hr
  obtain ⟨key, till, kind, text, list, scores, fields⟩ := e
  simp only at *
  subst hd
  by_cases ht : till = 0
  · subst ht
    rw [if_pos rfl, List.append_nil, hNA]
    simp [-List.getD_eq_getElem?_getD, -List.map_map, evBody, evCode, evOps, evOper, evOp, opd, Env.get, Env.put, Env.keep, zipEnv, V.ok, V.sto, V.cells, D.cells, V.isAgg, binD, binInt, binStr, shInt, unD, eqOf, asI, leave, resOf, mapO, fzV, tupOf, view, view1, isData, hand, flatV, flatD, allD, mkAgg, mkVal, beq_lit, IntKind.bits, htake_self, htake_push, hget_hpush_self, hset_push, rowOf_self, okIn, lowIn, lowIn1, fzC_d, fzC_row, f26, view, view1, eb, bl, hY0, ld7, ld0, ld3, v1, v2, v3, a1, a2, a3, m1, m2, m3, t1, t2, t3, p60, he, g1, g3, tkA, hZ]
  · rw [if_neg ht, hNB]
    simp [-List.getD_eq_getElem?_getD, -List.map_map, evBody, evCode, evOps, evOper, evOp, opd, Env.get, Env.put, Env.keep, zipEnv, V.ok, V.sto, V.cells, D.cells, V.isAgg, binD, binInt, binStr, shInt, unD, eqOf, asI, leave, resOf, mapO, fzV, tupOf, view, view1, isData, hand, flatV, flatD, allD, mkAgg, mkVal, beq_lit, IntKind.bits, htake_self, htake_push, hget_hpush_self, hset_push, rowOf_self, okIn, lowIn, lowIn1, fzC_d, fzC_row, f26, view, view1, eb, bl, hY0, ld7, ld0, ld3, v1, v2, v3, a1, a2, a3, m1, m2, m3, t1, t2, t3, p60, he, g1, g3, src, ht, p35, hY4, hY5, s2, s2', rl, rm2, okb, hY6, tkB, hZ6]
theorem e26_k4 (X : Hp) (r : Nat) (e : En) (hr : RowsV X r e) (hf : EnFit e) (hk : enOk e = true) (hl : e.list.length ≤ 900000) (hd : e.kind = 4) : ev R 26 [enV r e] X = some (.slc (hlen X + (makeV e).length) 0 0 (makeV e).length, nestH X (makeV e)) := by
  refine ev_fn (fn := f26) rfl rfl ?_
  have p60 := pureCall_eq (cl := ev R) fun H => e60 H e hf
  rw [hk] at p60
  obtain ⟨Y0, hY0⟩ : ∃ Y0, hpush (bxV X r e) (.row 0 1 []) = Y0 := ⟨_, rfl⟩
  have O0 : Out (bxV X r e) (hlen X + 1) Y0 0 [] := by rw [← hY0, ← bxV_len X r e]; exact Out.start _ _ (htake_self _) (Nat.le_refl _)
  have bl := bxV_len X r e
  have ld7 := bxV_load7 O0
  have ld0 := bxV_load O0
  have v1 : rowOf Y0 r 0 = some (1, dat e.list) := O0.base (rowOf_push hr.list)
  have v2 : rowOf Y0 (r + 1) 0 = some (2, (e.scores.map scD).map V.d) := O0.base (rowOf_push hr.scores)
  have v3 : rowOf Y0 (r + 2) 0 = some (2, (e.fields.map prD).map V.d) := O0.base (rowOf_push hr.fields)
  have a1 := allD_dat e.list
  have a2 := allD_d (e.scores.map scD)
  have a3 := allD_d (e.fields.map prD)
  have m1 : e.list.length ≤ (dat e.list).length := by simp [dat]
  have m2 : e.scores.length ≤ ((e.scores.map scD).map V.d).length := by simp
  have m3 : e.fields.length ≤ ((e.fields.map prD).map V.d).length := by simp
  have t1 : (e.list.map D.str).take e.list.length = e.list.map D.str := List.take_of_length_le (by simp)
  have t2 : (e.scores.map scD).take e.scores.length = e.scores.map scD := List.take_of_length_le (by simp)
  have t3 : (e.fields.map prD).take e.fields.length = e.fields.map prD := List.take_of_length_le (by simp)
  have eb : hpush X (.row 0 7 [enV r e]) = bxV X r e := rfl
  obtain ⟨⟨c1, c2, c3, c4, c5, c6⟩, _⟩ := enOk_cf hk hl
  have p35 := pureCall_eq (cl := ev R) fun H => e35 H e.till (by omega)
  have q := l26b X r e (hr.scores) c1 c2 e.scores.length 0 0 [] Y0 [(1, .ptr (hlen X) 0 0 0), (3, .slc (hlen X + 1) 0 0 0), (64, .slc (r + 1) 0 0 e.scores.length), (65, .d (.int .i64 e.scores.length)), (66, .d (.int .i64 0))] (by omega) (by simp; omega) O0 rfl rfl rfl rfl rfl
  have mk : makeV e = (listsL [] ++ (e.scores.drop 0).map (zadd e.key)) ++ tillO e := by unfold makeV bodyV; rw [if_neg (by omega), if_neg (by omega), if_neg (by omega), if_pos hd]; rfl
  have xl : (listsL [] ++ (e.scores.drop 0).map (zadd e.key)).length ≤ 900000 := by simp [listsL]; omega
  obtain ⟨e', Y3, g, LL, he, O3, kf, g1, g3⟩ := q
  rw [← kf] at mk xl
  have ld3 := bxV_load O3
  have ll := listsL_len LL
  rw [ll] at xl
  have tkA := out_take O3
  obtain ⟨Z, hZ⟩ := out_own O3
  obtain ⟨Y4, hY4⟩ : ∃ Y4, hpush Y3 (.row 0 1 [.d (.str [69, 88, 80, 73, 82, 69, 65, 84]), .d (.str e.key), .d (.str (decZ e.till))]) = Y4 := ⟨_, rfl⟩
  obtain ⟨Y5, hY5⟩ : ∃ Y5, hpush Y4 (.row 0 1 [.slc (hlen Y3) 0 0 3]) = Y5 := ⟨_, rfl⟩
  obtain ⟨Y6, hY6⟩ : ∃ Y6, hset Y5 (hlen X + 1) (.row (g + 1) 1 (refsL LL ++ [.slc (hlen Y3) 0 0 3])) = Y6 := ⟨_, rfl⟩
  obtain ⟨O4, s2, s2', O6⟩ := out_one O3 (expO e) Y4 Y5 Y6 hY4 hY5 hY6
  have tkB := out_take O6
  obtain ⟨Z6, hZ6⟩ := out_own O6
  have rl := refsL_len LL
  have kl : listsL (LL ++ [(hlen Y3, 0, expO e)]) = listsL LL ++ [expO e] := listsL_snoc _ _ _ _
  have xl3 : (expO e).length = 3 := rfl
  have ln : (LL ++ [(hlen Y3, 0, expO e)]).length = LL.length + 1 := by simp
  rw [kl, ln] at hZ6
  rw [xl3] at s2
  have mkl : (makeV e) = listsL LL ++ tillO e := mk
  rw [mkl]
  have tO : tillO e = if e.till = 0 then [] else [expO e] := rfl
  rw [tO]
  clear mk mkl kl tO
  have rm2 : (LL.length + 1) * 24 ≤ room := by unfold room; omega
  have okb : (hlen X).ble (hlen X + 1) = true := by simp
  obtain ⟨NA, hNA⟩ : ∃ N, nestH X (listsL LL) = N := ⟨_, rfl⟩
  obtain ⟨NB, hNB⟩ : ∃ N, nestH X (listsL LL ++ [expO e]) = N := ⟨_, rfl⟩
  rw [hNA] at hZ
  rw [hNB] at hZ6
  generalize refsL LL = RL at *
  simp only [enD, txts, scs, prs] at p60
  generalize dat e.list = w1 at v1 a1 m1
  generalize (e.scores.map scD).map V.d = w2 at v2 a2 m2
  generalize (e.fields.map prD).map V.d = w3 at v3 a3 m3
  generalize listsL LL = LS at *
  obtain ⟨B, hB⟩ : ∃ B, bxV X r e = B := ⟨_, rfl⟩
  rw [hB] at eb bl hY0
  simp only [hB] at O0 O3 O6
  unfold enV at eb ⊢
  clear O0 O3 O4 O6  hB hf hk hr
  obtain ⟨key, till, kind, text, list, scores, fields⟩ := e
  simp only at *
  subst hd
  by_cases ht : till = 0
  · subst ht
    rw [if_pos rfl, List.append_nil, hNA]
    simp [-List.getD_eq_getElem?_getD, -List.map_map, evBody, evCode, evOps, evOper, evOp, opd, Env.get, Env.put, Env.keep, zipEnv, V.ok, V.sto, V.cells, D.cells, V.isAgg, binD, binInt, binStr, shInt, unD, eqOf, asI, leave, resOf, mapO, fzV, tupOf, view, view1, isData, hand, flatV, flatD, allD, mkAgg, mkVal, beq_lit, IntKind.bits, htake_self, htake_push, hget_hpush_self, hset_push, rowOf_self, okIn, lowIn, lowIn1, fzC_d, fzC_row, f26, view, view1, eb, bl, hY0, ld7, ld0, ld3, v1, v2, v3, a1, a2, a3, m1, m2, m3, t1, t2, t3, p60, he, g1, g3, tkA, hZ]
  · rw [if_neg ht, hNB]
    simp [-List.getD_eq_getElem?_getD, -List.map_map, evBody, evCode, evOps, evOper, evOp, opd, Env.get, Env.put, Env.keep, zipEnv, V.ok, V.sto, V.cells, D.cells, V.isAgg, binD, binInt, binStr, shInt, unD, eqOf, asI, leave, resOf, mapO, fzV, tupOf, view, view1, isData, hand, flatV, flatD, allD, mkAgg, mkVal, beq_lit, IntKind.bits, htake_self, htake_push, hget_hpush_self, hset_push, rowOf_self, okIn, lowIn, lowIn1, fzC_d, fzC_row, f26, view, view1, eb, bl, hY0, ld7, ld0, ld3, v1, v2, v3, a1, a2, a3, m1, m2, m3, t1, t2, t3, p60, he, g1, g3, src, ht, p35, hY4, hY5, s2, s2', rl, rm2, okb, hY6, tkB, hZ6]
theorem e26_k5 (X : Hp) (r : Nat) (e : En) (hr : RowsV X r e) (hf : EnFit e) (hk : enOk e = true) (hl : e.list.length ≤ 900000) (hd : e.kind = 5) : ev R 26 [enV r e] X = some (.slc (hlen X + (makeV e).length) 0 0 (makeV e).length, nestH X (makeV e)) := by
  refine ev_fn (fn := f26) rfl rfl ?_
  have p60 := pureCall_eq (cl := ev R) fun H => e60 H e hf
  rw [hk] at p60
  obtain ⟨Y0, hY0⟩ : ∃ Y0, hpush (bxV X r e) (.row 0 1 []) = Y0 := ⟨_, rfl⟩
  have O0 : Out (bxV X r e) (hlen X + 1) Y0 0 [] := by rw [← hY0, ← bxV_len X r e]; exact Out.start _ _ (htake_self _) (Nat.le_refl _)
  have bl := bxV_len X r e
  have ld7 := bxV_load7 O0
  have ld0 := bxV_load O0
  have v1 : rowOf Y0 r 0 = some (1, dat e.list) := O0.base (rowOf_push hr.list)
  have v2 : rowOf Y0 (r + 1) 0 = some (2, (e.scores.map scD).map V.d) := O0.base (rowOf_push hr.scores)
  have v3 : rowOf Y0 (r + 2) 0 = some (2, (e.fields.map prD).map V.d) := O0.base (rowOf_push hr.fields)
  have a1 := allD_dat e.list
  have a2 := allD_d (e.scores.map scD)
  have a3 := allD_d (e.fields.map prD)
  have m1 : e.list.length ≤ (dat e.list).length := by simp [dat]
  have m2 : e.scores.length ≤ ((e.scores.map scD).map V.d).length := by simp
  have m3 : e.fields.length ≤ ((e.fields.map prD).map V.d).length := by simp
  have t1 : (e.list.map D.str).take e.list.length = e.list.map D.str := List.take_of_length_le (by simp)
  have t2 : (e.scores.map scD).take e.scores.length = e.scores.map scD := List.take_of_length_le (by simp)
  have t3 : (e.fields.map prD).take e.fields.length = e.fields.map prD := List.take_of_length_le (by simp)
  have eb : hpush X (.row 0 7 [enV r e]) = bxV X r e := rfl
  obtain ⟨⟨c1, c2, c3, c4, c5, c6⟩, _⟩ := enOk_cf hk hl
  have p35 := pureCall_eq (cl := ev R) fun H => e35 H e.till (by omega)
  have q := l26c X r e (hr.fields) c3 e.fields.length 0 0 [] Y0 [(1, .ptr (hlen X) 0 0 0), (3, .slc (hlen X + 1) 0 0 0), (85, .slc (r + 2) 0 0 e.fields.length), (86, .d (.int .i64 e.fields.length)), (87, .d (.int .i64 0))] (by omega) (by simp; omega) O0 rfl rfl rfl rfl rfl
  have mk : makeV e = (listsL [] ++ (e.fields.drop 0).map (hsetV e.key)) ++ tillO e := by unfold makeV bodyV; rw [if_neg (by omega), if_neg (by omega), if_neg (by omega), if_neg (by omega), if_pos hd]; rfl
  have xl : (listsL [] ++ (e.fields.drop 0).map (hsetV e.key)).length ≤ 900000 := by simp [listsL]; omega
  obtain ⟨e', Y3, g, LL, he, O3, kf, g1, g3⟩ := q
  rw [← kf] at mk xl
  have ld3 := bxV_load O3
  have ll := listsL_len LL
  rw [ll] at xl
  have tkA := out_take O3
  obtain ⟨Z, hZ⟩ := out_own O3
  obtain ⟨Y4, hY4⟩ : ∃ Y4, hpush Y3 (.row 0 1 [.d (.str [69, 88, 80, 73, 82, 69, 65, 84]), .d (.str e.key), .d (.str (decZ e.till))]) = Y4 := ⟨_, rfl⟩
  obtain ⟨Y5, hY5⟩ : ∃ Y5, hpush Y4 (.row 0 1 [.slc (hlen Y3) 0 0 3]) = Y5 := ⟨_, rfl⟩
  obtain ⟨Y6, hY6⟩ : ∃ Y6, hset Y5 (hlen X + 1) (.row (g + 1) 1 (refsL LL ++ [.slc (hlen Y3) 0 0 3])) = Y6 := ⟨_, rfl⟩
  obtain ⟨O4, s2, s2', O6⟩ := out_one O3 (expO e) Y4 Y5 Y6 hY4 hY5 hY6
  have tkB := out_take O6
  obtain ⟨Z6, hZ6⟩ := out_own O6
  have rl := refsL_len LL
  have kl : listsL (LL ++ [(hlen Y3, 0, expO e)]) = listsL LL ++ [expO e] := listsL_snoc _ _ _ _
  have xl3 : (expO e).length = 3 := rfl
  have ln : (LL ++ [(hlen Y3, 0, expO e)]).length = LL.length + 1 := by simp
  rw [kl, ln] at hZ6
  rw [xl3] at s2
  have mkl : (makeV e) = listsL LL ++ tillO e := mk
  rw [mkl]
  have tO : tillO e = if e.till = 0 then [] else [expO e] := rfl
  rw [tO]
  clear mk mkl kl tO
  have rm2 : (LL.length + 1) * 24 ≤ room := by unfold room; omega
  have okb : (hlen X).ble (hlen X + 1) = true := by simp
  obtain ⟨NA, hNA⟩ : ∃ N, nestH X (listsL LL) = N := ⟨_, rfl⟩
  obtain ⟨NB, hNB⟩ : ∃ N, nestH X (listsL LL ++ [expO e]) = N := ⟨_, rfl⟩
  rw [hNA] at hZ
  rw [hNB] at hZ6
  generalize refsL LL = RL at *
  simp only [enD, txts, scs, prs] at p60
  generalize dat e.list = w1 at v1 a1 m1
  generalize (e.scores.map scD).map V.d = w2 at v2 a2 m2
  generalize (e.fields.map prD).map V.d = w3 at v3 a3 m3
  generalize listsL LL = LS at *
  obtain ⟨B, hB⟩ : ∃ B, bxV X r e = B := ⟨_, rfl⟩
  rw [hB] at eb bl hY0
  simp only [hB] at O0 O3 O6
  unfold enV at eb ⊢
  clear O0 O3 O4 O6  hB hf hk hr
  obtain ⟨key, till, kind, text, list, scores, fields⟩ := e
  simp only at *
  subst hd
  by_cases ht : till = 0
  · subst ht
    rw [if_pos rfl, List.append_nil, hNA]
    simp [-List.getD_eq_getElem?_getD, -List.map_map, evBody, evCode, evOps, evOper, evOp, opd, Env.get, Env.put, Env.keep, zipEnv, V.ok, V.sto, V.cells, D.cells, V.isAgg, binD, binInt, binStr, shInt, unD, eqOf, asI, leave, resOf, mapO, fzV, tupOf, view, view1, isData, hand, flatV, flatD, allD, mkAgg, mkVal, beq_lit, IntKind.bits, htake_self, htake_push, hget_hpush_self, hset_push, rowOf_self, okIn, lowIn, lowIn1, fzC_d, fzC_row, f26, view, view1, eb, bl, hY0, ld7, ld0, ld3, v1, v2, v3, a1, a2, a3, m1, m2, m3, t1, t2, t3, p60, he, g1, g3, tkA, hZ]
  · rw [if_neg ht, hNB]
    simp [-List.getD_eq_getElem?_getD, -List.map_map, evBody, evCode, evOps, evOper, evOp, opd, Env.get, Env.put, Env.keep, zipEnv, V.ok, V.sto, V.cells, D.cells, V.isAgg, binD, binInt, binStr, shInt, unD, eqOf, asI, leave, resOf, mapO, fzV, tupOf, view, view1, isData, hand, flatV, flatD, allD, mkAgg, mkVal, beq_lit, IntKind.bits, htake_self, htake_push, hget_hpush_self, hset_push, rowOf_self, okIn, lowIn, lowIn1, fzC_d, fzC_row, f26, view, view1, eb, bl, hY0, ld7, ld0, ld3, v1, v2, v3, a1, a2, a3, m1, m2, m3, t1, t2, t3, p60, he, g1, g3, src, ht, p35, hY4, hY5, s2, s2', rl, rm2, okb, hY6, tkB, hZ6]
theorem e26_no (X : Hp) (r : Nat) (e : En) (hr : RowsV X r e) (hf : EnFit e) (hk : enOk e = false) : ev R 26 [enV r e] X = some (.slc (hlen X) 0 0 0, nestH X []) := by
  refine ev_fn (fn := f26) rfl rfl ?_
  have p60 := pureCall_eq (cl := ev R) fun H => e60 H e hf
  rw [hk] at p60
  obtain ⟨Y0, hY0⟩ : ∃ Y0, hpush (bxV X r e) (.row 0 1 []) = Y0 := ⟨_, rfl⟩
  have O0 : Out (bxV X r e) (hlen X + 1) Y0 0 [] := by rw [← hY0, ← bxV_len X r e]; exact Out.start _ _ (htake_self _) (Nat.le_refl _)
  have bl := bxV_len X r e
  have ld7 := bxV_load7 O0
  have ld0 := bxV_load O0
  have v1 : rowOf Y0 r 0 = some (1, dat e.list) := O0.base (rowOf_push hr.list)
  have v2 : rowOf Y0 (r + 1) 0 = some (2, (e.scores.map scD).map V.d) := O0.base (rowOf_push hr.scores)
  have v3 : rowOf Y0 (r + 2) 0 = some (2, (e.fields.map prD).map V.d) := O0.base (rowOf_push hr.fields)
  have a1 := allD_dat e.list
  have a2 := allD_d (e.scores.map scD)
  have a3 := allD_d (e.fields.map prD)
  have m1 : e.list.length ≤ (dat e.list).length := by simp [dat]
  have m2 : e.scores.length ≤ ((e.scores.map scD).map V.d).length := by simp
  have m3 : e.fields.length ≤ ((e.fields.map prD).map V.d).length := by simp
  have t1 : (e.list.map D.str).take e.list.length = e.list.map D.str := List.take_of_length_le (by simp)
  have t2 : (e.scores.map scD).take e.scores.length = e.scores.map scD := List.take_of_length_le (by simp)
  have t3 : (e.fields.map prD).take e.fields.length = e.fields.map prD := List.take_of_length_le (by simp)
  have eb : hpush X (.row 0 7 [enV r e]) = bxV X r e := rfl
  have tkA := out_take O0
  obtain ⟨Z, hZ⟩ := out_own O0
  simp only [listsL, List.map_nil, List.length_nil, Nat.add_zero] at hZ
  obtain ⟨NA, hNA⟩ : ∃ N, nestH X [] = N := ⟨_, rfl⟩
  rw [hNA] at hZ ⊢
  simp only [enD, txts, scs, prs] at p60
  generalize dat e.list = w1 at v1 a1 m1
  generalize (e.scores.map scD).map V.d = w2 at v2 a2 m2
  generalize (e.fields.map prD).map V.d = w3 at v3 a3 m3
  obtain ⟨B, hB⟩ : ∃ B, bxV X r e = B := ⟨_, rfl⟩
  rw [hB] at eb bl hY0
  unfold enV at eb ⊢
  simp [-List.getD_eq_getElem?_getD, -List.map_map, evBody, evCode, evOps, evOper, evOp, opd, Env.get, Env.put, Env.keep, zipEnv, V.ok, V.sto, V.cells, D.cells, V.isAgg, binD, binInt, binStr, shInt, unD, eqOf, asI, leave, resOf, mapO, fzV, tupOf, view, view1, isData, hand, flatV, flatD, allD, mkAgg, mkVal, beq_lit, IntKind.bits, htake_self, htake_push, hget_hpush_self, hset_push, rowOf_self, okIn, lowIn, lowIn1, fzC_d, fzC_row, f26, eb, bl, hY0, ld7, ld0, v1, v2, v3, a1, a2, a3, m1, m2, m3, t1, t2, t3, p60, tkA, hZ]
theorem e26 (X : Hp) (r : Nat) (e : En) (hr : RowsV X r e) (hf : EnFit e) (hl : e.list.length ≤ 900000) : ev R 26 [enV r e] X = some (.slc (hlen X + (ordersV e).length) 0 0 (ordersV e).length, nestH X (ordersV e)) := by
  unfold ordersV
  by_cases hk : enOk e = true
  · rw [if_pos hk]
    obtain ⟨_, k | k | k | k | k⟩ := enOk_cf hk hl
    · exact e26_k1 X r e hr hf hk hl k
    · exact e26_k2 X r e hr hf hk hl k
    · exact e26_k3 X r e hr hf hk hl k
    · exact e26_k4 X r e hr hf hk hl k
    · exact e26_k5 X r e hr hf hk hl k
  · rw [if_neg hk]
    simpa using e26_no X r e hr hf (by simpa using hk)
end Go.Proofs.YtpmphmpaeooeeaaDoorO.Code
/- An entry copied, looked at as data. -/
namespace Go.Proofs.YtpmphmpaeooeeaaDoorO.Code
open Go Go.Ev Go.Proofs
set_option maxRecDepth 100000
set_option linter.unusedSimpArgs false
set_option linter.unusedVariables false
theorem fzC_in {n r e : Nat} {X : Hp} {ds : List D} (hr : rowOf X r 0 = some (e, ds.map V.d)) (hn : n ≤ r) : fzC n X (.slc r 0 0 ds.length) = some (.d (.vals e ds)) := by
  have f := fz_row (n := n) (d := 7) (i := 0) (k := ds.length) (by omega) hr (by simp) (ys := ds) (by
    rw [List.drop_zero, List.take_of_length_le (by simp)]; exact mapO_d _)
  show (if r < n then _ else (match fz n deep _ (.slc r 0 0 ds.length) with | some x => some (V.d x) | none => none)) = _
  rw [if_neg (by omega), show deep = 7 + 1 from rfl, f]
theorem enH_0 (H : Hp) (e : En) : rowOf (ap H (enH e)) (hlen H) 0 = some (1, (e.list.map D.str).map V.d) := by
  simp [rowOf, ap_get0, enH, hget, rowT]
theorem enH_1 (H : Hp) (e : En) : rowOf (ap H (enH e)) (hlen H + 1) 0 = some (2, (e.scores.map scD).map V.d) := by
  simp [rowOf, ap_get, enH, hget, rowS]
theorem enH_2 (H : Hp) (e : En) : rowOf (ap H (enH e)) (hlen H + 2) 0 = some (2, (e.fields.map prD).map V.d) := by
  simp [rowOf, ap_get, enH, hget, rowP]
theorem p25f (e : En) (h1 : (e.list.length : Int) * 16 ≤ 140737488355328) (h2 : (e.scores.length : Int) * 24 ≤ 140737488355328) (h3 : (e.fields.length : Int) * 32 ≤ 140737488355328) : pureFCall (ev R) 25 [.d (enD e)] = some (.d (enD e)) := by
  refine pureFCall_eq fun H => ⟨_, _, e25 H e h1 h2 h3, ?_, ap_take H _⟩
  have f0 := fzC_in (n := hlen H) (enH_0 H e) (Nat.le_refl _)
  have f1 := fzC_in (n := hlen H) (enH_1 H e) (by omega)
  have f2 := fzC_in (n := hlen H) (enH_2 H e) (by omega)
  rw [List.length_map] at f0 f1 f2
  have g : ∀ x : D, fzC (hlen H) (ap H (enH e)) (.d x) = some (.d x) := fun _ => rfl
  simp only [enV, fzV, mapO, f0, f1, f2, g, mkAgg, allD]
  rfl
theorem p25n (e : En) (h1 : (e.list.length : Int) * 16 ≤ 140737488355328) (h2 : (e.scores.length : Int) * 24 ≤ 140737488355328) (h3 : (e.fields.length : Int) * 32 ≤ 140737488355328) : pureCall (ev R) 25 [.d (enD e)] = none := by
  cases hp : pureCall (ev R) 25 [.d (enD e)] with
  | none => rfl
  | some v =>
    exfalso
    have := pureCall_some hp []
    rw [e25 [] e h1 h2 h3] at this
    simp only [Option.some.injEq, Prod.mk.injEq] at this
    have h := this.2
    simp [ap, enH] at h
end Go.Proofs.YtpmphmpaeooeeaaDoorO.Code
/- Scores and fields marked in place. -/
namespace Go.Proofs.YtpmphmpaeooeeaaDoorO.Code
open Go Go.Ev Go.Proofs
set_option maxRecDepth 100000
set_option linter.unusedSimpArgs false
set_option linter.unusedVariables false
theorem rowS_set (ys : List Sc) (i : Nat) (a : Sc) : ((ys.map scD).map V.d).set i (.d (scD a)) = ((ys.set i a).map scD).map V.d := by simp [List.map_set]
theorem rowS_at (ys : List Sc) (i : Nat) (hi : i < ys.length) : ((ys.map scD).map V.d)[i]? = some (.d (.agg [.str (ys.getD i ([], 0)).1, .int .i64 (ys.getD i ([], 0)).2])) := by
  simp [scD, List.getD_eq_getElem?_getD, hi]
theorem rowS_store0 (X : Hp) (r i : Nat) (ys : List Sc) (v : Txt) (hi : i < ys.length) (hr : rowOf X r 0 = some (2, (ys.map scD).map V.d)) : hstore X r 0 i 0 [.d (.str v)] = some (hset X r (rowS (ys.set i (v, (ys.getD i ([], 0)).2)))) := by
  have g := rowS_at ys i hi
  have h := rowS_set ys i (v, (ys.getD i ([], 0)).2)
  unfold rowS
  rw [← h]
  clear h
  generalize (ys.map scD).map V.d = vs at *
  simp [hstore, hr, g, V.cells, reCell, V.isAgg, mkAgg, allD, scD]
theorem rowS_store1 (X : Hp) (r i : Nat) (ys : List Sc) (v : Int) (hi : i < ys.length) (hr : rowOf X r 0 = some (2, (ys.map scD).map V.d)) : hstore X r 0 i 1 [.d (.int .i64 v)] = some (hset X r (rowS (ys.set i ((ys.getD i ([], 0)).1, v)))) := by
  have g := rowS_at ys i hi
  have h := rowS_set ys i ((ys.getD i ([], 0)).1, v)
  unfold rowS
  rw [← h]
  clear h
  generalize (ys.map scD).map V.d = vs at *
  simp [hstore, hr, g, V.cells, reCell, V.isAgg, mkAgg, allD, scD]
def markSc (b : Nat) : Nat → List Sc
  | 0 => []
  | n + 1 => (markV b, ((b + 1 : Nat) : Int)) :: markSc (b + 2) n
theorem markSc_len : ∀ (n b : Nat), (markSc b n).length = n
  | 0, _ => rfl
  | n + 1, b => by simp [markSc, markSc_len n]
theorem take_setSc (ys : List Sc) (i : Nat) (v : Sc) (hi : i < ys.length) : (ys.set i v).take (i + 1) = ys.take i ++ [v] := by
  rw [List.take_set, List.take_add_one, List.getElem?_eq_getElem hi, Option.toList_some]
  rw [List.set_append_right _ _ (by simp; omega)]
  have : i - (ys.take i).length = 0 := by simp; omega
  rw [this]
  rfl
theorem l63 (n0 r N : Nat) (hN : N ≤ 100000000) : ∀ (n i b : Nat) (X : Hp) (ys : List Sc) (e : Env), i + n = N → ys.length = N → b + 2 * n ≤ 50000000 → rowOf X r 0 = some (2, (ys.map scD).map V.d) → e.get 0 = .slc r 0 0 N → e.get 1 = .d (.int .i64 b) → e.get 5 = .d (.int .i64 i) →
    ∃ e', evLoop (evCode (ev R) R.glob n0 evLoop f63l0) [0, 1, 5] ⟨e, X⟩ = some (.exit 0, ⟨e', hset X r (rowS (ys.take i ++ markSc b n))⟩) ∧ e'.get 1 = .d (.int .i64 (b + 2 * n : Nat))
  | 0, i, b, X, ys, e, hi, hl, hb, hr, h0, h1, h5 => by
    have c : ¬ (i : Int) < (N : Int) := by omega
    have hX : hset X r (rowS (ys.take i ++ markSc b 0)) = X := by
      rw [markSc, List.append_nil, List.take_of_length_le (by omega)]
      exact hset_as (hget_of_row hr)
    rw [hX, evLoop_eq]
    refine ⟨?_, ?_, ?_⟩
    rotate_left
    · simp [-List.getD_eq_getElem?_getD, -List.map_map, evBody, evCode, evOps, evOper, evOp, opd, Env.get, Env.put, Env.keep, zipEnv, V.ok, V.sto, V.cells, D.cells, V.isAgg, binD, binInt, binStr, shInt, unD, eqOf, asI, leave, resOf, mapO, fzV, tupOf, view, view1, isData, hand, flatV, flatD, allD, mkAgg, mkVal, beq_lit, IntKind.bits, htake_self, htake_push, hget_hpush_self, hset_push, rowOf_self, okIn, lowIn, lowIn1, fzC_d, fzC_row, f63l0, h0, h1, h5, c]
      try rfl
    · simp [-List.getD_eq_getElem?_getD, -List.map_map, evBody, evCode, evOps, evOper, evOp, opd, Env.get, Env.put, Env.keep, zipEnv, V.ok, V.sto, V.cells, D.cells, V.isAgg, binD, binInt, binStr, shInt, unD, eqOf, asI, leave, resOf, mapO, fzV, tupOf, view, view1, isData, hand, flatV, flatD, allD, mkAgg, mkVal, beq_lit, IntKind.bits, htake_self, htake_push, hget_hpush_self, hset_push, rowOf_self, okIn, lowIn, lowIn1, fzC_d, fzC_row, h1]
  | n + 1, i, b, X, ys, e, hi, hl, hb, hr, h0, h1, h5 => by
    have c : (i : Int) < (N : Int) := by omega
    have c' : i < N := by omega
    have p := pureCall_eq (cl := ev R) fun H => e76 H b (by omega)
    have p2 := pureCall_eq (cl := ev R) fun H => e76 H (b + 1) (by omega)
    obtain ⟨B1, hB1⟩ : ∃ B : Int, ((b + 1 : Nat) : Int) = B := ⟨_, rfl⟩
    obtain ⟨B2, hB2⟩ : ∃ B : Int, ((b + 2 : Nat) : Int) = B := ⟨_, rfl⟩
    obtain ⟨B0, hB0⟩ : ∃ B : Int, (b : Int) = B := ⟨_, rfl⟩
    have w1 : IntKind.i64.wrap ((i : Int) + 1) = ((i + 1 : Nat) : Int) := by rw [IntWalk.i64_in _ (by omega)]; rfl
    have w2 : IntKind.i64.wrap (B0 + 1) = B1 := by rw [IntWalk.i64_in _ (by omega)]; omega
    have w3 : IntKind.i64.wrap (B1 + 1) = B2 := by rw [IntWalk.i64_in _ (by omega)]; omega
    have hlt := rowOf_lt hr
    have st0 := rowS_store0 X r i ys (markV b) (by omega) hr
    obtain ⟨Y, hY⟩ : ∃ Y, ys.set i (markV b, (ys.getD i ([], 0)).2) = Y := ⟨_, rfl⟩
    rw [hY] at st0
    have hYl : Y.length = N := by rw [← hY]; simp; omega
    have hYi : (Y.getD i ([], 0)).1 = markV b := by
      rw [← hY, List.getD_eq_getElem?_getD, List.getElem?_set_self (by omega)]; rfl
    have r1 : rowOf (hset X r (rowS Y)) r 0 = some (2, (Y.map scD).map V.d) := rowOf_hset_self 0 2 _ hlt
    have st1 := rowS_store1 (hset X r (rowS Y)) r i Y (((b + 1 : Nat) : Int)) (by omega) r1
    rw [hYi, hset_hset, ← hY, List.set_set, hY] at st1
    have ih := l63 n0 r N hN n (i + 1) (b + 2) (hset X r (rowS (ys.set i (markV b, ((b + 1 : Nat) : Int))))) (ys.set i (markV b, ((b + 1 : Nat) : Int)))
    rw [take_setSc ys i _ (by omega), hset_hset, List.append_assoc] at ih
    have em : [(markV b, ((b + 1 : Nat) : Int))] ++ markSc (b + 2) n = markSc b (n + 1) := rfl
    have eb : b + 2 + 2 * n = b + 2 * (n + 1) := by omega
    rw [em, eb] at ih
    have r2 : rowOf (hset X r (rowS (ys.set i (markV b, ((b + 1 : Nat) : Int))))) r 0 = some (2, ((ys.set i (markV b, ((b + 1 : Nat) : Int))).map scD).map V.d) := rowOf_hset_self 0 2 _ hlt
    have yl : (ys.set i (markV b, ((b + 1 : Nat) : Int))).length = N := by simp; omega
    clear em
    generalize hset X r (rowS (ys.set i (markV b, ((b + 1 : Nat) : Int)))) = X2 at *
    generalize hset X r (rowS Y) = X1 at *
    rw [hB2] at ih
    rw [hB0] at h1 p
    try rw [hB1] at st1
    rw [hB1] at p2
    generalize ((b + 2 * (n + 1) : Nat) : Int) = q at *
    generalize markV b = x at *
    generalize markV (b + 1) = x' at *
    rw [evLoop_eq]
    generalize evLoop (evCode (ev R) R.glob n0 evLoop f63l0) [0, 1, 5] = F at ih ⊢
    simp [-List.getD_eq_getElem?_getD, -List.map_map, evBody, evCode, evOps, evOper, evOp, opd, Env.get, Env.put, Env.keep, zipEnv, V.ok, V.sto, V.cells, D.cells, V.isAgg, binD, binInt, binStr, shInt, unD, eqOf, asI, leave, resOf, mapO, fzV, tupOf, view, view1, isData, hand, flatV, flatD, allD, mkAgg, mkVal, beq_lit, IntKind.bits, htake_self, htake_push, hget_hpush_self, hset_push, rowOf_self, okIn, lowIn, lowIn1, fzC_d, fzC_row, f63l0, h0, h1, h5, c, c', p, p2, w1, w2, w3, hr, st0, r1, st1]
    refine ih _ (by omega) yl hb r2 ?_ ?_ ?_ <;> rfl
theorem e63 (X : Hp) (r a : Nat) (xs : List Sc) (ha : a + 2 * xs.length ≤ 50000000) (hr : rowOf X r 0 = some (2, (xs.map scD).map V.d)) : ev R 63 [.slc r 0 0 xs.length, .d (.int .i64 a)] X = some (.d (.int .i64 (a + 2 * xs.length : Nat)), hset X r (rowS (markSc a xs.length))) := by
  refine ev_fn (fn := f63) rfl rfl ?_
  obtain ⟨e', he, h1⟩ := l63 (hlen X) r xs.length (by omega) xs.length 0 a X xs [(0, .slc r 0 0 xs.length), (1, .d (.int .i64 a)), (5, .d (.int .i64 0))] (by omega) rfl (by omega) hr rfl rfl rfl
  rw [List.take_zero, List.nil_append] at he
  have hl := hlen_hset X r (rowS (markSc a xs.length))
  have tk := htake_self (hset X r (rowS (markSc a xs.length)))
  rw [hl] at tk
  generalize ((a + 2 * xs.length : Nat) : Int) = q at *
  generalize hset X r (rowS (markSc a xs.length)) = Y at *
  simp [-List.getD_eq_getElem?_getD, -List.map_map, evBody, evCode, evOps, evOper, evOp, opd, Env.get, Env.put, Env.keep, zipEnv, V.ok, V.sto, V.cells, D.cells, V.isAgg, binD, binInt, binStr, shInt, unD, eqOf, asI, leave, resOf, mapO, fzV, tupOf, view, view1, isData, hand, flatV, flatD, allD, mkAgg, mkVal, beq_lit, IntKind.bits, htake_self, htake_push, hget_hpush_self, hset_push, rowOf_self, okIn, lowIn, lowIn1, fzC_d, fzC_row, f63, he, h1, tk]
theorem rowP_set (ys : List Pr) (i : Nat) (a : Pr) : ((ys.map prD).map V.d).set i (.d (prD a)) = ((ys.set i a).map prD).map V.d := by simp [List.map_set]
theorem rowP_at (ys : List Pr) (i : Nat) (hi : i < ys.length) : ((ys.map prD).map V.d)[i]? = some (.d (.agg [.str (ys.getD i ([], [])).1, .str (ys.getD i ([], [])).2])) := by
  simp [prD, List.getD_eq_getElem?_getD, hi]
theorem rowP_store0 (X : Hp) (r i : Nat) (ys : List Pr) (v : Txt) (hi : i < ys.length) (hr : rowOf X r 0 = some (2, (ys.map prD).map V.d)) : hstore X r 0 i 0 [.d (.str v)] = some (hset X r (rowP (ys.set i (v, (ys.getD i ([], [])).2)))) := by
  have g := rowP_at ys i hi
  have h := rowP_set ys i (v, (ys.getD i ([], [])).2)
  unfold rowP
  rw [← h]
  clear h
  generalize (ys.map prD).map V.d = vs at *
  simp [hstore, hr, g, V.cells, reCell, V.isAgg, mkAgg, allD, prD]
theorem rowP_store1 (X : Hp) (r i : Nat) (ys : List Pr) (v : Txt) (hi : i < ys.length) (hr : rowOf X r 0 = some (2, (ys.map prD).map V.d)) : hstore X r 0 i 1 [.d (.str v)] = some (hset X r (rowP (ys.set i ((ys.getD i ([], [])).1, v)))) := by
  have g := rowP_at ys i hi
  have h := rowP_set ys i ((ys.getD i ([], [])).1, v)
  unfold rowP
  rw [← h]
  clear h
  generalize (ys.map prD).map V.d = vs at *
  simp [hstore, hr, g, V.cells, reCell, V.isAgg, mkAgg, allD, prD]
def markPr (b : Nat) : Nat → List Pr
  | 0 => []
  | n + 1 => (markV b, markV (b + 1)) :: markPr (b + 2) n
theorem markPr_len : ∀ (n b : Nat), (markPr b n).length = n
  | 0, _ => rfl
  | n + 1, b => by simp [markPr, markPr_len n]
theorem take_setPr (ys : List Pr) (i : Nat) (v : Pr) (hi : i < ys.length) : (ys.set i v).take (i + 1) = ys.take i ++ [v] := by
  rw [List.take_set, List.take_add_one, List.getElem?_eq_getElem hi, Option.toList_some]
  rw [List.set_append_right _ _ (by simp; omega)]
  have : i - (ys.take i).length = 0 := by simp; omega
  rw [this]
  rfl
theorem l64 (n0 r N : Nat) (hN : N ≤ 100000000) : ∀ (n i b : Nat) (X : Hp) (ys : List Pr) (e : Env), i + n = N → ys.length = N → b + 2 * n ≤ 50000000 → rowOf X r 0 = some (2, (ys.map prD).map V.d) → e.get 0 = .slc r 0 0 N → e.get 1 = .d (.int .i64 b) → e.get 5 = .d (.int .i64 i) →
    ∃ e', evLoop (evCode (ev R) R.glob n0 evLoop f64l0) [0, 1, 5] ⟨e, X⟩ = some (.exit 0, ⟨e', hset X r (rowP (ys.take i ++ markPr b n))⟩) ∧ e'.get 1 = .d (.int .i64 (b + 2 * n : Nat))
  | 0, i, b, X, ys, e, hi, hl, hb, hr, h0, h1, h5 => by
    have c : ¬ (i : Int) < (N : Int) := by omega
    have hX : hset X r (rowP (ys.take i ++ markPr b 0)) = X := by
      rw [markPr, List.append_nil, List.take_of_length_le (by omega)]
      exact hset_as (hget_of_row hr)
    rw [hX, evLoop_eq]
    refine ⟨?_, ?_, ?_⟩
    rotate_left
    · simp [-List.getD_eq_getElem?_getD, -List.map_map, evBody, evCode, evOps, evOper, evOp, opd, Env.get, Env.put, Env.keep, zipEnv, V.ok, V.sto, V.cells, D.cells, V.isAgg, binD, binInt, binStr, shInt, unD, eqOf, asI, leave, resOf, mapO, fzV, tupOf, view, view1, isData, hand, flatV, flatD, allD, mkAgg, mkVal, beq_lit, IntKind.bits, htake_self, htake_push, hget_hpush_self, hset_push, rowOf_self, okIn, lowIn, lowIn1, fzC_d, fzC_row, f64l0, h0, h1, h5, c]
      try rfl
    · simp [-List.getD_eq_getElem?_getD, -List.map_map, evBody, evCode, evOps, evOper, evOp, opd, Env.get, Env.put, Env.keep, zipEnv, V.ok, V.sto, V.cells, D.cells, V.isAgg, binD, binInt, binStr, shInt, unD, eqOf, asI, leave, resOf, mapO, fzV, tupOf, view, view1, isData, hand, flatV, flatD, allD, mkAgg, mkVal, beq_lit, IntKind.bits, htake_self, htake_push, hget_hpush_self, hset_push, rowOf_self, okIn, lowIn, lowIn1, fzC_d, fzC_row, h1]
  | n + 1, i, b, X, ys, e, hi, hl, hb, hr, h0, h1, h5 => by
    have c : (i : Int) < (N : Int) := by omega
    have c' : i < N := by omega
    have p := pureCall_eq (cl := ev R) fun H => e76 H b (by omega)
    have p2 := pureCall_eq (cl := ev R) fun H => e76 H (b + 1) (by omega)
    obtain ⟨B1, hB1⟩ : ∃ B : Int, ((b + 1 : Nat) : Int) = B := ⟨_, rfl⟩
    obtain ⟨B2, hB2⟩ : ∃ B : Int, ((b + 2 : Nat) : Int) = B := ⟨_, rfl⟩
    obtain ⟨B0, hB0⟩ : ∃ B : Int, (b : Int) = B := ⟨_, rfl⟩
    have w1 : IntKind.i64.wrap ((i : Int) + 1) = ((i + 1 : Nat) : Int) := by rw [IntWalk.i64_in _ (by omega)]; rfl
    have w2 : IntKind.i64.wrap (B0 + 1) = B1 := by rw [IntWalk.i64_in _ (by omega)]; omega
    have w3 : IntKind.i64.wrap (B1 + 1) = B2 := by rw [IntWalk.i64_in _ (by omega)]; omega
    have hlt := rowOf_lt hr
    have st0 := rowP_store0 X r i ys (markV b) (by omega) hr
    obtain ⟨Y, hY⟩ : ∃ Y, ys.set i (markV b, (ys.getD i ([], [])).2) = Y := ⟨_, rfl⟩
    rw [hY] at st0
    have hYl : Y.length = N := by rw [← hY]; simp; omega
    have hYi : (Y.getD i ([], [])).1 = markV b := by
      rw [← hY, List.getD_eq_getElem?_getD, List.getElem?_set_self (by omega)]; rfl
    have r1 : rowOf (hset X r (rowP Y)) r 0 = some (2, (Y.map prD).map V.d) := rowOf_hset_self 0 2 _ hlt
    have st1 := rowP_store1 (hset X r (rowP Y)) r i Y (markV (b + 1)) (by omega) r1
    rw [hYi, hset_hset, ← hY, List.set_set, hY] at st1
    have ih := l64 n0 r N hN n (i + 1) (b + 2) (hset X r (rowP (ys.set i (markV b, markV (b + 1))))) (ys.set i (markV b, markV (b + 1)))
    rw [take_setPr ys i _ (by omega), hset_hset, List.append_assoc] at ih
    have em : [(markV b, markV (b + 1))] ++ markPr (b + 2) n = markPr b (n + 1) := rfl
    have eb : b + 2 + 2 * n = b + 2 * (n + 1) := by omega
    rw [em, eb] at ih
    have r2 : rowOf (hset X r (rowP (ys.set i (markV b, markV (b + 1))))) r 0 = some (2, ((ys.set i (markV b, markV (b + 1))).map prD).map V.d) := rowOf_hset_self 0 2 _ hlt
    have yl : (ys.set i (markV b, markV (b + 1))).length = N := by simp; omega
    clear em
    generalize hset X r (rowP (ys.set i (markV b, markV (b + 1)))) = X2 at *
    generalize hset X r (rowP Y) = X1 at *
    rw [hB2] at ih
    rw [hB0] at h1 p
    try rw [hB1] at st1
    rw [hB1] at p2
    generalize ((b + 2 * (n + 1) : Nat) : Int) = q at *
    generalize markV b = x at *
    generalize markV (b + 1) = x' at *
    rw [evLoop_eq]
    generalize evLoop (evCode (ev R) R.glob n0 evLoop f64l0) [0, 1, 5] = F at ih ⊢
    simp [-List.getD_eq_getElem?_getD, -List.map_map, evBody, evCode, evOps, evOper, evOp, opd, Env.get, Env.put, Env.keep, zipEnv, V.ok, V.sto, V.cells, D.cells, V.isAgg, binD, binInt, binStr, shInt, unD, eqOf, asI, leave, resOf, mapO, fzV, tupOf, view, view1, isData, hand, flatV, flatD, allD, mkAgg, mkVal, beq_lit, IntKind.bits, htake_self, htake_push, hget_hpush_self, hset_push, rowOf_self, okIn, lowIn, lowIn1, fzC_d, fzC_row, f64l0, h0, h1, h5, c, c', p, p2, w1, w2, w3, hr, st0, r1, st1]
    refine ih _ (by omega) yl hb r2 ?_ ?_ ?_ <;> rfl
theorem e64 (X : Hp) (r a : Nat) (xs : List Pr) (ha : a + 2 * xs.length ≤ 50000000) (hr : rowOf X r 0 = some (2, (xs.map prD).map V.d)) : ev R 64 [.slc r 0 0 xs.length, .d (.int .i64 a)] X = some (.d (.int .i64 (a + 2 * xs.length : Nat)), hset X r (rowP (markPr a xs.length))) := by
  refine ev_fn (fn := f64) rfl rfl ?_
  obtain ⟨e', he, h1⟩ := l64 (hlen X) r xs.length (by omega) xs.length 0 a X xs [(0, .slc r 0 0 xs.length), (1, .d (.int .i64 a)), (5, .d (.int .i64 0))] (by omega) rfl (by omega) hr rfl rfl rfl
  rw [List.take_zero, List.nil_append] at he
  have hl := hlen_hset X r (rowP (markPr a xs.length))
  have tk := htake_self (hset X r (rowP (markPr a xs.length)))
  rw [hl] at tk
  generalize ((a + 2 * xs.length : Nat) : Int) = q at *
  generalize hset X r (rowP (markPr a xs.length)) = Y at *
  simp [-List.getD_eq_getElem?_getD, -List.map_map, evBody, evCode, evOps, evOper, evOp, opd, Env.get, Env.put, Env.keep, zipEnv, V.ok, V.sto, V.cells, D.cells, V.isAgg, binD, binInt, binStr, shInt, unD, eqOf, asI, leave, resOf, mapO, fzV, tupOf, view, view1, isData, hand, flatV, flatD, allD, mkAgg, mkVal, beq_lit, IntKind.bits, htake_self, htake_push, hget_hpush_self, hset_push, rowOf_self, okIn, lowIn, lowIn1, fzC_d, fzC_row, f64, he, h1, tk]
end Go.Proofs.YtpmphmpaeooeeaaDoorO.Code
/- An entry marked in place. -/
namespace Go.Proofs.YtpmphmpaeooeeaaDoorO.Code
open Go Go.Ev Go.Proofs
set_option maxRecDepth 100000
set_option linter.unusedSimpArgs false
set_option linter.unusedVariables false
/-- The rows r, r + 1, r + 2 of an entry's lists marked. -/
def markE (X : Hp) (r : Nat) (e : En) : Hp :=
  hset (hset (hset X r (rowT 0 (marks 1 e.list.length))) (r + 1) (rowS (markSc (1 + e.list.length) e.scores.length))) (r + 2) (rowP (markPr (1 + e.list.length + 2 * e.scores.length) e.fields.length))
theorem markE_len (X : Hp) (r : Nat) (e : En) : hlen (markE X r e) = hlen X := by simp only [markE, hlen_hset]
theorem markE_ne (X : Hp) (r : Nat) (e : En) (q g : Nat) (h : q < r ∨ r + 2 < q) : rowOf (markE X r e) q g = rowOf X q g := by
  unfold markE
  rw [rowOf_hset_ne _ (by omega), rowOf_hset_ne _ (by omega), rowOf_hset_ne _ (by omega)]
theorem e28 (X : Hp) (r : Nat) (e : En) (hs : e.list.length + 2 * e.scores.length + 2 * e.fields.length ≤ 40000000) (h1 : rowOf X r 0 = some (1, dat e.list)) (h2 : rowOf X (r + 1) 0 = some (2, (e.scores.map scD).map V.d)) (h3 : rowOf X (r + 2) 0 = some (2, (e.fields.map prD).map V.d)) :
    ev R 28 [enV r e, .d (.int .i64 1)] X = some (.d (.int .i64 (1 + e.list.length + 2 * e.scores.length + 2 * e.fields.length : Nat)), markE X r e) := by
  refine ev_fn (fn := f28) rfl rfl ?_
  obtain ⟨o, ho⟩ : ∃ o, Ev.Obj.row 0 7 [enV r e] = o := ⟨_, rfl⟩
  have k1 := rowOf_lt h1
  have k2 := rowOf_lt h2
  have k3 := rowOf_lt h3
  have q1 : ev R 52 [.slc r 0 0 e.list.length, .d (.int .i64 1)] (hpush X o) = _ := e52 (hpush X o) r 1 e.list (by omega) (rowOf_push h1)
  rw [hset_push_lt k1] at q1
  obtain ⟨X1, hX1⟩ : ∃ X1, hset X r (rowT 0 (marks 1 e.list.length)) = X1 := ⟨_, rfl⟩
  have l1 : hlen X1 = hlen X := by rw [← hX1, hlen_hset]
  have g2 : rowOf X1 (r + 1) 0 = some (2, (e.scores.map scD).map V.d) := by rw [← hX1, rowOf_hset_ne _ (by omega)]; exact h2
  have g3 : rowOf X1 (r + 2) 0 = some (2, (e.fields.map prD).map V.d) := by rw [← hX1, rowOf_hset_ne _ (by omega)]; exact h3
  have q2 := e63 (hpush X1 o) (r + 1) (1 + e.list.length) e.scores (by omega) (rowOf_push g2)
  rw [hset_push_lt (by omega)] at q2
  obtain ⟨X2, hX2⟩ : ∃ X2, hset X1 (r + 1) (rowS (markSc (1 + e.list.length) e.scores.length)) = X2 := ⟨_, rfl⟩
  have l2 : hlen X2 = hlen X := by rw [← hX2, hlen_hset]; exact l1
  have g4 : rowOf X2 (r + 2) 0 = some (2, (e.fields.map prD).map V.d) := by rw [← hX2, rowOf_hset_ne _ (by omega)]; exact g3
  have q3 := e64 (hpush X2 o) (r + 2) (1 + e.list.length + 2 * e.scores.length) e.fields (by omega) (rowOf_push g4)
  rw [hset_push_lt (by omega)] at q3
  unfold markE
  rw [hX1] at q1 ⊢
  rw [hX2] at q2 ⊢
  obtain ⟨X3, hX3⟩ : ∃ X3, hset X2 (r + 2) (rowP (markPr (1 + e.list.length + 2 * e.scores.length) e.fields.length)) = X3 := ⟨_, rfl⟩
  have l3 : hlen X3 = hlen X := by rw [← hX3, hlen_hset]; exact l2
  rw [hX3] at q3 ⊢
  have ld : ∀ Y, hlen Y = hlen X → ∀ j, hload (hpush Y o) (hlen X) 0 0 j 1 = if j + 1 ≤ 7 then some (([.d (.str e.key), .d (.int .i64 e.till), .d (.int .i64 e.kind), .d (.str e.text), .slc r 0 0 e.list.length, .slc (r + 1) 0 0 e.scores.length, .slc (r + 2) 0 0 e.fields.length].drop j).take 1) else none := fun Y hY j => by
    rw [← hY, ← ho]
    simp [hload, rowOf_self, enV, V.cells]
  have ld0 := ld X rfl
  have ld1 := ld X1 l1
  have ld2 := ld X2 l2
  have tk : htake (hpush X3 o) (hlen X) = X3 := by rw [← l3]; exact htake_push _ _
  simp only [enV] at ho ⊢
  generalize ((1 + e.list.length : Nat) : Int) = a1 at *
  generalize ((1 + e.list.length + 2 * e.scores.length : Nat) : Int) = a2 at *
  generalize ((1 + e.list.length + 2 * e.scores.length + 2 * e.fields.length : Nat) : Int) = a3 at *
  clear ld
  simp [-List.getD_eq_getElem?_getD, -List.map_map, evBody, evCode, evOps, evOper, evOp, opd, Env.get, Env.put, Env.keep, zipEnv, V.ok, V.sto, V.cells, D.cells, V.isAgg, binD, binInt, binStr, shInt, unD, eqOf, asI, leave, resOf, mapO, fzV, tupOf, view, view1, isData, hand, flatV, flatD, allD, mkAgg, mkVal, beq_lit, IntKind.bits, htake_self, htake_push, hget_hpush_self, hset_push, rowOf_self, okIn, lowIn, lowIn1, fzC_d, fzC_row, f28, ho, ld0, ld1, ld2, q1, q2, q3, tk]
end Go.Proofs.YtpmphmpaeooeeaaDoorO.Code
/- Entries compared with themselves. -/
namespace Go.Proofs.YtpmphmpaeooeeaaDoorO.Code
open Go Go.Ev Go.Proofs
set_option maxRecDepth 100000
set_option linter.unusedSimpArgs false
set_option linter.unusedVariables false
theorem tak2 (H : Hp) (a b : Ev.Obj) : htake (hpush (hpush H a) b) (hlen H) = H := by simp [htake, hpush, hlen]
theorem e92_same (H : Hp) (x : Txt) (n : Int) : ev R 92 [.d (.agg [.str x, .int .i64 n]), .d (.agg [.str x, .int .i64 n])] H = some (.d (.bool true), H) := by
  refine ev_fn (fn := f92) rfl rfl ?_
  simp [-List.getD_eq_getElem?_getD, -List.map_map, evBody, evCode, evOps, evOper, evOp, opd, Env.get, Env.put, Env.keep, zipEnv, V.ok, V.sto, V.cells, D.cells, V.isAgg, binD, binInt, binStr, shInt, unD, eqOf, asI, leave, resOf, mapO, fzV, tupOf, view, view1, isData, hand, flatV, flatD, allD, mkAgg, mkVal, beq_lit, IntKind.bits, htake_self, htake_push, hget_hpush_self, hset_push, rowOf_self, okIn, lowIn, lowIn1, fzC_d, fzC_row, f92, hlen_hpush, hload, rowOf, get2_0, get2_1, tak2]
theorem e93_same (H : Hp) (x y : Txt) : ev R 93 [.d (.agg [.str x, .str y]), .d (.agg [.str x, .str y])] H = some (.d (.bool true), H) := by
  refine ev_fn (fn := f93) rfl rfl ?_
  simp [-List.getD_eq_getElem?_getD, -List.map_map, evBody, evCode, evOps, evOper, evOp, opd, Env.get, Env.put, Env.keep, zipEnv, V.ok, V.sto, V.cells, D.cells, V.isAgg, binD, binInt, binStr, shInt, unD, eqOf, asI, leave, resOf, mapO, fzV, tupOf, view, view1, isData, hand, flatV, flatD, allD, mkAgg, mkVal, beq_lit, IntKind.bits, htake_self, htake_push, hget_hpush_self, hset_push, rowOf_self, okIn, lowIn, lowIn1, fzC_d, fzC_row, f93, hlen_hpush, hload, rowOf, get2_0, get2_1, tak2]
theorem l61 (n0 : Nat) (xs : List Sc) (hx : xs.length ≤ 9223372036854775807) (H : Hp) : ∀ (n i : Nat) (e : Env), i + n = xs.length → e.get 0 = .d (.vals 2 (xs.map scD)) → e.get 1 = .d (.vals 2 (xs.map scD)) → e.get 5 = .d (.int .i64 i) →
    ∃ e', evLoop (evCode (ev R) R.glob n0 evLoop f61l0) [0, 1, 5] ⟨e, H⟩ = some (.exit 0, ⟨e', H⟩)
  | 0, i, e, hn, h0, h1, h5 => by
    have c : ¬ (i : Int) < (xs.length : Int) := by omega
    have c' : ¬ i < xs.length := by omega
    rw [evLoop_eq]
    refine ⟨?_, ?_⟩
    rotate_left
    · simp [-List.getD_eq_getElem?_getD, -List.map_map, evBody, evCode, evOps, evOper, evOp, opd, Env.get, Env.put, Env.keep, zipEnv, V.ok, V.sto, V.cells, D.cells, V.isAgg, binD, binInt, binStr, shInt, unD, eqOf, asI, leave, resOf, mapO, fzV, tupOf, view, view1, isData, hand, flatV, flatD, allD, mkAgg, mkVal, beq_lit, IntKind.bits, htake_self, htake_push, hget_hpush_self, hset_push, rowOf_self, okIn, lowIn, lowIn1, fzC_d, fzC_row, f61l0, h0, h1, h5, c, c']
      try rfl
  | n + 1, i, e, hn, h0, h1, h5 => by
    have c' : i < xs.length := by omega
    have c : (i : Int) < (xs.length : Int) := by omega
    have g := scs_get xs i c'
    have p := pureCall_eq (cl := ev R) fun H => e92_same H (xs.getD i ([], 0)).1 (xs.getD i ([], 0)).2
    have w1 : IntKind.i64.wrap ((i : Int) + 1) = ((i + 1 : Nat) : Int) := by rw [IntWalk.i64_in _ (by omega)]; rfl
    have ih := l61 n0 xs hx H n (i + 1)
    generalize (xs.getD i ([], 0)) = X at *
    rw [evLoop_eq]
    generalize evLoop (evCode (ev R) R.glob n0 evLoop f61l0) [0, 1, 5] = F at ih ⊢
    simp [-List.getD_eq_getElem?_getD, -List.map_map, evBody, evCode, evOps, evOper, evOp, opd, Env.get, Env.put, Env.keep, zipEnv, V.ok, V.sto, V.cells, D.cells, V.isAgg, binD, binInt, binStr, shInt, unD, eqOf, asI, leave, resOf, mapO, fzV, tupOf, view, view1, isData, hand, flatV, flatD, allD, mkAgg, mkVal, beq_lit, IntKind.bits, htake_self, htake_push, hget_hpush_self, hset_push, rowOf_self, okIn, lowIn, lowIn1, fzC_d, fzC_row, f61l0, h0, h1, h5, c, c', g, p, w1]
    refine ih _ (by omega) ?_ ?_ ?_ <;> rfl
theorem e61_same (H : Hp) (xs : List Sc) (hx : xs.length ≤ 9223372036854775807) : ev R 61 [.d (.vals 2 (xs.map scD)), .d (.vals 2 (xs.map scD))] H = some (.d (.bool true), H) := by
  refine ev_fn (fn := f61) rfl rfl ?_
  obtain ⟨e', he⟩ := l61 (hlen H) xs hx H xs.length 0 [(0, .d (.vals 2 (xs.map scD))), (1, .d (.vals 2 (xs.map scD))), (5, .d (.int .i64 0))] (by omega) rfl rfl rfl
  simp [-List.getD_eq_getElem?_getD, -List.map_map, evBody, evCode, evOps, evOper, evOp, opd, Env.get, Env.put, Env.keep, zipEnv, V.ok, V.sto, V.cells, D.cells, V.isAgg, binD, binInt, binStr, shInt, unD, eqOf, asI, leave, resOf, mapO, fzV, tupOf, view, view1, isData, hand, flatV, flatD, allD, mkAgg, mkVal, beq_lit, IntKind.bits, htake_self, htake_push, hget_hpush_self, hset_push, rowOf_self, okIn, lowIn, lowIn1, fzC_d, fzC_row, f61, he]
theorem l62 (n0 : Nat) (xs : List Pr) (hx : xs.length ≤ 9223372036854775807) (H : Hp) : ∀ (n i : Nat) (e : Env), i + n = xs.length → e.get 0 = .d (.vals 2 (xs.map prD)) → e.get 1 = .d (.vals 2 (xs.map prD)) → e.get 5 = .d (.int .i64 i) →
    ∃ e', evLoop (evCode (ev R) R.glob n0 evLoop f62l0) [0, 1, 5] ⟨e, H⟩ = some (.exit 0, ⟨e', H⟩)
  | 0, i, e, hn, h0, h1, h5 => by
    have c : ¬ (i : Int) < (xs.length : Int) := by omega
    have c' : ¬ i < xs.length := by omega
    rw [evLoop_eq]
    refine ⟨?_, ?_⟩
    rotate_left
    · simp [-List.getD_eq_getElem?_getD, -List.map_map, evBody, evCode, evOps, evOper, evOp, opd, Env.get, Env.put, Env.keep, zipEnv, V.ok, V.sto, V.cells, D.cells, V.isAgg, binD, binInt, binStr, shInt, unD, eqOf, asI, leave, resOf, mapO, fzV, tupOf, view, view1, isData, hand, flatV, flatD, allD, mkAgg, mkVal, beq_lit, IntKind.bits, htake_self, htake_push, hget_hpush_self, hset_push, rowOf_self, okIn, lowIn, lowIn1, fzC_d, fzC_row, f62l0, h0, h1, h5, c, c']
      try rfl
  | n + 1, i, e, hn, h0, h1, h5 => by
    have c' : i < xs.length := by omega
    have c : (i : Int) < (xs.length : Int) := by omega
    have g := prs_get xs i c'
    have p := pureCall_eq (cl := ev R) fun H => e93_same H (xs.getD i ([], [])).1 (xs.getD i ([], [])).2
    have w1 : IntKind.i64.wrap ((i : Int) + 1) = ((i + 1 : Nat) : Int) := by rw [IntWalk.i64_in _ (by omega)]; rfl
    have ih := l62 n0 xs hx H n (i + 1)
    generalize (xs.getD i ([], [])) = X at *
    rw [evLoop_eq]
    generalize evLoop (evCode (ev R) R.glob n0 evLoop f62l0) [0, 1, 5] = F at ih ⊢
    simp [-List.getD_eq_getElem?_getD, -List.map_map, evBody, evCode, evOps, evOper, evOp, opd, Env.get, Env.put, Env.keep, zipEnv, V.ok, V.sto, V.cells, D.cells, V.isAgg, binD, binInt, binStr, shInt, unD, eqOf, asI, leave, resOf, mapO, fzV, tupOf, view, view1, isData, hand, flatV, flatD, allD, mkAgg, mkVal, beq_lit, IntKind.bits, htake_self, htake_push, hget_hpush_self, hset_push, rowOf_self, okIn, lowIn, lowIn1, fzC_d, fzC_row, f62l0, h0, h1, h5, c, c', g, p, w1]
    refine ih _ (by omega) ?_ ?_ ?_ <;> rfl
theorem e62_same (H : Hp) (xs : List Pr) (hx : xs.length ≤ 9223372036854775807) : ev R 62 [.d (.vals 2 (xs.map prD)), .d (.vals 2 (xs.map prD))] H = some (.d (.bool true), H) := by
  refine ev_fn (fn := f62) rfl rfl ?_
  obtain ⟨e', he⟩ := l62 (hlen H) xs hx H xs.length 0 [(0, .d (.vals 2 (xs.map prD))), (1, .d (.vals 2 (xs.map prD))), (5, .d (.int .i64 0))] (by omega) rfl rfl rfl
  simp [-List.getD_eq_getElem?_getD, -List.map_map, evBody, evCode, evOps, evOper, evOp, opd, Env.get, Env.put, Env.keep, zipEnv, V.ok, V.sto, V.cells, D.cells, V.isAgg, binD, binInt, binStr, shInt, unD, eqOf, asI, leave, resOf, mapO, fzV, tupOf, view, view1, isData, hand, flatV, flatD, allD, mkAgg, mkVal, beq_lit, IntKind.bits, htake_self, htake_push, hget_hpush_self, hset_push, rowOf_self, okIn, lowIn, lowIn1, fzC_d, fzC_row, f62, he]
theorem e27_same (H : Hp) (e : En) (hf : EnFit e) : ev R 27 [.d (enD e), .d (enD e)] H = some (.d (.bool true), H) := by
  refine ev_fn (fn := f27) rfl rfl ?_
  have p1 := pureCall_eq (cl := ev R) fun H => e37_same H e.list hf.list
  have p2 := pureCall_eq (cl := ev R) fun H => e61_same H e.scores hf.scores
  have p3 := pureCall_eq (cl := ev R) fun H => e62_same H e.fields hf.fields
  simp only [txts] at p1
  obtain ⟨key, till, kind, text, list, scores, fields⟩ := e
  simp only at *
  unfold enD txts scs prs
  simp only
  generalize list.map D.str = d1 at *
  generalize scores.map scD = d2 at *
  generalize fields.map prD = d3 at *
  simp [-List.getD_eq_getElem?_getD, -List.map_map, evBody, evCode, evOps, evOper, evOp, opd, Env.get, Env.put, Env.keep, zipEnv, V.ok, V.sto, V.cells, D.cells, V.isAgg, binD, binInt, binStr, shInt, unD, eqOf, asI, leave, resOf, mapO, fzV, tupOf, view, view1, isData, hand, flatV, flatD, allD, mkAgg, mkVal, beq_lit, IntKind.bits, htake_self, htake_push, hget_hpush_self, hset_push, rowOf_self, okIn, lowIn, lowIn1, fzC_d, fzC_row, f27, hlen_hpush, hload, rowOf, get2_0, get2_1, tak2, p1, p2, p3]
end Go.Proofs.YtpmphmpaeooeeaaDoorO.Code
/- Lists of lists compared with themselves. -/
namespace Go.Proofs.YtpmphmpaeooeeaaDoorO.Code
open Go Go.Ev Go.Proofs
set_option maxRecDepth 100000
set_option linter.unusedSimpArgs false
set_option linter.unusedVariables false
theorem l11 (n0 : Nat) (xss : List (List Txt)) (hx : xss.length ≤ 1048576) (hs : ∀ i, (xss.getD i []).length ≤ 1048576) (H : Hp) : ∀ (n i : Nat) (e : Env), i + n = xss.length → e.get 0 = .d (.vals 1 (textss xss)) → e.get 1 = .d (.vals 1 (textss xss)) → e.get 5 = .d (.int .i64 i) →
    ∃ e', evLoop (evCode (ev R) R.glob n0 evLoop f11l0) [0, 1, 5] ⟨e, H⟩ = some (.exit 0, ⟨e', H⟩)
  | 0, i, e, hn, h0, h1, h5 => by
    have c : ¬ (i : Int) < ((textss xss).length : Int) := by rw [textss_len]; omega
    rw [evLoop_eq]
    refine ⟨?_, ?_⟩
    rotate_left
    · simp [-List.getD_eq_getElem?_getD, -List.map_map, evBody, evCode, evOps, evOper, evOp, opd, Env.get, Env.put, Env.keep, zipEnv, V.ok, V.sto, V.cells, D.cells, V.isAgg, binD, binInt, binStr, shInt, unD, eqOf, asI, leave, resOf, mapO, fzV, tupOf, view, view1, isData, hand, flatV, flatD, allD, mkAgg, mkVal, beq_lit, IntKind.bits, htake_self, htake_push, hget_hpush_self, hset_push, rowOf_self, okIn, lowIn, lowIn1, fzC_d, fzC_row, f11l0, h0, h1, h5, c]
      try rfl
  | n + 1, i, e, hn, h0, h1, h5 => by
    have c' : i < xss.length := by omega
    have c : (i : Int) < ((textss xss).length : Int) := by rw [textss_len]; omega
    have c2' : i < (textss xss).length := by rw [textss_len]; exact c'
    have g := textss_get xss i c'
    have hsi := hs i
    have p := pureCall_eq (cl := ev R) fun H => e37_same H (xss.getD i []) (by omega)
    have w1 : IntKind.i64.wrap ((i : Int) + 1) = ((i + 1 : Nat) : Int) := by rw [IntWalk.i64_in _ (by omega)]; rfl
    have ih := l11 n0 xss hx hs H n (i + 1)
    simp only [txts] at g p
    generalize List.map D.str (xss.getD i []) = T at g p
    rw [evLoop_eq]
    generalize evLoop (evCode (ev R) R.glob n0 evLoop f11l0) [0, 1, 5] = F at ih ⊢
    simp [-List.getD_eq_getElem?_getD, -List.map_map, evBody, evCode, evOps, evOper, evOp, opd, Env.get, Env.put, Env.keep, zipEnv, V.ok, V.sto, V.cells, D.cells, V.isAgg, binD, binInt, binStr, shInt, unD, eqOf, asI, leave, resOf, mapO, fzV, tupOf, view, view1, isData, hand, flatV, flatD, allD, mkAgg, mkVal, beq_lit, IntKind.bits, htake_self, htake_push, hget_hpush_self, hset_push, rowOf_self, okIn, lowIn, lowIn1, fzC_d, fzC_row, f11l0, h0, h1, h5, c, c2', g, p, w1]
    refine ih _ (by omega) ?_ ?_ ?_ <;> rfl
theorem e11_same (H : Hp) (xss : List (List Txt)) (hx : xss.length ≤ 1048576) (hs : ∀ i, (xss.getD i []).length ≤ 1048576) : ev R 11 [.d (.vals 1 (textss xss)), .d (.vals 1 (textss xss))] H = some (.d (.bool true), H) := by
  refine ev_fn (fn := f11) rfl rfl ?_
  obtain ⟨e', he⟩ := l11 (hlen H) xss hx hs H xss.length 0 [(0, .d (.vals 1 (textss xss))), (1, .d (.vals 1 (textss xss))), (5, .d (.int .i64 0))] (by omega) rfl rfl rfl
  simp [-List.getD_eq_getElem?_getD, -List.map_map, evBody, evCode, evOps, evOper, evOp, opd, Env.get, Env.put, Env.keep, zipEnv, V.ok, V.sto, V.cells, D.cells, V.isAgg, binD, binInt, binStr, shInt, unD, eqOf, asI, leave, resOf, mapO, fzV, tupOf, view, view1, isData, hand, flatV, flatD, allD, mkAgg, mkVal, beq_lit, IntKind.bits, htake_self, htake_push, hget_hpush_self, hset_push, rowOf_self, okIn, lowIn, lowIn1, fzC_d, fzC_row, f11, he]
end Go.Proofs.YtpmphmpaeooeeaaDoorO.Code
/- What FnExactOrders answers. -/
namespace Go.Proofs.YtpmphmpaeooeeaaDoorO.Code
open Go Go.Ev Go.Proofs
set_option maxRecDepth 100000
set_option maxHeartbeats 2000000
set_option linter.unusedSimpArgs false
set_option linter.unusedVariables false
theorem enOk_small {e : En} (h : enOk e = true) : e.list.length ≤ 16 ∧ e.scores.length ≤ 16 ∧ e.fields.length ≤ 16 := by
  have em : ∀ {α : Type} {l : List α}, l.isEmpty = true → l.length = 0 := fun {α l} h => by cases l <;> simp_all
  unfold enOk kindV at h
  simp only [Bool.and_eq_true] at h
  have h3 := h.2
  split at h3
  · simp only [Bool.and_eq_true] at h3
    have := em h3.1.1.2; have := em h3.1.2; have := em h3.2
    omega
  · split at h3
    · simp only [Bool.and_eq_true, okTexts, decide_eq_true_eq] at h3
      have := em h3.1.2; have := em h3.2
      have := h3.1.1.2.2
      omega
    · split at h3
      · simp only [Bool.and_eq_true, setV, okTexts, decide_eq_true_eq] at h3
        have := em h3.1.2; have := em h3.2
        have := h3.1.1.2.2.2
        omega
      · split at h3
        · simp only [Bool.and_eq_true, scoresV, decide_eq_true_eq] at h3
          have := em h3.2; have := em h3.1.1.1.2
          have := h3.1.2.2
          omega
        · split at h3
          · simp only [Bool.and_eq_true, fieldsV, decide_eq_true_eq] at h3
            have := em h3.1.1.1.2; have := em h3.1.1.2
            have := h3.2.2
            omega
          · simp at h3
theorem chunks_small (w k : Txt) (xs : List Txt) : ∀ (f i : Nat), ∀ x ∈ chunks w k xs f i, x.length ≤ 8
  | 0, _, x, h => by simp [chunks] at h
  | f + 1, i, x, h => by
    rw [chunks] at h
    split at h
    · rcases List.mem_cons.1 h with rfl | h
      · simp; omega
      · exact chunks_small w k xs f (i + 6) x h
    · simp at h
theorem make_small {e : En} (h : enOk e = true) : (makeV e).length ≤ 17 ∧ ∀ x ∈ makeV e, x.length ≤ 8 := by
  obtain ⟨h1, h2, h3⟩ := enOk_small h
  have hb : (bodyV e).length ≤ 16 ∧ ∀ x ∈ bodyV e, x.length ≤ 8 := by
    unfold bodyV
    split
    · simp
    · split
      · exact ⟨Nat.le_trans (chunks_len _ _ _ _ _) h1, chunks_small _ _ _ _ _⟩
      · split
        · exact ⟨Nat.le_trans (chunks_len _ _ _ _ _) h1, chunks_small _ _ _ _ _⟩
        · split
          · refine ⟨by simpa using h2, fun x hx => ?_⟩
            obtain ⟨y, _, rfl⟩ := List.mem_map.1 hx
            simp [zadd]
          · split
            · refine ⟨by simpa using h3, fun x hx => ?_⟩
              obtain ⟨y, _, rfl⟩ := List.mem_map.1 hx
              simp [hsetV]
            · simp
  have ht : (tillO e).length ≤ 1 ∧ ∀ x ∈ tillO e, x.length ≤ 8 := by
    unfold tillO
    split <;> simp
  unfold makeV
  refine ⟨by rw [List.length_append]; omega, fun x hx => ?_⟩
  rcases List.mem_append.1 hx with hx | hx
  · exact hb.2 x hx
  · exact ht.2 x hx
theorem orders_small (e : En) : (ordersV e).length ≤ 17 ∧ ∀ x ∈ ordersV e, x.length ≤ 8 := by
  unfold ordersV
  by_cases h : enOk e = true
  · rw [if_pos h]; exact make_small h
  · rw [if_neg h]; simp
theorem total_bound : ∀ (xss : List (List Txt)), (∀ x ∈ xss, x.length ≤ 8) → total xss ≤ 8 * xss.length
  | [], _ => by simp [total]
  | x :: r, h => by
    have h1 := h x (by simp)
    have h2 := total_bound r (fun y hy => h y (by simp [hy]))
    simp only [total, List.length_cons]
    omega
theorem e24' (H : Hp) (e : En) (hf : EnFit e) : ev R 24 [.d (enD e)] H = some (.d (.vals 1 (textss (ordersV e))), H) := by
  by_cases hk : enOk e = true
  · exact e24 H e hf (by have := enOk_small hk; omega)
  · refine ev_fn (fn := f24) rfl rfl ?_
    have p1 := pureCall_eq (cl := ev R) fun H => e56 H e hf
    have hr : rowOf (hpush H (.row 0 7 [.d (enD e)])) (hlen H) 0 = some (7, [.d (enD e)]) := rowOf_self _ _ _ _
    have ld := box_load hr 0 7
    simp only [enD] at p1 hr ld
    unfold ordersV
    rw [if_neg hk]
    rw [Bool.not_eq_true] at hk
    rw [hk] at p1
    simp [-List.getD_eq_getElem?_getD, -List.map_map, evBody, evCode, evOps, evOper, evOp, opd, Env.get, Env.put, Env.keep, zipEnv, V.ok, V.sto, V.cells, D.cells, V.isAgg, binD, binInt, binStr, shInt, unD, eqOf, asI, leave, resOf, mapO, fzV, tupOf, view, view1, isData, hand, flatV, flatD, allD, mkAgg, mkVal, beq_lit, IntKind.bits, htake_self, htake_push, hget_hpush_self, hset_push, rowOf_self, okIn, lowIn, lowIn1, fzC_d, fzC_row, f24, enD, p1, ld, textss]
theorem e26' (X : Hp) (r : Nat) (e : En) (hr : RowsV X r e) (hf : EnFit e) : ev R 26 [enV r e] X = some (.slc (hlen X + (ordersV e).length) 0 0 (ordersV e).length, nestH X (ordersV e)) := by
  by_cases hk : enOk e = true
  · exact e26 X r e hr hf (by have := enOk_small hk; omega)
  · have h : ordersV e = [] := by unfold ordersV; rw [if_neg hk]
    rw [h]
    simpa using e26_no X r e hr hf (by simpa using hk)
theorem nest_view {X : Hp} {k : Nat} {M : List (List Txt)} (h : Nest X k M) : Ev.view X (.slc (k + M.length) 0 0 M.length) = some (.vals 1 (textss M)) := by
  by_cases hn : M = []
  · subst hn
    have := h.2
    simp only [List.length_nil, refs1, Nat.add_zero] at this
    simp [Ev.view, view1, this, allD, textss]
  · exact h.view hn
theorem enV_view {X : Hp} {r : Nat} {e : En} (h : RowsV X r e) : Ev.view X (enV r e) = some (enD e) := by
  have t1 : (e.list.map D.str).take e.list.length = e.list.map D.str := List.take_of_length_le (by simp)
  have t2 : (e.scores.map scD).take e.scores.length = e.scores.map scD := List.take_of_length_le (by simp)
  have t3 : (e.fields.map prD).take e.fields.length = e.fields.map prD := List.take_of_length_le (by simp)
  have a1 := allD_dat e.list
  have a2 := allD_d (e.scores.map scD)
  have a3 := allD_d (e.fields.map prD)
  have m1 : e.list.length ≤ (dat e.list).length := by simp [dat]
  have m2 : e.scores.length ≤ ((e.scores.map scD).map V.d).length := by simp
  have m3 : e.fields.length ≤ ((e.fields.map prD).map V.d).length := by simp
  have v1 := h.list
  have v2 := h.scores
  have v3 := h.fields
  generalize dat e.list = w1 at *
  generalize (e.scores.map scD).map V.d = w2 at *
  generalize (e.fields.map prD).map V.d = w3 at *
  simp [-List.map_map, Ev.view, view1, enV, enD, txts, scs, prs, mapO, v1, v2, v3, a1, a2, a3, m1, m2, m3, t1, t2, t3]
theorem rowOf_ap {H l : Hp} {q g : Nat} {p : Nat × List V} (hr : rowOf H q g = some p) : rowOf (ap H l) q g = some p := by
  have hl := rowOf_lt hr
  unfold rowOf at hr ⊢
  have e : hget (ap H l) q = hget H q := by
    rw [hget_at, hget_at]
    simp only [hlen] at hl
    simp only [ap]
    rw [List.getElem?_append_left hl]
  rw [e]; exact hr
theorem enH_rows (H : Hp) (e : En) : RowsV (ap H (enH e)) (hlen H) e := ⟨enH_0 H e, enH_1 H e, enH_2 H e⟩
theorem RowsV.mono {X Y : Hp} {r : Nat} {e : En} (h : RowsV X r e) (hk : ∀ q g p, rowOf X q g = some p → rowOf Y q g = some p) : RowsV Y r e := ⟨hk _ _ _ h.list, hk _ _ _ h.scores, hk _ _ _ h.fields⟩
theorem nest_mono {X Y : Hp} {k : Nat} {M : List (List Txt)} (h : Nest X k M) (hk : ∀ q g p, k ≤ q → rowOf X q g = some p → rowOf Y q g = some p) : Nest Y k M := ⟨fun j hj => hk _ _ _ (by omega) (h.1 j hj), hk _ _ _ (by omega) h.2⟩
theorem view_d (X : Hp) (x : D) : Ev.view X (.d x) = some x := rfl
theorem marks_sizes (e : En) (h : 0 ≤ szE e) : e.list.length ≤ 1048576 ∧ e.scores.length ≤ 1048576 ∧ e.fields.length ≤ 1048576 := by
  unfold szE at h
  have k1 := lessV_le e.key 1048576 (by omega)
  generalize lessV e.key 1048576 = L1 at *
  by_cases c1 : L1 < 0
  · rw [if_pos c1] at h; omega
  · rw [if_neg c1] at h
    have k2 := lessV_le e.text L1 (by omega)
    generalize lessV e.text L1 = L2 at *
    by_cases c2 : L2 < 0
    · rw [if_pos c2] at h; omega
    · rw [if_neg c2] at h
      have k3 := leftG_in e.list L2
      generalize leftG e.list L2 = L3 at *
      by_cases c3 : L3 < 0
      · rw [if_pos c3] at h; omega
      · rw [if_neg c3] at h
        have k4 := leftF_le (scF e.scores) (scF_le e.scores) e.scores.length L3 (by omega)
        generalize leftF (scF e.scores) e.scores.length L3 = L4 at *
        by_cases c4 : L4 < 0
        · rw [if_pos c4] at h; omega
        · rw [if_neg c4] at h
          have k5 := leftF_le (prF e.fields) (prF_le e.fields) e.fields.length L4 (by omega)
          generalize leftF (prF e.fields) e.fields.length L4 = L5 at *
          have := k3 (by omega)
          by_cases c5 : L5 < 0
          · rw [if_pos c5] at h; omega
          · omega
theorem e6 (e : En) (hf : EnFit e) : ev R 6 [.d (enD e)] [] = some (.d (.bool true), []) := by
  refine ev_fn (fn := f6) rfl rfl ?_
  have p23 := pureCall_eq (cl := ev R) fun H => e23 H e hf
  obtain ⟨A1, hA1⟩ : ∃ A1, hpush [] (.row 0 7 [.d (enD e)]) = A1 := ⟨_, rfl⟩
  have h0 : hlen ([] : Hp) = 0 := rfl
  have b1 : rowOf A1 0 0 = some (7, [.d (enD e)]) := by rw [← hA1]; rfl
  have ld : ∀ Y, rowOf Y 0 0 = some (7, [.d (enD e)]) → hload Y 0 0 0 0 7 = some [.d (.str e.key), .d (.int .i64 e.till), .d (.int .i64 e.kind), .d (.str e.text), .d (txts e.list), .d (scs e.scores), .d (prs e.fields)] := fun Y h => by
    simp [hload, h, enD, V.cells, D.cells]
  have tk : ∀ X : Hp, htake X 0 = [] := fun X => rfl
  have ld1 := ld A1 b1
  by_cases big : szE e < 0
  · simp only [enD] at p23 hA1
    generalize szE e = sz at *
    simp [-List.getD_eq_getElem?_getD, -List.map_map, evBody, evCode, evOps, evOper, evOp, opd, Env.get, Env.put, Env.keep, zipEnv, V.ok, V.sto, V.cells, D.cells, V.isAgg, binD, binInt, binStr, shInt, unD, eqOf, asI, leave, resOf, mapO, fzV, tupOf, view, view1, isData, hand, flatV, flatD, allD, mkAgg, mkVal, beq_lit, IntKind.bits, htake_self, htake_push, hget_hpush_self, hset_push, rowOf_self, okIn, lowIn, lowIn1, fzC_d, fzC_row, f6, enD, hA1, h0, ld1, p23, big, tk, -view, view_d]
  · have l1 : hlen A1 = 1 := by rw [← hA1]; rfl
    obtain ⟨z1, z2, z3⟩ := marks_sizes e (by omega)
    have p25a := p25n e (by omega) (by omega) (by omega)
    have p25b := p25f e (by omega) (by omega) (by omega)
    have p24 := pureCall_eq (cl := ev R) fun H => e24' H e hf
    have q25 := e25 A1 e (by omega) (by omega) (by omega)
    rw [l1] at q25
    have R2 := enH_rows A1 e
    rw [l1] at R2
    have b2 : rowOf (ap A1 (enH e)) 0 0 = some (7, [.d (enD e)]) := rowOf_ap b1
    have l2 : hlen (ap A1 (enH e)) = 4 := by rw [ap_len, l1]; rfl
    obtain ⟨A2, hA2⟩ : ∃ A2, ap A1 (enH e) = A2 := ⟨_, rfl⟩
    rw [hA2] at q25 R2 b2 l2
    obtain ⟨A3, hA3⟩ : ∃ A3, hpush A2 (.row 0 7 [enV 1 e]) = A3 := ⟨_, rfl⟩
    have st : hstore (hpush A2 (.row 0 7 [.agg [.d (.str []), .d (.int .i64 0), .d (.int .i64 0), .d (.str []), .nils 1, .nils 2, .nils 2]])) 4 0 0 0 (enV 1 e).cells = some A3 := by
      rw [← hA3, ← l2]
      simp [hstore, rowOf_self, enV, V.cells, D.cells, reCell, V.isAgg, mkAgg, allD, hset_push]
    have R3 : RowsV A3 1 e := R2.mono fun q g p h => by rw [← hA3]; exact rowOf_push h
    have b3 : rowOf A3 0 0 = some (7, [.d (enD e)]) := by rw [← hA3]; exact rowOf_push b2
    have c3 : rowOf A3 4 0 = some (7, [enV 1 e]) := by rw [← hA3, ← l2]; exact rowOf_self _ _ _ _
    have l3 : hlen A3 = 5 := by rw [← hA3, hlen_hpush, l2]
    have lt : ∀ Y, rowOf Y 4 0 = some (7, [enV 1 e]) → hload Y 4 0 0 0 7 = some [.d (.str e.key), .d (.int .i64 e.till), .d (.int .i64 e.kind), .d (.str e.text), .slc 1 0 0 e.list.length, .slc 2 0 0 e.scores.length, .slc 3 0 0 e.fields.length] := fun Y h => by
      simp [hload, h, enV, V.cells]
    have ld3 := ld A3 b3
    have lt3 := lt A3 c3
    have q26 := e26' A3 1 e R3 hf
    rw [l3] at q26
    obtain ⟨om1, om2⟩ := orders_small e
    have tb := total_bound _ om2
    have get8 : ∀ i, ((ordersV e).getD i []).length ≤ 8 := fun i => by
      rw [List.getD_eq_getElem?_getD]
      by_cases hi : i < (ordersV e).length
      · rw [List.getElem?_eq_getElem hi]
        exact om2 _ (List.getElem_mem hi)
      · rw [List.getElem?_eq_none (by omega)]
        simp
    have p11 := pureCall_eq (cl := ev R) fun H => e11_same H (ordersV e) (by omega) (fun i => by have := get8 i; omega)
    obtain ⟨M, hM⟩ : ∃ M, ordersV e = M := ⟨_, rfl⟩
    rw [hM] at q26 om1 tb p11 p24
    have N4 := nestH_nest A3 M
    rw [l3] at N4
    have R4 : RowsV (nestH A3 M) 1 e := R3.mono fun q g p h => nestH_row _ _ h
    have b4 := nestH_row A3 M b3
    have c4 := nestH_row A3 M c3
    have l4 : hlen (nestH A3 M) = 6 + M.length := by simp only [nestH, hlen_hpush]; simp only [hlen, List.length_append, List.length_map] at l3 ⊢; omega
    obtain ⟨A4, hA4⟩ : ∃ A4, nestH A3 M = A4 := ⟨_, rfl⟩
    rw [hA4] at q26 N4 R4 b4 c4 l4
    have vw4 := nest_view N4
    have ve4 := enV_view R4
    have ld4 := ld A4 b4
    have lt4 := lt A4 c4
    have p27 := pureCall_eq (cl := ev R) fun H => e27_same H e hf
    have q28 := e28 A4 1 e (by omega) R4.list R4.scores R4.fields
    have N5 : Nest (markE A4 1 e) 5 M := nest_mono N4 fun q g p hq h => by rw [markE_ne _ _ _ _ _ (by omega)]; exact h
    have b5 : rowOf (markE A4 1 e) 0 0 = some (7, [.d (enD e)]) := by rw [markE_ne _ _ _ _ _ (by omega)]; exact b4
    have l5 : hlen (markE A4 1 e) = 6 + M.length := by rw [markE_len, l4]
    obtain ⟨A5, hA5⟩ : ∃ A5, markE A4 1 e = A5 := ⟨_, rfl⟩
    rw [hA5] at q28 N5 b5 l5
    have vw5 := nest_view N5
    have q21 := e21 A5 5 1 M (by omega) (by omega) N5
    have N6 := N5.mark 1
    have b6 : rowOf (markH A5 5 1 M) 0 0 = some (7, [.d (enD e)]) := by rw [markH_ne _ _ _ _ _ _ (by omega)]; exact b5
    have l6 : hlen (markH A5 5 1 M) = 6 + M.length := by rw [markH_len, l5]
    obtain ⟨A6, hA6⟩ : ∃ A6, markH A5 5 1 M = A6 := ⟨_, rfl⟩
    rw [hA6] at q21 N6 b6 l6
    have vw6 := nest_view N6
    rw [marksS_len] at vw6
    have ld6 := ld A6 b6
    have p22 := pureCall_eq (cl := ev R) fun H => e22 H M 1 (by omega) (by omega)
    have q25b := e25 A6 e (by omega) (by omega) (by omega)
    have R7 := enH_rows A6 e
    rw [l6] at q25b R7
    have N7 : Nest (ap A6 (enH e)) 5 (marksS 1 M) := nest_mono N6 fun q g p hq h => rowOf_ap h
    have l7 : hlen (ap A6 (enH e)) = 9 + M.length := by rw [ap_len, l6]; simp only [enH, List.length_cons, List.length_nil]; omega
    obtain ⟨A7, hA7⟩ : ∃ A7, ap A6 (enH e) = A7 := ⟨_, rfl⟩
    rw [hA7] at q25b R7 N7 l7
    have q26b := e26' A7 (6 + M.length) e R7 hf
    rw [hM, l7] at q26b
    have N8 : Nest (nestH A7 M) 5 (marksS 1 M) := nest_mono N7 fun q g p hq h => nestH_row _ _ h
    have N8b := nestH_nest A7 M
    rw [l7] at N8b
    obtain ⟨A8, hA8⟩ : ∃ A8, nestH A7 M = A8 := ⟨_, rfl⟩
    rw [hA8] at q26b N8 N8b
    have vw8 := nest_view N8
    rw [marksS_len] at vw8
    have vw8b := nest_view N8b
    have pos : ¬ ((1 + e.list.length + 2 * e.scores.length + 2 * e.fields.length : Nat) : Int) < 0 := by omega
    have pos2 : ¬ ((1 + total M : Nat) : Int) < 0 := by omega
    have okb : Nat.ble 0 4 = true := rfl
    have i1 : ((1 : Nat) : Int) = 1 := rfl
    rw [i1] at q21 p22
    simp only [enD, enV, Nat.reduceAdd] at p23 hA1 p25a p25b p24 q25 st q26 ve4 p27 q28 q25b q26b
    simp only [V.cells] at st
    clear N4 N5 N6 N7 N8 N8b R2 R3 R4 R7 b1 b2 b3 b4 b5 b6 c3 c4 ld lt hA2 hA3 hA4 hA5 hA6 hA7 hA8 l1 l3 l4 l5 l6 l7 hM
    generalize ((1 + e.list.length + 2 * e.scores.length + 2 * e.fields.length : Nat) : Int) = nn at *
    generalize ((1 + total M : Nat) : Int) = mm at *
    generalize textss (marksS 1 M) = TM at *
    generalize textss M = T at *
    generalize szE e = sz at *
    generalize 6 + M.length = r2 at *
    generalize 9 + M.length + M.length = K2 at *
    generalize 5 + M.length = K at *
    generalize M.length = m at *
    simp [-List.getD_eq_getElem?_getD, -List.map_map, evBody, evCode, evOps, evOper, evOp, opd, Env.get, Env.put, Env.keep, zipEnv, V.ok, V.sto, V.cells, D.cells, V.isAgg, binD, binInt, binStr, shInt, unD, eqOf, asI, leave, resOf, mapO, fzV, tupOf, view, view1, isData, hand, flatV, flatD, allD, mkAgg, mkVal, beq_lit, IntKind.bits, htake_self, htake_push, hget_hpush_self, hset_push, rowOf_self, okIn, lowIn, lowIn1, fzC_d, fzC_row, f6, enD, hA1, h0, l2, ld1, p23, big, p25a, p25b, p24, q25, st, okb, ld3, lt3, q26, vw4, p11, ld4, lt4, ve4, p27, q28, vw5, pos, q21, vw6, p22, pos2, ld6, q25b, q26b, vw8, vw8b, tk, -view, view_d]
end Go.Proofs.YtpmphmpaeooeeaaDoorO.Code
/- Arguments of any type of plain data, ags data. -/
namespace Go.Ev
open Go Go.ChangeShapes Go.WideShapes
set_option linter.unusedSimpArgs false
set_option linter.unusedVariables false

/-- Types of plain data. A struct is a chain of fields. -/
inductive Ty where
  | bool
  | int (k : IntKind)
  | str
  | slice (e : Ty)
  | fin
  | fld (f r : Ty)

def Ty.size : Ty → Nat
  | .fin => 0
  | .fld f r => f.size + r.size
  | _ => 1
def Ty.isAgg : Ty → Bool
  | .fin => true
  | .fld _ _ => true
  | _ => false
def Ty.toD (e : Ty) (cs : List D) : D := bif e.isAgg then .agg cs else cs.getD 0 .nilp

/-- What cells of a type may be. -/
def Shape : Ty → List D → Prop
  | .bool, ds => ∃ b, ds = [.bool b]
  | .int k, ds => ∃ n, ds = [.int k n] ∧ (Lit.int k n).wf = true
  | .str, ds => ∃ s, ds = [.str s] ∧ s.length ≤ maxLen
  | .slice e, ds => ∃ xss : List (List D), ds = [.vals e.size (xss.map e.toD)] ∧ xss.length ≤ maxLen ∧ ∀ xs ∈ xss, Shape e xs
  | .fin, ds => ds = []
  | .fld f r, ds => ∃ a b, ds = a ++ b ∧ Shape f a ∧ Shape r b

def isB : TypeDesc → Bool | .bool => true | _ => false
def isS : TypeDesc → Bool | .string => true | _ => false
def isI (k : IntKind) : TypeDesc → Bool | .int k' => decide (k = k') | _ => false

/-- A type of the program is so; fields from an offset on are so. -/
def tyIs (P : Program) : Ty → (TypeId → Bool) × (List Field → Nat → Bool)
  | .bool => (fun t => match P.underlying t with | some d => isB d | none => false, fun _ _ => false)
  | .int k => (fun t => match P.underlying t with | some d => isI k d | none => false, fun _ _ => false)
  | .str => (fun t => match P.underlying t with | some d => isS d | none => false, fun _ _ => false)
  | .slice e => (fun t => match P.underlying t with | some (.slice u) => (tyIs P e).1 u && Nat.beq (P.cellsOf u) e.size && Nat.blt 0 e.size | _ => false, fun _ _ => false)
  | .fin => (fun _ => false, fun gs _ => match gs with | [] => true | _ :: _ => false)
  | .fld f r => (fun t => match P.underlying t with | some (.struct gs) => (match gs.toList with | g :: rest => Nat.beq g.offset 0 && (tyIs P f).1 g.type && Nat.beq (P.cellsOf g.type) f.size && (tyIs P r).2 rest f.size | [] => false) && Nat.beq (P.cellsOf t) (f.size + r.size) | _ => false,
      fun gs off => match gs with | g :: rest => Nat.beq g.offset off && (tyIs P f).1 g.type && Nat.beq (P.cellsOf g.type) f.size && (tyIs P r).2 rest (off + f.size) | [] => false)

theorem isB_eq {d : TypeDesc} (h : isB d = true) : d = .bool := by cases d <;> simp [isB] at h ⊢
theorem isS_eq {d : TypeDesc} (h : isS d = true) : d = .string := by cases d <;> simp [isS] at h ⊢
theorem isI_eq {k : IntKind} {d : TypeDesc} (h : isI k d = true) : d = .int k := by cases d <;> simp [isI] at h ⊢; exact h.symm

theorem shape_len : ∀ (T : Ty) (ds : List D), Shape T ds → ds.length = T.size
  | .bool, ds, h => by obtain ⟨b, rfl⟩ := h; rfl
  | .int k, ds, h => by obtain ⟨n, rfl, _⟩ := h; rfl
  | .str, ds, h => by obtain ⟨s, rfl, _⟩ := h; rfl
  | .slice e, ds, h => by obtain ⟨xs, rfl, _⟩ := h; rfl
  | .fin, ds, h => by simp only [Shape] at h; subst h; rfl
  | .fld f r, ds, h => by
    obtain ⟨a, b, rfl, h1, h2⟩ := h
    rw [List.length_append, shape_len f a h1, shape_len r b h2]
    rfl
theorem toD_cells {T : Ty} {ds : List D} (h : Shape T ds) : (T.toD ds).cells = ds := by
  cases T with
  | bool => obtain ⟨b, rfl⟩ := h; rfl
  | int k => obtain ⟨n, rfl, _⟩ := h; rfl
  | str => obtain ⟨s, rfl, _⟩ := h; rfl
  | slice e => obtain ⟨xs, rfl, _⟩ := h; rfl
  | fin => rfl
  | fld f r => rfl

/-- Cells that stand for data. -/
def Reads (w : World) (ds : List D) (cs : List Value) : Prop := ds.length = cs.length ∧ ∀ i, i < cs.length → RD w (fun _ => False) (ds.getD i .nilp) (cs.getD i undef) ∧ (cs.getD i undef).oneCell' = true

theorem reads_one {w : World} {x : D} {u : Value} (h : RD w (fun _ => False) x u) (h1 : u.oneCell' = true) : Reads w [x] [u] :=
  ⟨rfl, fun i hi => by
    obtain rfl : i = 0 := by simpa using hi
    exact ⟨h, h1⟩⟩

section
variable {H : Type} {enc : TypeId × Value → H} {P : Program} {w : World} {base : Nat} {spare : Nat → Bool} {held : Bool}

theorem cells?_get {a : Addr} {n : Nat} {cs : List Value} (h : w.cells? base a n = some cs) : cs.length = n ∧ ∀ i, i < n → w.cell? (a.add i) = some (cs.getD i undef) := by
  obtain ⟨h1, h2, h3⟩ := World.cells?_some h
  refine ⟨h2, fun i hi => ?_⟩
  have h4 := h3 i hi
  rw [h4, List.getD_eq_getElem?_getD, List.getElem?_eq_getElem (by omega)]
  rfl

theorem open_ty : ∀ (T : Ty), (∀ (t : TypeId) (fuel : Nat) (cs : List Value) (x : DataW H × List MemPlace), (tyIs P T).1 t = true → DataW.trod enc P w base spare held fuel t cs = some x → ∃ ds, Shape T ds ∧ Reads w ds cs) ∧
    (∀ (gs : List Field) (off : Nat) (cs : List Value) (n : Nat), (tyIs P T).2 gs off = true → off + T.size = cs.length → (∀ g ∈ gs, ∃ y, DataW.trod enc P w base spare held n g.type ((cs.drop g.offset).take (P.cellsOf g.type)) = some y) → ∃ ds, Shape T ds ∧ Reads w ds (cs.drop off)) := by
  intro T
  induction T with
  | bool =>
    refine ⟨fun t fuel cs x ht h => ?_, fun gs off cs n h => by simp [tyIs] at h⟩
    simp only [tyIs] at ht
    split at ht
    · rename_i d hd
      rw [isB_eq ht] at hd
      obtain ⟨b, rfl, _⟩ := DataW.trod_bool hd h
      exact ⟨[.bool b], ⟨b, rfl⟩, reads_one (.bool b) rfl⟩
    · simp at ht
  | int k =>
    refine ⟨fun t fuel cs x ht h => ?_, fun gs off cs n h => by simp [tyIs] at h⟩
    simp only [tyIs] at ht
    split at ht
    · rename_i d hd
      rw [isI_eq ht] at hd
      obtain ⟨n, rfl, _, hw⟩ := DataW.trod_int hd h
      exact ⟨[.int k n], ⟨n, rfl, hw⟩, reads_one (.int k n) rfl⟩
    · simp at ht
  | str =>
    refine ⟨fun t fuel cs x ht h => ?_, fun gs off cs n h => by simp [tyIs] at h⟩
    simp only [tyIs] at ht
    split at ht
    · rename_i d hd
      rw [isS_eq ht] at hd
      obtain ⟨s, rfl, _, hs⟩ := DataW.trod_string hd h
      exact ⟨[.str s.data.toList], ⟨_, rfl, by simpa using hs⟩, reads_one (.str _ s rfl) rfl⟩
    · simp at ht
  | slice e ih =>
    refine ⟨fun t fuel cs x ht h => ?_, fun gs off cs n h => by simp [tyIs] at h⟩
    simp only [tyIs] at ht
    split at ht
    · rename_i u hu
      simp only [Bool.and_eq_true] at ht
      obtain ⟨⟨h1, h2⟩, h3⟩ := ht
      have h2 := Nat.eq_of_beq_eq_true h2
      have h3 : 0 < e.size := by simpa using h3
      rcases DataW.trod_slice hu h with ⟨rfl, _⟩ | ⟨a, len, cap, elems, rest, n, _, rfl, _, hb, hl, hm, hlen, hel, _, _⟩
      · exact ⟨[.vals e.size []], ⟨[], rfl, Nat.zero_le _, fun xs hx => by simp at hx⟩, reads_one (.vals0 _ _ _) rfl⟩
      · have each : ∀ i, i < len → ∃ (ds : List D) (cs : List Value), w.cells? base (a.add (i * e.size)) e.size = some cs ∧ Shape e ds ∧ Reads w ds cs := by
          intro i hi
          have h4 := hel i hi
          rw [List.getElem?_eq_getElem (by omega), h2, Option.bind_eq_some_iff] at h4
          obtain ⟨cs, hcs, h5⟩ := h4
          obtain ⟨ds, k1, k2⟩ := ih.1 u n cs _ h1 h5
          exact ⟨ds, cs, hcs, k1, k2⟩
        let xss : List (List D) := (List.range len).map fun i => if h : i < len then (each i h).choose else []
        have hx : ∀ i (hi : i < len), xss.getD i [] = (each i hi).choose := fun i hi => by simp [xss, List.getD_eq_getElem?_getD, hi]
        have hxl : xss.length = len := by simp [xss]
        have hsh : ∀ i, i < len → Shape e (xss.getD i []) := fun i hi => by
          rw [hx i hi]
          obtain ⟨cs, k1, k2, k3⟩ := (each i hi).choose_spec
          exact k2
        refine ⟨[.vals e.size (xss.map e.toD)], ⟨xss, rfl, by omega, fun xs hm => ?_⟩, reads_one ?_ rfl⟩
        · obtain ⟨i, hi⟩ := List.getElem?_of_mem hm
          have hil := (List.getElem?_eq_some_iff.1 hi).1
          have := hsh i (by omega)
          rw [List.getD_eq_getElem?_getD, hi] at this
          exact this
        · by_cases h0 : len = 0
          · subst h0
            have : xss = [] := List.eq_nil_of_length_eq_zero hxl
            rw [this]
            exact .vals0 _ _ _
          · obtain ⟨cs0, q1, _, _⟩ := (each 0 (by omega)).choose_spec
            obtain ⟨q2, q3⟩ := cells?_get q1
            have q4 := q3 0 h3
            rw [Nat.zero_mul] at q4
            have ha0 : (a.add 0).add 0 = a := by simp [Addr.add]
            rw [ha0] at q4
            obtain ⟨hsp, hblk⟩ := cell_spot q4
            obtain ⟨b, o, sp⟩ := a
            simp only at hsp hblk
            subst hsp
            have hg : ∀ i, i < len → (xss.map e.toD).getD i .nilp = e.toD (xss.getD i []) := fun i hi => by
              simp [List.getD_eq_getElem?_getD, hxl, hi]
            have cell : ∀ i j, i < len → j < e.size → ∃ u, w.cell? ⟨b, o + i * e.size + j, none⟩ = some u ∧ u.oneCell' = true ∧ RD w (fun _ => False) ((xss.getD i []).getD j .nilp) u := by
              intro i j hi hj
              obtain ⟨cs, k1, k2, k3⟩ := (each i hi).choose_spec
              obtain ⟨m1, m2⟩ := cells?_get k1
              have m3 := m2 j hj
              rw [hx i hi]
              obtain ⟨m4, m5⟩ := k3.2 j (by omega)
              refine ⟨_, ?_, m5, m4⟩
              have : ((⟨b, o, none⟩ : Addr).add (i * e.size)).add j = ⟨b, o + i * e.size + j, none⟩ := by rw [Go.Ev.add_plain, Go.Ev.add_plain]
              rw [this] at m3
              exact m3
            have := RD.vals (w := w) (O := fun _ => False) e.size (xss.map e.toD) b o cap (fun i j => (w.cell? ⟨b, o + i * e.size + j, none⟩).getD undef) (by simp; omega) (fun h => h) hblk
              (fun i hi => by
                have hi' : i < len := by simpa [hxl] using hi
                rw [hg i hi', toD_cells (hsh i hi')]
                exact shape_len _ _ (hsh i hi'))
              (fun i j hi hj => by
                obtain ⟨u, k1, _, _⟩ := cell i j (by simpa [hxl] using hi) hj
                rw [k1]; rfl)
              (fun i j hi hj => by
                obtain ⟨u, k1, k2, _⟩ := cell i j (by simpa [hxl] using hi) hj
                simp only [k1, Option.getD_some]; exact k2)
              (fun i j hi hj => by
                have hi' : i < len := by simpa [hxl] using hi
                obtain ⟨u, k1, _, k3⟩ := cell i j hi' hj
                rw [hg i hi', toD_cells (hsh i hi')]
                simp only [k1, Option.getD_some]; exact k3)
            rw [List.length_map, hxl] at this
            exact this
    · simp at ht
  | fin =>
    refine ⟨fun t fuel cs x ht h => by simp [tyIs] at ht, fun gs off cs n h hl _ => ?_⟩
    refine ⟨[], rfl, ?_⟩
    have : cs.drop off = [] := List.drop_of_length_le (by simp [Ty.size] at hl; omega)
    rw [this]
    exact ⟨rfl, fun i hi => by simp at hi⟩
  | fld f r ihf ihr =>
    have key : ∀ (gs : List Field) (off : Nat) (cs : List Value) (n : Nat), (tyIs P (.fld f r)).2 gs off = true → off + (Ty.fld f r).size = cs.length → (∀ g ∈ gs, ∃ y, DataW.trod enc P w base spare held n g.type ((cs.drop g.offset).take (P.cellsOf g.type)) = some y) → ∃ ds, Shape (.fld f r) ds ∧ Reads w ds (cs.drop off) := by
      intro gs off cs n h hl hg
      simp only [tyIs] at h
      cases gs with
      | nil => simp at h
      | cons g rest =>
        simp only [Bool.and_eq_true] at h
        obtain ⟨⟨⟨h1, h2⟩, h3⟩, h4⟩ := h
        have h1 := Nat.eq_of_beq_eq_true h1
        have h3 := Nat.eq_of_beq_eq_true h3
        simp only [Ty.size] at hl
        obtain ⟨y, hy⟩ := hg g (by simp)
        rw [h1, h3] at hy
        obtain ⟨a, a1, a2, a3⟩ := ihf.1 g.type n _ y h2 hy
        obtain ⟨b, b1, b2, b3⟩ := ihr.2 rest (off + f.size) cs n h4 (by omega) (fun g' hg' => hg g' (by simp [hg']))
        have al : ((cs.drop off).take f.size).length = f.size := by simp; omega
        rw [al] at a2 a3
        have bl : (cs.drop (off + f.size)).length = r.size := by simp; omega
        rw [bl] at b2 b3
        refine ⟨a ++ b, ⟨a, b, rfl, a1, b1⟩, by simp; omega, fun i hi => ?_⟩
        by_cases hif : i < f.size
        · have := a3 i hif
          have e1 : (a ++ b).getD i .nilp = a.getD i .nilp := by simp [List.getD_eq_getElem?_getD, List.getElem?_append_left (show i < a.length by omega)]
          have e2 : ((cs.drop off).take f.size).getD i undef = (cs.drop off).getD i undef := by simp [List.getD_eq_getElem?_getD, List.getElem?_take, hif]
          rw [e1]
          rw [e2] at this
          exact this
        · simp only [List.length_drop] at hi
          have := b3 (i - f.size) (by omega)
          have e1 : (a ++ b).getD i .nilp = b.getD (i - f.size) .nilp := by
            rw [List.getD_eq_getElem?_getD, List.getElem?_append_right (by omega), a2, ← List.getD_eq_getElem?_getD]
          have e2 : (cs.drop (off + f.size)).getD (i - f.size) undef = (cs.drop off).getD i undef := by
            simp only [List.getD_eq_getElem?_getD, List.getElem?_drop]
            rw [show off + f.size + (i - f.size) = off + i by omega]
          rw [e1]
          rw [e2] at this
          exact this
    refine ⟨fun t fuel cs x ht h => ?_, key⟩
    simp only [tyIs] at ht
    split at ht
    · rename_i gs hgs
      rw [Bool.and_eq_true] at ht
      obtain ⟨h1, h2⟩ := ht
      have h2 := Nat.eq_of_beq_eq_true h2
      obtain ⟨xs, n, _, _, hcl, hxl, hf⟩ := DataW.trod_struct hgs h
      have := key gs.toList 0 cs n (by
        simp only [tyIs]
        cases hg : gs.toList with
        | nil => rw [hg] at h1; simp at h1
        | cons g rest =>
          rw [hg] at h1
          simpa using h1) (by simp only [Ty.size]; omega) (fun g hg => by
        obtain ⟨i, hi⟩ := List.getElem?_of_mem hg
        have hi' : gs[i]? = some g := by simpa using hi
        have hil := (Array.getElem?_eq_some_iff.1 hi').1
        have := hf i g hi'
        rw [this, List.getElem?_eq_getElem (by omega)]
        exact ⟨_, rfl⟩)
      simpa using this
    · simp at ht

/-- A whole argument. -/
theorem open_arg {T : Ty} {t : TypeId} {v : Value} {d : DataW H} {ps : List MemPlace} {b0 : Nat} (hT : (tyIs P T).1 t = true) (hok : Value.okWide P w .any b0 t v) (h : DataW.Trod enc P w base spare held t v d ps) : ∃ ds, Shape T ds ∧ RD w (fun _ => False) (T.toD ds) v := by
  obtain ⟨fuel, h⟩ := h
  obtain ⟨ds, h1, h2⟩ := (open_ty T).1 t fuel _ _ hT h
  refine ⟨ds, h1, ?_⟩
  have hsz := shape_len T ds h1
  have one : T.isAgg = false → v.cells = #[v] → RD w (fun _ => False) (T.toD ds) v := by
    intro ha hv
    rw [hv] at h2
    have h3 := (h2.2 0 (by simp)).1
    simp only [Ty.toD, ha, cond_false]
    simpa using h3
  cases T with
  | bool =>
    simp only [tyIs] at hT
    split at hT
    · rename_i d hd
      rw [isB_eq hT] at hd
      obtain ⟨b, rfl⟩ := okWide_bool hd hok
      exact one rfl rfl
    · simp at hT
  | int k =>
    simp only [tyIs] at hT
    split at hT
    · rename_i d hd
      rw [isI_eq hT] at hd
      obtain ⟨n, rfl⟩ := okWide_int hd hok
      exact one rfl rfl
    · simp at hT
  | str =>
    simp only [tyIs] at hT
    split at hT
    · rename_i d hd
      rw [isS_eq hT] at hd
      obtain ⟨s, rfl⟩ := okWide_string hd hok
      exact one rfl rfl
    · simp at hT
  | slice e =>
    simp only [tyIs] at hT
    split at hT
    · rename_i u hu
      obtain ⟨a, l, c, rfl⟩ := okWide_slice hu hok
      exact one rfl rfl
    · simp at hT
  | fin => simp [tyIs] at hT
  | fld f r =>
    simp only [tyIs] at hT
    split at hT
    · rename_i gs hgs
      have hk := hok
      unfold Value.okWide at hk
      rw [hgs] at hk
      obtain ⟨us, rfl, _, _⟩ := hk
      simp only [Ty.toD, Ty.isAgg, cond_true]
      simp only [Value.cells] at h2
      have hl : us.size = ds.length := by simpa using h2.1.symm
      refine .agg ds us hl (fun i hi => ?_) (fun i hi => ?_)
      · have := (h2.2 i (by simp; omega)).2
        simpa [List.getD_eq_getElem?_getD, Array.getD_eq_getD_getElem?] using this
      · have := (h2.2 i (by simp; omega)).1
        simpa [List.getD_eq_getElem?_getD, Array.getD_eq_getD_getElem?] using this
    · simp at hT
end
end Go.Ev
/- FnExactOrders: its argument opened, its answer. -/
namespace Go.Proofs.YtpmphmpaeooeeaaDoorO.Code
open Go Go.Ev Go.Proofs
set_option maxRecDepth 100000
set_option linter.unusedSimpArgs false
set_option linter.unusedVariables false
def scTy : Ty := .fld .str (.fld (.int .i64) .fin)
def prTy : Ty := .fld .str (.fld .str .fin)
def enTy : Ty := .fld .str (.fld (.int .i64) (.fld (.int .i64) (.fld .str (.fld (.slice .str) (.fld (.slice scTy) (.fld (.slice prTy) .fin))))))
theorem maxLen_le : maxLen ≤ 9223372036854775807 := by decide
theorem wf_i64 {n : Int} (h : (Lit.int .i64 n).wf = true) : In64 n := by
  have := h
  simp [Lit.wf] at this
  exact this
theorem strs_shape : ∀ (xss : List (List D)), (∀ xs ∈ xss, Shape .str xs) → ∃ ss : List Txt, xss.map Ty.str.toD = ss.map D.str ∧ ∀ s ∈ ss, s.length ≤ maxLen
  | [], _ => ⟨[], rfl, fun s h => by simp at h⟩
  | x :: r, h => by
    obtain ⟨s, rfl, hs⟩ := h x (by simp)
    obtain ⟨ss, h1, h2⟩ := strs_shape r fun xs hx => h xs (by simp [hx])
    refine ⟨s :: ss, by rw [List.map_cons, List.map_cons, h1]; rfl, fun y hy => ?_⟩
    rcases List.mem_cons.1 hy with rfl | hy
    · exact hs
    · exact h2 y hy
theorem scs_shape : ∀ (xss : List (List D)), (∀ xs ∈ xss, Shape scTy xs) → ∃ ss : List Sc, xss.map scTy.toD = ss.map scD ∧ ∀ s ∈ ss, s.1.length ≤ maxLen
  | [], _ => ⟨[], rfl, fun s h => by simp at h⟩
  | x :: r, h => by
    obtain ⟨a, b, rfl, ⟨s, rfl, hs⟩, c, d, rfl, ⟨n, rfl, hn⟩, rfl⟩ := h x (by simp)
    obtain ⟨ss, h1, h2⟩ := scs_shape r fun xs hx => h xs (by simp [hx])
    refine ⟨(s, n) :: ss, by rw [List.map_cons, List.map_cons, h1]; rfl, fun y hy => ?_⟩
    rcases List.mem_cons.1 hy with rfl | hy
    · exact hs
    · exact h2 y hy
theorem prs_shape : ∀ (xss : List (List D)), (∀ xs ∈ xss, Shape prTy xs) → ∃ ss : List Pr, xss.map prTy.toD = ss.map prD ∧ ∀ s ∈ ss, s.1.length ≤ maxLen ∧ s.2.length ≤ maxLen
  | [], _ => ⟨[], rfl, fun s h => by simp at h⟩
  | x :: r, h => by
    obtain ⟨a, b, rfl, ⟨s, rfl, hs⟩, c, d, rfl, ⟨n, rfl, hn⟩, rfl⟩ := h x (by simp)
    obtain ⟨ss, h1, h2⟩ := prs_shape r fun xs hx => h xs (by simp [hx])
    refine ⟨(s, n) :: ss, by rw [List.map_cons, List.map_cons, h1]; rfl, fun y hy => ?_⟩
    rcases List.mem_cons.1 hy with rfl | hy
    · exact ⟨hs, hn⟩
    · exact h2 y hy
theorem getD_all {α : Type} {p : α → Prop} {d : α} {xs : List α} (h : ∀ x ∈ xs, p x) (hd : p d) (i : Nat) : p (xs.getD i d) := by
  rw [List.getD_eq_getElem?_getD]
  by_cases hi : i < xs.length
  · rw [List.getElem?_eq_getElem hi]
    exact h _ (List.getElem_mem hi)
  · rw [List.getElem?_eq_none (by omega)]
    exact hd
theorem en_shape {ds : List D} (h : Shape enTy ds) : ∃ e : En, enTy.toD ds = enD e ∧ EnFit e := by
  obtain ⟨_, _, rfl, ⟨key, rfl, h1⟩, _, _, rfl, ⟨till, rfl, h2⟩, _, _, rfl, ⟨kind, rfl, h3⟩, _, _, rfl, ⟨text, rfl, h4⟩, _, _, rfl, ⟨l1, rfl, h5, k5⟩, _, _, rfl, ⟨l2, rfl, h6, k6⟩, _, _, rfl, ⟨l3, rfl, h7, k7⟩, rfl⟩ := h
  obtain ⟨ss, e1, f1⟩ := strs_shape l1 k5
  obtain ⟨cs, e2, f2⟩ := scs_shape l2 k6
  obtain ⟨ps, e3, f3⟩ := prs_shape l3 k7
  have m := maxLen_le
  have g1 : ss.length = l1.length := by have := congrArg List.length e1; simpa using this.symm
  have g2 : cs.length = l2.length := by have := congrArg List.length e2; simpa using this.symm
  have g3 : ps.length = l3.length := by have := congrArg List.length e3; simpa using this.symm
  refine ⟨⟨key, till, kind, text, ss, cs, ps⟩, ?_, ⟨by show key.length ≤ _; omega, by show text.length ≤ _; omega, by show ss.length ≤ _; omega, fun i => ?_, by show cs.length ≤ _; omega, fun i => ?_, by show ps.length ≤ _; omega, fun i => ?_, wf_i64 h2, wf_i64 h3⟩⟩
  · show D.agg _ = D.agg _
    simp only [txts, scs, prs]
    rw [← e1, ← e2, ← e3]
    rfl
  · exact getD_all (p := fun x : Txt => x.length ≤ 9223372036854775807) (fun s hs => by have := f1 s hs; omega) (by simp) i
  · exact getD_all (p := fun x : Sc => x.1.length ≤ 9223372036854775807) (fun s hs => by have := f2 s hs; omega) (by simp) i
  · exact getD_all (p := fun x : Pr => x.1.length ≤ 9223372036854775807 ∧ x.2.length ≤ 9223372036854775807) (fun s hs => by have := f3 s hs; omega) (by simp) i
namespace fnExactOrders
theorem answers (ds : List D) (v : Value) (w : World) (h : Shape enTy ds ∧ RD w (fun _ => False) (enTy.toD ds) v) (hG : GR globD w (fun _ => False)) : Calls Tryd.prog 6 #[v] w fun e w' => e = .returned (.bool true) ∧ RowKit.Below w.heap.size w w' := by
  obtain ⟨e, he, hf⟩ := en_shape h.1
  refine calls_bool prg_ok (xs := [enD e]) (e6 e hf) hG rfl fun j hj => ?_
  match j, hj with
  | 0, _ => rw [he] at h; exact h.2
end fnExactOrders
end Go.Proofs.YtpmphmpaeooeeaaDoorO.Code

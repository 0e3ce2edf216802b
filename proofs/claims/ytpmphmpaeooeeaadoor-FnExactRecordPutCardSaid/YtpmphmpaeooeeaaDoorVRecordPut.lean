/- What FnExactRecordPut answers. -/
import Derived.Test.YtpmphmpaeooeeaaDoorVPutImpl
import Derived.Test.YtpmphmpaeooeeaaDoorVTextss
import Derived.Test.YtpmphmpaeooeeaaDoorVListAt
namespace Go.Proofs.YtpmphmpaeooeeaaDoor.Code
open Go Go.Ev Go.Proofs
set_option maxRecDepth 100000
set_option linter.unusedSimpArgs false
set_option linter.unusedVariables false
theorem textss_get (xss : List (List Txt)) (i : Nat) (hi : i < xss.length) : (textss xss).getD i .nilp = txts (xss.getD i []) := by
  simp [textss, List.getD_eq_getElem?_getD, hi]
theorem textss_len (xss : List (List Txt)) : (textss xss).length = xss.length := by simp [textss]
/-- Each list, and each of its texts, as long as a list may be. -/
def Fit (xss : List (List Txt)) : Prop := xss.length ≤ 9223372036854775807 ∧ ∀ i, (xss.getD i []).length ≤ 9223372036854775807 ∧ ∀ j, ((xss.getD i []).getD j []).length ≤ 9223372036854775807
def leftG (xs : List Txt) (l : Int) : Int := if l - (xs.length : Int) < 0 then -1 else (if spend xs xs.length 0 (l - xs.length) < 0 then -1 else spend xs xs.length 0 (l - xs.length))
theorem e29g (H : Hp) (xs : List Txt) (hx : xs.length ≤ 9223372036854775807) (hs : ∀ i, (xs.getD i []).length ≤ 9223372036854775807) (l : Int) (hl : 0 ≤ l) (hl2 : l ≤ 1048576) : ev R 29 [.d (txts xs), .d (.int .i64 l)] H = some (.d (.int .i64 (leftG xs l)), H) := by
  refine ev_fn (fn := f29) rfl rfl ?_
  have w : IntKind.i64.wrap (l - (xs.length : Int)) = l - xs.length := IntWalk.i64_in _ (by omega)
  unfold leftG
  by_cases hb : l - (xs.length : Int) < 0
  · simp [-List.getD_eq_getElem?_getD, -List.map_map, evBody, evCode, evOps, evOper, evOp, opd, Env.get, Env.put, Env.keep, zipEnv, V.ok, V.sto, V.cells, D.cells, V.isAgg, binD, binInt, binStr, shInt, unD, eqOf, asI, leave, resOf, mapO, fzV, tupOf, view, view1, isData, hand, flatV, flatD, allD, mkAgg, mkVal, beq_lit, IntKind.bits, htake_self, htake_push, hget_hpush_self, hset_push, rowOf_self, okIn, lowIn, lowIn1, fzC_d, fzC_row, f29, txts, w, hb]
  · obtain ⟨e', he, h1, h2⟩ := l29 (hlen H) xs hx hs H xs.length 0 (l - xs.length) [(0, .d (txts xs)), (1, .d (.int .i64 (l - xs.length))), (5, .d (.int .i64 0))] (by omega) (by omega) (by omega) rfl rfl rfl
    generalize spend xs xs.length 0 (l - xs.length) = z at he h1 h2 ⊢
    by_cases hz : z < 0
    · simp only [hz, if_true] at he
      simp [-List.getD_eq_getElem?_getD, -List.map_map, evBody, evCode, evOps, evOper, evOp, opd, Env.get, Env.put, Env.keep, zipEnv, V.ok, V.sto, V.cells, D.cells, V.isAgg, binD, binInt, binStr, shInt, unD, eqOf, asI, leave, resOf, mapO, fzV, tupOf, view, view1, isData, hand, flatV, flatD, allD, mkAgg, mkVal, beq_lit, IntKind.bits, htake_self, htake_push, hget_hpush_self, hset_push, rowOf_self, okIn, lowIn, lowIn1, fzC_d, fzC_row, f29, txts, w, hb, he, h1 hz, hz]
    · simp only [hz, if_false] at he
      simp [-List.getD_eq_getElem?_getD, -List.map_map, evBody, evCode, evOps, evOper, evOp, opd, Env.get, Env.put, Env.keep, zipEnv, V.ok, V.sto, V.cells, D.cells, V.isAgg, binD, binInt, binStr, shInt, unD, eqOf, asI, leave, resOf, mapO, fzV, tupOf, view, view1, isData, hand, flatV, flatD, allD, mkAgg, mkVal, beq_lit, IntKind.bits, htake_self, htake_push, hget_hpush_self, hset_push, rowOf_self, okIn, lowIn, lowIn1, fzC_d, fzC_row, f29, txts, w, hb, he, h2 hz, hz]
theorem spend_le (xs : List Txt) : ∀ (n i : Nat) (l : Int), 0 ≤ l → spend xs n i l ≤ l
  | 0, _, l, _ => Int.le_refl _
  | n + 1, i, l, h => by
    simp only [spend]
    split
    · omega
    · have := spend_le xs n (i + 1) (l - (xs.getD i []).length) (by omega)
      omega
theorem leftG_in (xs : List Txt) (l : Int) (h : 0 ≤ leftG xs l) : (xs.length : Int) ≤ l ∧ leftG xs l ≤ l := by
  unfold leftG at h ⊢
  by_cases hb : l - (xs.length : Int) < 0
  · rw [if_pos hb] at h; omega
  · rw [if_neg hb] at h ⊢
    have := spend_le xs xs.length 0 (l - xs.length) (by omega)
    split at h
    · omega
    · rename_i c
      rw [if_neg c]; omega
/-- What is left, list by list. -/
def spendS (xss : List (List Txt)) : Nat → Nat → Int → Int
  | 0, _, l => l
  | n + 1, i, l => if leftG (xss.getD i []) l < 0 then -1 else spendS xss n (i + 1) (leftG (xss.getD i []) l)
theorem spendS_in (xss : List (List Txt)) : ∀ (n i : Nat) (l : Int), 0 ≤ spendS xss n i l → l ≤ 1048576 → ∀ j, i ≤ j → j < i + n → ((xss.getD j []).length : Int) ≤ 1048576
  | 0, i, l, h, hl, j, h1, h2 => by omega
  | n + 1, i, l, h, hl, j, h1, h2 => by
    simp only [spendS] at h
    split at h
    · omega
    · rename_i c
      obtain ⟨k1, k2⟩ := leftG_in (xss.getD i []) l (by omega)
      by_cases e : j = i
      · subst e; omega
      · exact spendS_in xss n (i + 1) _ h (by omega) j (by omega) (by omega)
theorem l7 (n0 : Nat) (xss : List (List Txt)) (hf : Fit xss) (H : Hp) : ∀ (n i : Nat) (l : Int) (e : Env), i + n = xss.length → 0 ≤ l → l ≤ 1048576 → e.get 0 = .d (.vals 1 (textss xss)) → e.get 1 = .d (.int .i64 l) → e.get 5 = .d (.int .i64 i) →
    ∃ e', evLoop (evCode (ev R) R.glob n0 evLoop f7l0) [0, 1, 5] ⟨e, H⟩ = some ((if spendS xss n i l < 0 then .ret else .exit 0), ⟨e', H⟩) ∧
      (spendS xss n i l < 0 → e'.get 4 = .d (.int .i64 (-1))) ∧ (¬ spendS xss n i l < 0 → e'.get 1 = .d (.int .i64 (spendS xss n i l)))
  | 0, i, l, e, hn, hl, hl2, h0, h1, h5 => by
    have c : ¬ (i : Int) < ((textss xss).length : Int) := by rw [textss_len]; omega
    have c2 : ¬ l < 0 := by omega
    rw [evLoop_eq]
    refine ⟨?_, ?_, ?_, ?_⟩
    rotate_left
    · simp [-List.getD_eq_getElem?_getD, -List.map_map, evBody, evCode, evOps, evOper, evOp, opd, Env.get, Env.put, Env.keep, zipEnv, V.ok, V.sto, V.cells, D.cells, V.isAgg, binD, binInt, binStr, shInt, unD, eqOf, asI, leave, resOf, mapO, fzV, tupOf, view, view1, isData, hand, flatV, flatD, allD, mkAgg, mkVal, beq_lit, IntKind.bits, htake_self, htake_push, hget_hpush_self, hset_push, rowOf_self, okIn, lowIn, lowIn1, fzC_d, fzC_row, f7l0, h0, h1, h5, c, spendS, c2]
      try rfl
    · intro hj; exact absurd hj c2
    · intro _
      simp [-List.getD_eq_getElem?_getD, -List.map_map, evBody, evCode, evOps, evOper, evOp, opd, Env.get, Env.put, Env.keep, zipEnv, V.ok, V.sto, V.cells, D.cells, V.isAgg, binD, binInt, binStr, shInt, unD, eqOf, asI, leave, resOf, mapO, fzV, tupOf, view, view1, isData, hand, flatV, flatD, allD, mkAgg, mkVal, beq_lit, IntKind.bits, htake_self, htake_push, hget_hpush_self, hset_push, rowOf_self, okIn, lowIn, lowIn1, fzC_d, fzC_row, h1, spendS]
  | n + 1, i, l, e, hn, hl, hl2, h0, h1, h5 => by
    have c' : i < xss.length := by omega
    have c : (i : Int) < ((textss xss).length : Int) := by rw [textss_len]; omega
    have c2' : i < (textss xss).length := by rw [textss_len]; exact c'
    have g := textss_get xss i c'
    obtain ⟨f1, f2⟩ := hf.2 i
    have hsm := hf.1
    have w1 : IntKind.i64.wrap ((i : Int) + 1) = ((i + 1 : Nat) : Int) := by rw [IntWalk.i64_in _ (by omega)]; rfl
    have p := pureCall_eq (cl := ev R) fun H => e29g H (xss.getD i []) f1 f2 l hl hl2
    have lin := leftG_in (xss.getD i []) l
    have ih := l7 n0 xss hf H n (i + 1) (leftG (xss.getD i []) l)
    simp only [spendS]
    simp only [txts] at g p
    generalize List.map D.str (xss.getD i []) = T at g p
    obtain ⟨L, hL⟩ : ∃ L, leftG (xss.getD i []) l = L := ⟨_, rfl⟩
    simp only [hL] at p lin ih ⊢
    rw [evLoop_eq]
    generalize evLoop (evCode (ev R) R.glob n0 evLoop f7l0) [0, 1, 5] = F at ih ⊢
    by_cases hb : L < 0
    · simp only [hb, if_true]
      refine ⟨?_, ?_, ?_, ?_⟩
      rotate_left
      · simp [-List.getD_eq_getElem?_getD, -List.map_map, evBody, evCode, evOps, evOper, evOp, opd, Env.get, Env.put, Env.keep, zipEnv, V.ok, V.sto, V.cells, D.cells, V.isAgg, binD, binInt, binStr, shInt, unD, eqOf, asI, leave, resOf, mapO, fzV, tupOf, view, view1, isData, hand, flatV, flatD, allD, mkAgg, mkVal, beq_lit, IntKind.bits, htake_self, htake_push, hget_hpush_self, hset_push, rowOf_self, okIn, lowIn, lowIn1, fzC_d, fzC_row, f7l0, h0, h1, h5, c, c2', g, p, hb]
        try rfl
      · intro hj; simp [-List.getD_eq_getElem?_getD, -List.map_map, evBody, evCode, evOps, evOper, evOp, opd, Env.get, Env.put, Env.keep, zipEnv, V.ok, V.sto, V.cells, D.cells, V.isAgg, binD, binInt, binStr, shInt, unD, eqOf, asI, leave, resOf, mapO, fzV, tupOf, view, view1, isData, hand, flatV, flatD, allD, mkAgg, mkVal, beq_lit, IntKind.bits, htake_self, htake_push, hget_hpush_self, hset_push, rowOf_self, okIn, lowIn, lowIn1, fzC_d, fzC_row]
      · intro hj; omega
    · simp only [hb, if_false]
      have lin := lin (by omega)
      generalize spendS xss n (i + 1) L = z at ih ⊢
      have ih : ∀ e : Env, e.get 0 = .d (.vals 1 (textss xss)) → e.get 1 = .d (.int .i64 L) → e.get 5 = .d (.int .i64 (i + 1 : Nat)) → _ := fun e => ih e (by omega) (by omega) (by omega)
      by_cases hz : z < 0
      · simp only [hz, if_true, not_true, false_imp_iff, true_imp_iff, and_true] at ih ⊢
        simp [-List.getD_eq_getElem?_getD, -List.map_map, evBody, evCode, evOps, evOper, evOp, opd, Env.get, Env.put, Env.keep, zipEnv, V.ok, V.sto, V.cells, D.cells, V.isAgg, binD, binInt, binStr, shInt, unD, eqOf, asI, leave, resOf, mapO, fzV, tupOf, view, view1, isData, hand, flatV, flatD, allD, mkAgg, mkVal, beq_lit, IntKind.bits, htake_self, htake_push, hget_hpush_self, hset_push, rowOf_self, okIn, lowIn, lowIn1, fzC_d, fzC_row, f7l0, h0, h1, h5, c, c2', g, p, w1, hb]
        all_goals (refine ih _ ?_ ?_ ?_ <;> rfl)
      · simp only [hz, if_false, not_false_iff, false_imp_iff, true_imp_iff, true_and] at ih ⊢
        simp [-List.getD_eq_getElem?_getD, -List.map_map, evBody, evCode, evOps, evOper, evOp, opd, Env.get, Env.put, Env.keep, zipEnv, V.ok, V.sto, V.cells, D.cells, V.isAgg, binD, binInt, binStr, shInt, unD, eqOf, asI, leave, resOf, mapO, fzV, tupOf, view, view1, isData, hand, flatV, flatD, allD, mkAgg, mkVal, beq_lit, IntKind.bits, htake_self, htake_push, hget_hpush_self, hset_push, rowOf_self, okIn, lowIn, lowIn1, fzC_d, fzC_row, f7l0, h0, h1, h5, c, c2', g, p, w1, hb]
        all_goals (refine ih _ ?_ ?_ ?_ <;> rfl)
def szV (xss : List (List Txt)) : Int := if 1048576 - (xss.length : Int) < 0 then -1 else (if spendS xss xss.length 0 (1048576 - xss.length) < 0 then -1 else spendS xss xss.length 0 (1048576 - xss.length))
theorem e7 (H : Hp) (xss : List (List Txt)) (hf : Fit xss) : ev R 7 [.d (.vals 1 (textss xss)), .d (.int .i64 1048576)] H = some (.d (.int .i64 (szV xss)), H) := by
  refine ev_fn (fn := f7) rfl rfl ?_
  have hsm := hf.1
  have w : IntKind.i64.wrap (1048576 - (xss.length : Int)) = 1048576 - xss.length := IntWalk.i64_in _ (by omega)
  have tl := textss_len xss
  unfold szV
  by_cases hb : 1048576 - (xss.length : Int) < 0
  · simp [-List.getD_eq_getElem?_getD, -List.map_map, evBody, evCode, evOps, evOper, evOp, opd, Env.get, Env.put, Env.keep, zipEnv, V.ok, V.sto, V.cells, D.cells, V.isAgg, binD, binInt, binStr, shInt, unD, eqOf, asI, leave, resOf, mapO, fzV, tupOf, view, view1, isData, hand, flatV, flatD, allD, mkAgg, mkVal, beq_lit, IntKind.bits, htake_self, htake_push, hget_hpush_self, hset_push, rowOf_self, okIn, lowIn, lowIn1, fzC_d, fzC_row, f7, tl, w, hb]
  · obtain ⟨e', he, h1, h2⟩ := l7 (hlen H) xss hf H xss.length 0 (1048576 - xss.length) [(0, .d (.vals 1 (textss xss))), (1, .d (.int .i64 (1048576 - xss.length))), (5, .d (.int .i64 0))] (by omega) (by omega) (by omega) rfl rfl rfl
    generalize spendS xss xss.length 0 (1048576 - xss.length) = z at he h1 h2 ⊢
    by_cases hz : z < 0
    · simp only [hz, if_true] at he
      simp [-List.getD_eq_getElem?_getD, -List.map_map, evBody, evCode, evOps, evOper, evOp, opd, Env.get, Env.put, Env.keep, zipEnv, V.ok, V.sto, V.cells, D.cells, V.isAgg, binD, binInt, binStr, shInt, unD, eqOf, asI, leave, resOf, mapO, fzV, tupOf, view, view1, isData, hand, flatV, flatD, allD, mkAgg, mkVal, beq_lit, IntKind.bits, htake_self, htake_push, hget_hpush_self, hset_push, rowOf_self, okIn, lowIn, lowIn1, fzC_d, fzC_row, f7, tl, w, hb, he, h1 hz, hz]
    · simp only [hz, if_false] at he
      simp [-List.getD_eq_getElem?_getD, -List.map_map, evBody, evCode, evOps, evOper, evOp, opd, Env.get, Env.put, Env.keep, zipEnv, V.ok, V.sto, V.cells, D.cells, V.isAgg, binD, binInt, binStr, shInt, unD, eqOf, asI, leave, resOf, mapO, fzV, tupOf, view, view1, isData, hand, flatV, flatD, allD, mkAgg, mkVal, beq_lit, IntKind.bits, htake_self, htake_push, hget_hpush_self, hset_push, rowOf_self, okIn, lowIn, lowIn1, fzC_d, fzC_row, f7, tl, w, hb, he, h2 hz, hz]
theorem szV_in (xss : List (List Txt)) (h : ¬ szV xss < 0) : xss.length ≤ 1048576 ∧ ∀ i, (xss.getD i []).length ≤ 1048576 := by
  unfold szV at h
  split at h
  · omega
  · split at h
    · omega
    · refine ⟨by omega, fun i => ?_⟩
      by_cases hi : i < xss.length
      · have := spendS_in xss xss.length 0 (1048576 - xss.length) (by omega) (by omega) i (by omega) (by omega)
        omega
      · rw [List.getD_eq_getElem?_getD, List.getElem?_eq_none (by omega)]
        simp
/-- A row that is being filled with data. -/
def fillD (z : V) (ds : List D) (i : Nat) : List V := (ds.take i).map V.d ++ List.replicate (ds.length - i) z
theorem fillD_zero (z : V) (ds : List D) : fillD z ds 0 = List.replicate ds.length z := by simp [fillD]
theorem fillD_all (z : V) (ds : List D) : fillD z ds ds.length = ds.map V.d := by simp [fillD]
theorem fillD_get (z : V) (ds : List D) (i : Nat) (hi : i < ds.length) : (fillD z ds i)[i]? = some z := by
  unfold fillD
  rw [List.getElem?_append_right (by simp; omega)]
  have : i - ((ds.take i).map V.d).length = 0 := by simp; omega
  rw [this, List.getElem?_replicate, if_pos (by omega)]
theorem fillD_set (z : V) (ds : List D) (i : Nat) (hi : i < ds.length) : (fillD z ds i).set i (V.d (ds.getD i .nilp)) = fillD z ds (i + 1) := by
  unfold fillD
  have h1 : ((ds.take i).map V.d).length = i := by simp; omega
  rw [List.set_append_right _ _ (by omega), h1, Nat.sub_self]
  obtain ⟨m, hm⟩ : ∃ m, ds.length - i = m + 1 := ⟨ds.length - i - 1, by omega⟩
  have h2 : ds.length - (i + 1) = m := by omega
  rw [hm, h2, List.replicate_succ, List.set_cons_zero]
  have h3 : ds.take (i + 1) = ds.take i ++ [ds.getD i .nilp] := by
    rw [List.take_add_one]
    simp [List.getD_eq_getElem?_getD, hi]
  rw [h3]
  simp
theorem fillD_store (H : Hp) (z : V) (ds : List D) (i : Nat) (x : D) (hi : i < ds.length) (hx : ds.getD i .nilp = x) (hz : z.isAgg = false) (hd : (V.d x).isAgg = false) : hstore (hpush H (.row 0 1 (fillD z ds i))) (hlen H) 0 i 0 [.d x] = some (hpush H (.row 0 1 (fillD z ds (i + 1)))) := by
  have h2 : z.cells = [z] := cells_of_one hz
  have st := fillD_set z ds i hi
  rw [hx] at st
  simp [hstore, rowOf_self, fillD_get z ds i hi, h2, reCell, hz, hd, hset_push, st]
theorem l9 (n0 : Nat) (xss : List (List Txt)) (hx : xss.length ≤ 1048576) (hs : ∀ i, (xss.getD i []).length ≤ 1048576) (H : Hp) : ∀ (n i : Nat) (e : Env), i + n = xss.length → e.get 0 = .d (.vals 1 (textss xss)) → e.get 3 = .slc (hlen H) 0 0 xss.length → e.get 4 = .d (.int .i64 i) →
    ∃ e', evLoop (evCode (ev R) R.glob n0 evLoop f9l0) [0, 3, 4] ⟨e, hpush H (.row 0 1 (fillD (.nils 1) (textss xss) i))⟩ = some (.exit 0, ⟨e', hpush H (.row 0 1 ((textss xss).map V.d))⟩) ∧ e'.get 3 = .slc (hlen H) 0 0 xss.length
  | 0, i, e, hn, h0, h3, h4 => by
    have c : ¬ (i : Int) < ((textss xss).length : Int) := by rw [textss_len]; omega
    have hi : i = (textss xss).length := by rw [textss_len]; omega
    rw [← fillD_all (.nils 1), evLoop_eq]
    refine ⟨?_, ?_, ?_⟩
    rotate_left
    · simp [-List.getD_eq_getElem?_getD, -List.map_map, evBody, evCode, evOps, evOper, evOp, opd, Env.get, Env.put, Env.keep, zipEnv, V.ok, V.sto, V.cells, D.cells, V.isAgg, binD, binInt, binStr, shInt, unD, eqOf, asI, leave, resOf, mapO, fzV, tupOf, view, view1, isData, hand, flatV, flatD, allD, mkAgg, mkVal, beq_lit, IntKind.bits, htake_self, htake_push, hget_hpush_self, hset_push, rowOf_self, okIn, lowIn, lowIn1, fzC_d, fzC_row, f9l0, h0, h3, h4, c, hi]
      try rfl
    · simp [-List.getD_eq_getElem?_getD, -List.map_map, evBody, evCode, evOps, evOper, evOp, opd, Env.get, Env.put, Env.keep, zipEnv, V.ok, V.sto, V.cells, D.cells, V.isAgg, binD, binInt, binStr, shInt, unD, eqOf, asI, leave, resOf, mapO, fzV, tupOf, view, view1, isData, hand, flatV, flatD, allD, mkAgg, mkVal, beq_lit, IntKind.bits, htake_self, htake_push, hget_hpush_self, hset_push, rowOf_self, okIn, lowIn, lowIn1, fzC_d, fzC_row, h3]
  | n + 1, i, e, hn, h0, h3, h4 => by
    have c' : i < xss.length := by omega
    have c'' : (i : Int) < (xss.length : Int) := by omega
    have c : (i : Int) < ((textss xss).length : Int) := by rw [textss_len]; omega
    have c2' : i < (textss xss).length := by rw [textss_len]; exact c'
    have g := textss_get xss i c'
    have hsi := hs i
    have p := pureCall_eq (cl := ev R) fun H => e33 H (xss.getD i []) (by omega)
    have w1 : IntKind.i64.wrap ((i : Int) + 1) = ((i + 1 : Nat) : Int) := by rw [IntWalk.i64_in _ (by omega)]; rfl
    have st := fillD_store H (.nils 1) (textss xss) i _ c2' g rfl rfl
    have ih := l9 n0 xss hx hs H n (i + 1)
    simp only [txts] at g p st
    generalize List.map D.str (xss.getD i []) = T at g p st
    rw [evLoop_eq]
    generalize evLoop (evCode (ev R) R.glob n0 evLoop f9l0) [0, 3, 4] = F at ih ⊢
    simp [-List.getD_eq_getElem?_getD, -List.map_map, evBody, evCode, evOps, evOper, evOp, opd, Env.get, Env.put, Env.keep, zipEnv, V.ok, V.sto, V.cells, D.cells, V.isAgg, binD, binInt, binStr, shInt, unD, eqOf, asI, leave, resOf, mapO, fzV, tupOf, view, view1, isData, hand, flatV, flatD, allD, mkAgg, mkVal, beq_lit, IntKind.bits, htake_self, htake_push, hget_hpush_self, hset_push, rowOf_self, okIn, lowIn, lowIn1, fzC_d, fzC_row, f9l0, h0, h3, h4, c, c', c'', c2', g, p, w1, st]
    refine ih _ (by omega) ?_ ?_ ?_ <;> rfl
theorem e9 (H : Hp) (xss : List (List Txt)) (hx : xss.length ≤ 1048576) (hs : ∀ i, (xss.getD i []).length ≤ 1048576) : ev R 9 [.d (.vals 1 (textss xss))] H = some (.d (.vals 1 (textss xss)), H) := by
  refine ev_fn (fn := f9) rfl rfl ?_
  obtain ⟨e', he, h3⟩ := l9 (hlen H) xss hx hs H xss.length 0 [(0, .d (.vals 1 (textss xss))), (3, .slc (hlen H) 0 0 xss.length), (4, .d (.int .i64 0))] (by omega) rfl rfl rfl
  have tl := textss_len xss
  rw [fillD_zero, tl] at he
  have r : (xss.length : Int) * 24 ≤ (room : Int) := by unfold room; omega
  have fzr := fzC_row H 0 1 (textss xss) xss.length tl.symm
  simp [-List.getD_eq_getElem?_getD, -List.map_map, evBody, evCode, evOps, evOper, evOp, opd, Env.get, Env.put, Env.keep, zipEnv, V.ok, V.sto, V.cells, D.cells, V.isAgg, binD, binInt, binStr, shInt, unD, eqOf, asI, leave, resOf, mapO, fzV, tupOf, view, view1, isData, hand, flatV, flatD, allD, mkAgg, mkVal, beq_lit, IntKind.bits, htake_self, htake_push, hget_hpush_self, hset_push, rowOf_self, okIn, lowIn, lowIn1, fzC_d, fzC_row, f9, tl, he, h3, r, fzr]
theorem l11 (n0 : Nat) (xss : List (List Txt)) (hx : xss.length ≤ 1048576) (hs : ∀ i, (xss.getD i []).length ≤ 1048576) (H : Hp) : ∀ (n i : Nat) (e : Env), i + n = xss.length → e.get 0 = .d (.vals 1 (textss xss)) → e.get 1 = .d (.vals 1 (textss xss)) → e.get 5 = .d (.int .i64 i) →
    ∃ e', evLoop (evCode (ev R) R.glob n0 evLoop f11l0) [0, 1, 5] ⟨e, H⟩ = some (.exit 0, ⟨e', H⟩)
  | 0, i, e, hn, h0, h1, h5 => by
    have c : ¬ (i : Int) < ((textss xss).length : Int) := by rw [textss_len]; omega
    rw [evLoop_eq]
    refine ⟨?_, ?_⟩
    rotate_left
    · simp [-List.getD_eq_getElem?_getD, -List.map_map, evBody, evCode, evOps, evOper, evOp, opd, Env.get, Env.put, Env.keep, zipEnv, V.ok, V.sto, V.cells, D.cells, V.isAgg, binD, binInt, binStr, shInt, unD, eqOf, asI, leave, resOf, mapO, fzV, tupOf, view, view1, isData, hand, flatV, flatD, allD, mkAgg, mkVal, beq_lit, IntKind.bits, htake_self, htake_push, hget_hpush_self, hset_push, rowOf_self, okIn, lowIn, lowIn1, fzC_d, fzC_row, f11l0, h0, h1, h5, c]
      try rfl
  | n + 1, i, e, hn, h0, h1, h5 => by
    have c' : i < xss.length := by omega
    have c : (i : Int) < ((textss xss).length : Int) := by rw [textss_len]; omega
    have c2' : i < (textss xss).length := by rw [textss_len]; exact c'
    have g := textss_get xss i c'
    have hsi := hs i
    have p := pureCall_eq (cl := ev R) fun H => e37_same H (xss.getD i []) (by omega)
    have w1 : IntKind.i64.wrap ((i : Int) + 1) = ((i + 1 : Nat) : Int) := by rw [IntWalk.i64_in _ (by omega)]; rfl
    have ih := l11 n0 xss hx hs H n (i + 1)
    simp only [txts] at g p
    generalize List.map D.str (xss.getD i []) = T at g p
    rw [evLoop_eq]
    generalize evLoop (evCode (ev R) R.glob n0 evLoop f11l0) [0, 1, 5] = F at ih ⊢
    simp [-List.getD_eq_getElem?_getD, -List.map_map, evBody, evCode, evOps, evOper, evOp, opd, Env.get, Env.put, Env.keep, zipEnv, V.ok, V.sto, V.cells, D.cells, V.isAgg, binD, binInt, binStr, shInt, unD, eqOf, asI, leave, resOf, mapO, fzV, tupOf, view, view1, isData, hand, flatV, flatD, allD, mkAgg, mkVal, beq_lit, IntKind.bits, htake_self, htake_push, hget_hpush_self, hset_push, rowOf_self, okIn, lowIn, lowIn1, fzC_d, fzC_row, f11l0, h0, h1, h5, c, c2', g, p, w1]
    refine ih _ (by omega) ?_ ?_ ?_ <;> rfl
theorem e11_same (H : Hp) (xss : List (List Txt)) (hx : xss.length ≤ 1048576) (hs : ∀ i, (xss.getD i []).length ≤ 1048576) : ev R 11 [.d (.vals 1 (textss xss)), .d (.vals 1 (textss xss))] H = some (.d (.bool true), H) := by
  refine ev_fn (fn := f11) rfl rfl ?_
  obtain ⟨e', he⟩ := l11 (hlen H) xss hx hs H xss.length 0 [(0, .d (.vals 1 (textss xss))), (1, .d (.vals 1 (textss xss))), (5, .d (.int .i64 0))] (by omega) rfl rfl rfl
  simp [-List.getD_eq_getElem?_getD, -List.map_map, evBody, evCode, evOps, evOper, evOp, opd, Env.get, Env.put, Env.keep, zipEnv, V.ok, V.sto, V.cells, D.cells, V.isAgg, binD, binInt, binStr, shInt, unD, eqOf, asI, leave, resOf, mapO, fzV, tupOf, view, view1, isData, hand, flatV, flatD, allD, mkAgg, mkVal, beq_lit, IntKind.bits, htake_self, htake_push, hget_hpush_self, hset_push, rowOf_self, okIn, lowIn, lowIn1, fzC_d, fzC_row, f11, he]
def noOrder (xss : List (List Txt)) (i : Nat) : Bool := !okArgs (xss.getD i [])
theorem l31 (n0 : Nat) (xs : List (List Txt)) (hx : xs.length ≤ 9223372036854775807) (hs : ∀ i, (xs.getD i []).length ≤ 1048576) (H : Hp) : ∀ (n i : Nat) (e : Env), i + n = xs.length → e.get 0 = .d (.vals 1 (textss xs)) → e.get 3 = .d (.int .i64 i) →
    ∃ e', evLoop (evCode (ev R) R.glob n0 evLoop f31l0) [0, 3] ⟨e, H⟩ = some ((match seek (noOrder xs) n i with | some _ => .ret | none => .exit 0), ⟨e', H⟩) ∧
      (∀ j, seek (noOrder xs) n i = some j → e'.get 2 = .d (.bool false)) ∧ (seek (noOrder xs) n i = none → e'.get 0 = .d (.vals 1 (textss xs)))
  | 0, i, e, hn, h0, h3 => by
    have c : ¬ (i : Int) < (xs.length : Int) := by omega
    have c' : ¬ i < xs.length := by omega
    have tl := textss_len xs
    rw [evLoop_eq]
    refine ⟨?_, ?_, ?_, ?_⟩
    rotate_left
    · simp [-List.getD_eq_getElem?_getD, -List.map_map, evBody, evCode, evOps, evOper, evOp, opd, Env.get, Env.put, Env.keep, zipEnv, V.ok, V.sto, V.cells, D.cells, V.isAgg, binD, binInt, binStr, shInt, unD, eqOf, asI, leave, resOf, mapO, fzV, tupOf, view, view1, isData, hand, flatV, flatD, allD, mkAgg, mkVal, beq_lit, IntKind.bits, htake_self, htake_push, hget_hpush_self, hset_push, rowOf_self, okIn, lowIn, lowIn1, fzC_d, fzC_row, f31l0, h0, h3, tl, c, c', seek]
      rfl
    · intro j hj; simp [seek] at hj
    · intro _
      try refine ⟨?_, ?_⟩
      all_goals (first | trivial | simp [-List.getD_eq_getElem?_getD, -List.map_map, evBody, evCode, evOps, evOper, evOp, opd, Env.get, Env.put, Env.keep, zipEnv, V.ok, V.sto, V.cells, D.cells, V.isAgg, binD, binInt, binStr, shInt, unD, eqOf, asI, leave, resOf, mapO, fzV, tupOf, view, view1, isData, hand, flatV, flatD, allD, mkAgg, mkVal, beq_lit, IntKind.bits, htake_self, htake_push, hget_hpush_self, hset_push, rowOf_self, okIn, lowIn, lowIn1, fzC_d, fzC_row, h0, h3])
  | n + 1, i, e, hn, h0, h3 => by
    have c : (i : Int) < (xs.length : Int) := by omega
    have c' : i < xs.length := by omega
    have g := textss_get xs i c'
    have tl := textss_len xs
    have p := pureCall_eq (cl := ev R) fun H => e42 H (xs.getD i []) (by have := hs i; omega)
    simp only [txts] at g p
    generalize List.map D.str (xs.getD i []) = T at g p
    have w1 : IntKind.i64.wrap ((i : Int) + 1) = ((i + 1 : Nat) : Int) := by rw [IntWalk.i64_in _ (by omega)]; rfl
    
    have ih := l31 n0 xs hx hs H n (i + 1)
    rw [evLoop_eq]
    generalize evLoop (evCode (ev R) R.glob n0 evLoop f31l0) [0, 3] = F at ih ⊢
    by_cases hb : okArgs (xs.getD i []) = false
    · skip
      refine ⟨?_, ?_, ?_, ?_⟩
      rotate_left
      · simp [-List.getD_eq_getElem?_getD, -List.map_map, evBody, evCode, evOps, evOper, evOp, opd, Env.get, Env.put, Env.keep, zipEnv, V.ok, V.sto, V.cells, D.cells, V.isAgg, binD, binInt, binStr, shInt, unD, eqOf, asI, leave, resOf, mapO, fzV, tupOf, view, view1, isData, hand, flatV, flatD, allD, mkAgg, mkVal, beq_lit, IntKind.bits, htake_self, htake_push, hget_hpush_self, hset_push, rowOf_self, okIn, lowIn, lowIn1, fzC_d, fzC_row, f31l0, h0, h3, tl, p, c, c', g, seek, noOrder, hb]
        rfl
      · intro j hj
        simp [seek, noOrder, hb, -List.getD_eq_getElem?_getD] at hj
        try subst hj
        simp [-List.getD_eq_getElem?_getD, -List.map_map, evBody, evCode, evOps, evOper, evOp, opd, Env.get, Env.put, Env.keep, zipEnv, V.ok, V.sto, V.cells, D.cells, V.isAgg, binD, binInt, binStr, shInt, unD, eqOf, asI, leave, resOf, mapO, fzV, tupOf, view, view1, isData, hand, flatV, flatD, allD, mkAgg, mkVal, beq_lit, IntKind.bits, htake_self, htake_push, hget_hpush_self, hset_push, rowOf_self, okIn, lowIn, lowIn1, fzC_d, fzC_row]
      · intro hj; simp [seek, noOrder, hb, -List.getD_eq_getElem?_getD] at hj
    · have hb : okArgs (xs.getD i []) = true := by simpa using hb
      have hs' : seek (noOrder xs) (n + 1) i = seek (noOrder xs) n (i + 1) := by simp [seek, noOrder, hb, -List.getD_eq_getElem?_getD]
      rw [hs']
      simp [-List.getD_eq_getElem?_getD, -List.map_map, evBody, evCode, evOps, evOper, evOp, opd, Env.get, Env.put, Env.keep, zipEnv, V.ok, V.sto, V.cells, D.cells, V.isAgg, binD, binInt, binStr, shInt, unD, eqOf, asI, leave, resOf, mapO, fzV, tupOf, view, view1, isData, hand, flatV, flatD, allD, mkAgg, mkVal, beq_lit, IntKind.bits, htake_self, htake_push, hget_hpush_self, hset_push, rowOf_self, okIn, lowIn, lowIn1, fzC_d, fzC_row, f31l0, h0, h3, tl, p, c, c', g, w1, hb]
      refine ih _ (by omega) ?_ ?_ <;> rfl
/-- Whether all are orders, at most sixty. -/
def okOrders (xss : List (List Txt)) : Bool := (seek (noOrder xss) xss.length 0).isNone && (decide (1 ≤ xss.length) && decide (xss.length ≤ 60))
theorem e31 (H : Hp) (xss : List (List Txt)) (hx : xss.length ≤ 1048576) (hs : ∀ i, (xss.getD i []).length ≤ 1048576) : ev R 31 [.d (.vals 1 (textss xss))] H = some (.d (.bool (okOrders xss)), H) := by
  refine ev_fn (fn := f31) rfl rfl ?_
  obtain ⟨e', he, h1, h2⟩ := l31 (hlen H) xss (by omega) hs H xss.length 0 [(0, .d (.vals 1 (textss xss))), (3, .d (.int .i64 0))] (by omega) rfl rfl
  have p := p30 (xss.length : Int) 1 60
  have tl := textss_len xss
  unfold okOrders
  cases hr : seek (noOrder xss) xss.length 0 with
  | some j =>
    simp only [hr] at he
    simp [-List.getD_eq_getElem?_getD, -List.map_map, evBody, evCode, evOps, evOper, evOp, opd, Env.get, Env.put, Env.keep, zipEnv, V.ok, V.sto, V.cells, D.cells, V.isAgg, binD, binInt, binStr, shInt, unD, eqOf, asI, leave, resOf, mapO, fzV, tupOf, view, view1, isData, hand, flatV, flatD, allD, mkAgg, mkVal, beq_lit, IntKind.bits, htake_self, htake_push, hget_hpush_self, hset_push, rowOf_self, okIn, lowIn, lowIn1, fzC_d, fzC_row, f31, he, h1 j hr, hr]
  | none =>
    simp only [hr] at he
    have h3 := h2 hr
    have q : (decide ((xss.length : Int) ≥ 1) && decide ((xss.length : Int) ≤ 60)) = (decide (1 ≤ xss.length) && decide (xss.length ≤ 60)) := by
      congr 1 <;> exact decide_eq_decide.2 (by omega)
    rw [q] at p
    simp [-List.getD_eq_getElem?_getD, -List.map_map, evBody, evCode, evOps, evOper, evOp, opd, Env.get, Env.put, Env.keep, zipEnv, V.ok, V.sto, V.cells, D.cells, V.isAgg, binD, binInt, binStr, shInt, unD, eqOf, asI, leave, resOf, mapO, fzV, tupOf, view, view1, isData, hand, flatV, flatD, allD, mkAgg, mkVal, beq_lit, IntKind.bits, htake_self, htake_push, hget_hpush_self, hset_push, rowOf_self, okIn, lowIn, lowIn1, fzC_d, fzC_row, f31, he, h3, hr, tl, p]
theorem okOrders_all {xss : List (List Txt)} (h : okOrders xss = true) : (∀ x ∈ xss, okOrder x) ∧ 1 ≤ xss.length ∧ xss.length ≤ 60 := by
  unfold okOrders at h
  simp only [Bool.and_eq_true, decide_eq_true_eq, Option.isNone_iff_eq_none] at h
  obtain ⟨h1, h2, h3⟩ := h
  refine ⟨fun x hx => ?_, h2, h3⟩
  obtain ⟨i, hi, rfl⟩ := List.getElem_of_mem hx
  have := seek_none h1 i (by omega) (by omega)
  simp only [noOrder, Bool.not_eq_false', List.getD_eq_getElem?_getD, List.getElem?_eq_getElem hi, Option.getD_some] at this
  exact (okArgs_iff _).1 this
def ordTexts : List (List Txt) → Txt
  | [] => []
  | x :: r => ordText x ++ ordTexts r
theorem ordText_len (x : List Txt) (h : okOrder x) : (ordText x).length ≤ 800 := by
  have := putV_len x
  unfold putV at this
  rwa [if_pos ((okArgs_iff x).2 h)] at this
theorem decV_len10 : ∀ (k n : Nat), n < 10 ^ (k + 1) → (decV n).length ≤ k + 1
  | 0, n, h => by rw [dec1 (by simpa using h)]; simp
  | k + 1, n, h => by
    rw [decV]
    split
    · simp
    · have := decV_len10 k (n / 10) (by rw [Nat.pow_succ] at h; omega)
      simp only [List.length_append, List.length_singleton]; omega
/-- The head of a record. -/
def recHead (now : Nat) (k : Nat) : List Txt := [[65, 84], decV now, decV k]
theorem recHead_ok (now k : Nat) (h1 : now ≤ 1000000) (h2 : k ≤ 60) : okOrder (recHead now k) := by
  have a := decV_len10 6 now (by omega)
  have b := decV_len10 1 k (by omega)
  refine ⟨fun x hx => ?_, by simp [recHead], by simp [recHead]⟩
  simp only [recHead, List.mem_cons, List.not_mem_nil, or_false] at hx
  rcases hx with rfl | rfl | rfl
  · simp
  · omega
  · omega
theorem l32 (n0 : Nat) (xss : List (List Txt)) (hx : xss.length ≤ 60) (hs : ∀ x ∈ xss, okOrder x) (H : Hp) : ∀ (n i : Nat) (out : Txt) (e : Env), i + n = xss.length → out.length + 800 * n ≤ 1000000 → e.get 1 = .d (.vals 1 (textss xss)) → e.get 5 = .d (.str out) → e.get 6 = .d (.int .i64 i) →
    ∃ e', evLoop (evCode (ev R) R.glob n0 evLoop f32l0) [1, 5, 6] ⟨e, H⟩ = some (.exit 0, ⟨e', H⟩) ∧ e'.get 5 = .d (.str (out ++ ordTexts (xss.drop i)))
  | 0, i, out, e, hi, hl, h1, h5, h6 => by
    have c : ¬ (i : Int) < ((textss xss).length : Int) := by rw [textss_len]; omega
    rw [List.drop_of_length_le (by omega), ordTexts, List.append_nil, evLoop_eq]
    refine ⟨?_, ?_, ?_⟩
    rotate_left
    · simp [-List.getD_eq_getElem?_getD, -List.map_map, evBody, evCode, evOps, evOper, evOp, opd, Env.get, Env.put, Env.keep, zipEnv, V.ok, V.sto, V.cells, D.cells, V.isAgg, binD, binInt, binStr, shInt, unD, eqOf, asI, leave, resOf, mapO, fzV, tupOf, view, view1, isData, hand, flatV, flatD, allD, mkAgg, mkVal, beq_lit, IntKind.bits, htake_self, htake_push, hget_hpush_self, hset_push, rowOf_self, okIn, lowIn, lowIn1, fzC_d, fzC_row, f32l0, h1, h5, h6, c]
      try rfl
    · simp [-List.getD_eq_getElem?_getD, -List.map_map, evBody, evCode, evOps, evOper, evOp, opd, Env.get, Env.put, Env.keep, zipEnv, V.ok, V.sto, V.cells, D.cells, V.isAgg, binD, binInt, binStr, shInt, unD, eqOf, asI, leave, resOf, mapO, fzV, tupOf, view, view1, isData, hand, flatV, flatD, allD, mkAgg, mkVal, beq_lit, IntKind.bits, htake_self, htake_push, hget_hpush_self, hset_push, rowOf_self, okIn, lowIn, lowIn1, fzC_d, fzC_row, h5]
  | n + 1, i, out, e, hi, hl, h1, h5, h6 => by
    have c' : i < xss.length := by omega
    have c : (i : Int) < ((textss xss).length : Int) := by rw [textss_len]; omega
    have c2' : i < (textss xss).length := by rw [textss_len]; exact c'
    have g := textss_get xss i c'
    have w1 : IntKind.i64.wrap ((i : Int) + 1) = ((i + 1 : Nat) : Int) := by rw [IntWalk.i64_in _ (by omega)]; rfl
    have hd : xss.drop i = xss.getD i [] :: xss.drop (i + 1) := by
      rw [List.getD_eq_getElem?_getD, List.getElem?_eq_getElem c']
      exact List.drop_eq_getElem_cons c'
    have hm : okOrder (xss.getD i []) := by
      rw [List.getD_eq_getElem?_getD, List.getElem?_eq_getElem c']
      exact hs _ (List.getElem_mem c')
    obtain ⟨x, hx'⟩ : ∃ x, xss.getD i [] = x := ⟨_, rfl⟩
    rw [hx'] at g hd hm
    have bl := ordText_len x hm
    have q := pureCall_eq (cl := ev R) fun H => e43 H x (by have := hm.2.2; omega) hm.1
    have l1 : out.length + (ordText x).length ≤ strRoom := by unfold strRoom; omega
    have ih := l32 n0 xss hx hs H n (i + 1) (out ++ ordText x)
    simp only [List.append_assoc] at ih
    rw [hd, ordTexts]
    generalize ordText x = b at q l1 ih bl ⊢
    simp only [txts] at g q
    generalize List.map D.str (x) = T at g q
    rw [evLoop_eq]
    generalize evLoop (evCode (ev R) R.glob n0 evLoop f32l0) [1, 5, 6] = F at ih ⊢
    simp [-List.getD_eq_getElem?_getD, -List.map_map, evBody, evCode, evOps, evOper, evOp, opd, Env.get, Env.put, Env.keep, zipEnv, V.ok, V.sto, V.cells, D.cells, V.isAgg, binD, binInt, binStr, shInt, unD, eqOf, asI, leave, resOf, mapO, fzV, tupOf, view, view1, isData, hand, flatV, flatD, allD, mkAgg, mkVal, beq_lit, IntKind.bits, htake_self, htake_push, hget_hpush_self, hset_push, rowOf_self, okIn, lowIn, lowIn1, fzC_d, fzC_row, f32l0, h1, h5, h6, c, c2', g, w1, q, l1]
    refine ih _ (by omega) (by rw [List.length_append]; omega) ?_ ?_ ?_ <;> rfl
theorem e32 (H : Hp) (now : Nat) (hn : now ≤ 1000000) (xss : List (List Txt)) (hx : xss.length ≤ 60) (hs : ∀ x ∈ xss, okOrder x) : ev R 32 [.d (.int .i64 now), .d (.vals 1 (textss xss))] H = some (.d (.str (ordText (recHead now xss.length) ++ ordTexts xss)), H) := by
  refine ev_fn (fn := f32) rfl rfl ?_
  have q1 : pureCall (ev R) 65 [.d (.int .i64 now)] = some (.d (.str (decV now))) := pureCall_eq fun H => e65 now H (by omega)
  have q2 : pureCall (ev R) 65 [.d (.int .i64 xss.length)] = some (.d (.str (decV xss.length))) := pureCall_eq fun H => e65 xss.length H (by omega)
  have hok := recHead_ok now xss.length hn hx
  have q3 := pureCall_eq (cl := ev R) fun H => e43 H (recHead now xss.length) (by simp [recHead]) hok.1
  simp only [recHead, txts, List.map_cons, List.map_nil] at q3
  have hl := ordText_len _ hok
  obtain ⟨e', he, h5⟩ := l32 (hlen H) xss hx hs H xss.length 0 (ordText (recHead now xss.length)) [(1, .d (.vals 1 (textss xss))), (5, .d (.str (ordText (recHead now xss.length)))), (6, .d (.int .i64 0))] (by omega) (by omega) rfl rfl rfl
  rw [List.drop_zero] at h5
  have e : recHead now xss.length = [[65, 84], decV now, decV xss.length] := rfl
  rw [← e] at q3
  have tl := textss_len xss
  generalize ordText (recHead now xss.length) = hd at *
  simp [-List.getD_eq_getElem?_getD, -List.map_map, evBody, evCode, evOps, evOper, evOp, opd, Env.get, Env.put, Env.keep, zipEnv, V.ok, V.sto, V.cells, D.cells, V.isAgg, binD, binInt, binStr, shInt, unD, eqOf, asI, leave, resOf, mapO, fzV, tupOf, view, view1, isData, hand, flatV, flatD, allD, mkAgg, mkVal, beq_lit, IntKind.bits, htake_self, htake_push, hget_hpush_self, hset_push, rowOf_self, okIn, lowIn, lowIn1, fzC_d, fzC_row, f32, q1, q2, q3, tl, he, h5]
/-- A record written out. -/
def recV (now : Int) (xss : List (List Txt)) : Txt := if 0 ≤ now ∧ now ≤ 1000000 ∧ okOrders xss = true then ordText (recHead now.toNat xss.length) ++ ordTexts xss else []
theorem e8 (H : Hp) (now : Int) (xss : List (List Txt)) (hx : xss.length ≤ 1048576) (hs : ∀ i, (xss.getD i []).length ≤ 1048576) : ev R 8 [.d (.int .i64 now), .d (.vals 1 (textss xss))] H = some (.d (.str (recV now xss)), H) := by
  refine ev_fn (fn := f8) rfl rfl ?_
  have p := p30 now 0 1000000
  have q := pureCall_eq (cl := ev R) fun H => e31 H xss hx hs
  unfold recV
  by_cases h1 : 0 ≤ now
  · by_cases h2 : now ≤ 1000000
    · cases hok : okOrders xss with
      | false =>
        rw [hok] at q
        simp [-List.getD_eq_getElem?_getD, -List.map_map, evBody, evCode, evOps, evOper, evOp, opd, Env.get, Env.put, Env.keep, zipEnv, V.ok, V.sto, V.cells, D.cells, V.isAgg, binD, binInt, binStr, shInt, unD, eqOf, asI, leave, resOf, mapO, fzV, tupOf, view, view1, isData, hand, flatV, flatD, allD, mkAgg, mkVal, beq_lit, IntKind.bits, htake_self, htake_push, hget_hpush_self, hset_push, rowOf_self, okIn, lowIn, lowIn1, fzC_d, fzC_row, f8, p, h1, h2, q]
      | true =>
        rw [hok] at q
        obtain ⟨a, b, c⟩ := okOrders_all hok
        obtain ⟨m, rfl⟩ := Int.eq_ofNat_of_zero_le h1
        have q2 := pureCall_eq (cl := ev R) fun H => e32 H m (by omega) xss c a
        have h2' : m ≤ 1000000 := by omega
        simp [-List.getD_eq_getElem?_getD, -List.map_map, evBody, evCode, evOps, evOper, evOp, opd, Env.get, Env.put, Env.keep, zipEnv, V.ok, V.sto, V.cells, D.cells, V.isAgg, binD, binInt, binStr, shInt, unD, eqOf, asI, leave, resOf, mapO, fzV, tupOf, view, view1, isData, hand, flatV, flatD, allD, mkAgg, mkVal, beq_lit, IntKind.bits, htake_self, htake_push, hget_hpush_self, hset_push, rowOf_self, okIn, lowIn, lowIn1, fzC_d, fzC_row, f8, p, h1, h2, h2', q, q2]
    · simp [-List.getD_eq_getElem?_getD, -List.map_map, evBody, evCode, evOps, evOper, evOp, opd, Env.get, Env.put, Env.keep, zipEnv, V.ok, V.sto, V.cells, D.cells, V.isAgg, binD, binInt, binStr, shInt, unD, eqOf, asI, leave, resOf, mapO, fzV, tupOf, view, view1, isData, hand, flatV, flatD, allD, mkAgg, mkVal, beq_lit, IntKind.bits, htake_self, htake_push, hget_hpush_self, hset_push, rowOf_self, okIn, lowIn, lowIn1, fzC_d, fzC_row, f8, p, h1, h2]
  · simp [-List.getD_eq_getElem?_getD, -List.map_map, evBody, evCode, evOps, evOper, evOp, opd, Env.get, Env.put, Env.keep, zipEnv, V.ok, V.sto, V.cells, D.cells, V.isAgg, binD, binInt, binStr, shInt, unD, eqOf, asI, leave, resOf, mapO, fzV, tupOf, view, view1, isData, hand, flatV, flatD, allD, mkAgg, mkVal, beq_lit, IntKind.bits, htake_self, htake_push, hget_hpush_self, hset_push, rowOf_self, okIn, lowIn, lowIn1, fzC_d, fzC_row, f8, p, h1]
theorem l10 (n0 : Nat) (xss : List (List Txt)) (hx : xss.length ≤ 60) (hs : ∀ i, (xss.getD i []).length ≤ 1048576) (H : Hp) : ∀ (n i : Nat) (out : Txt) (e : Env), i + n = xss.length → out.length + 800 * n ≤ 1000000 → e.get 5 = .d (.str out) → e.get 24 = .d (.vals 1 (textss xss)) → e.get 25 = .d (.int .i64 xss.length) → e.get 26 = .d (.int .i64 i) →
    ∃ e', evLoop (evCode (ev R) R.glob n0 evLoop f10l0) [5, 24, 25, 26] ⟨e, H⟩ = some ((match seek (noOrder xss) n i with | some _ => .ret | none => .exit 0), ⟨e', H⟩) ∧
      (∀ j, seek (noOrder xss) n i = some j → e'.get 4 = .d (.str [])) ∧ (seek (noOrder xss) n i = none → e'.get 5 = .d (.str (out ++ ordTexts (xss.drop i))))
  | 0, i, out, e, hi, hl, h5, h24, h25, h26 => by
    have c : ¬ (i : Int) < (xss.length : Int) := by omega
    rw [List.drop_of_length_le (by omega), ordTexts, List.append_nil, evLoop_eq]
    refine ⟨?_, ?_, ?_, ?_⟩
    rotate_left
    · simp [-List.getD_eq_getElem?_getD, -List.map_map, evBody, evCode, evOps, evOper, evOp, opd, Env.get, Env.put, Env.keep, zipEnv, V.ok, V.sto, V.cells, D.cells, V.isAgg, binD, binInt, binStr, shInt, unD, eqOf, asI, leave, resOf, mapO, fzV, tupOf, view, view1, isData, hand, flatV, flatD, allD, mkAgg, mkVal, beq_lit, IntKind.bits, htake_self, htake_push, hget_hpush_self, hset_push, rowOf_self, okIn, lowIn, lowIn1, fzC_d, fzC_row, f10l0, h5, h24, h25, h26, c, seek]
      try rfl
    · intro j hj; simp [seek] at hj
    · intro _; simp [-List.getD_eq_getElem?_getD, -List.map_map, evBody, evCode, evOps, evOper, evOp, opd, Env.get, Env.put, Env.keep, zipEnv, V.ok, V.sto, V.cells, D.cells, V.isAgg, binD, binInt, binStr, shInt, unD, eqOf, asI, leave, resOf, mapO, fzV, tupOf, view, view1, isData, hand, flatV, flatD, allD, mkAgg, mkVal, beq_lit, IntKind.bits, htake_self, htake_push, hget_hpush_self, hset_push, rowOf_self, okIn, lowIn, lowIn1, fzC_d, fzC_row, h5]
  | n + 1, i, out, e, hi, hl, h5, h24, h25, h26 => by
    have c' : i < xss.length := by omega
    have c0 : (i : Int) < (xss.length : Int) := by omega
    have c : (i : Int) < ((textss xss).length : Int) := by rw [textss_len]; omega
    have c2' : i < (textss xss).length := by rw [textss_len]; exact c'
    have g := textss_get xss i c'
    have hsi := hs i
    have w1 : IntKind.i64.wrap ((i : Int) + 1) = ((i + 1 : Nat) : Int) := by rw [IntWalk.i64_in _ (by omega)]; rfl
    have hd : xss.drop i = xss.getD i [] :: xss.drop (i + 1) := by
      rw [List.getD_eq_getElem?_getD, List.getElem?_eq_getElem c']
      exact List.drop_eq_getElem_cons c'
    have sk : seek (noOrder xss) (n + 1) i = (if okArgs (xss.getD i []) = false then some i else seek (noOrder xss) n (i + 1)) := by
      simp only [seek, noOrder, Bool.not_eq_true']
    rw [sk, hd, ordTexts]
    obtain ⟨x, hx'⟩ : ∃ x, xss.getD i [] = x := ⟨_, rfl⟩
    rw [hx'] at g hsi ⊢
    have q := pureCall_eq (cl := ev R) fun H => e36 H x (by omega)
    have q2 := pureCall_eq (cl := ev R) fun H => e13 H x (by omega)
    cases hok : okArgs x with
    | false =>
      rw [hok] at q
      rw [evLoop_eq]
      simp only [if_true]
      refine ⟨?_, ?_, ?_, ?_⟩
      rotate_left
      · simp [-List.getD_eq_getElem?_getD, -List.map_map, evBody, evCode, evOps, evOper, evOp, opd, Env.get, Env.put, Env.keep, zipEnv, V.ok, V.sto, V.cells, D.cells, V.isAgg, binD, binInt, binStr, shInt, unD, eqOf, asI, leave, resOf, mapO, fzV, tupOf, view, view1, isData, hand, flatV, flatD, allD, mkAgg, mkVal, beq_lit, IntKind.bits, htake_self, htake_push, hget_hpush_self, hset_push, rowOf_self, okIn, lowIn, lowIn1, fzC_d, fzC_row, f10l0, h5, h24, h25, h26, c, c0, c2', g, q]
        try rfl
      · intro j hj; simp [-List.getD_eq_getElem?_getD, -List.map_map, evBody, evCode, evOps, evOper, evOp, opd, Env.get, Env.put, Env.keep, zipEnv, V.ok, V.sto, V.cells, D.cells, V.isAgg, binD, binInt, binStr, shInt, unD, eqOf, asI, leave, resOf, mapO, fzV, tupOf, view, view1, isData, hand, flatV, flatD, allD, mkAgg, mkVal, beq_lit, IntKind.bits, htake_self, htake_push, hget_hpush_self, hset_push, rowOf_self, okIn, lowIn, lowIn1, fzC_d, fzC_row]
      · intro hj; simp at hj
    | true =>
      rw [hok] at q
      have hm := (okArgs_iff x).1 hok
      have bl := ordText_len x hm
      have e1 : putV x = ordText x := by unfold putV; rw [if_pos hok]
      rw [e1] at q2
      have l1 : out.length + (ordText x).length ≤ strRoom := by unfold strRoom; omega
      have ih := l10 n0 xss hx hs H n (i + 1) (out ++ ordText x)
      simp only [List.append_assoc] at ih
      simp only [Bool.true_eq_false, if_false]
      generalize ordText x = b at q2 l1 ih bl ⊢
      simp only [txts] at g q q2
      generalize List.map D.str (x) = T at g q q2
      generalize seek (noOrder xss) n (i + 1) = S at ih ⊢
      rw [evLoop_eq]
      generalize evLoop (evCode (ev R) R.glob n0 evLoop f10l0) [5, 24, 25, 26] = F at ih ⊢
      simp [-List.getD_eq_getElem?_getD, -List.map_map, evBody, evCode, evOps, evOper, evOp, opd, Env.get, Env.put, Env.keep, zipEnv, V.ok, V.sto, V.cells, D.cells, V.isAgg, binD, binInt, binStr, shInt, unD, eqOf, asI, leave, resOf, mapO, fzV, tupOf, view, view1, isData, hand, flatV, flatD, allD, mkAgg, mkVal, beq_lit, IntKind.bits, htake_self, htake_push, hget_hpush_self, hset_push, rowOf_self, okIn, lowIn, lowIn1, fzC_d, fzC_row, f10l0, h5, h24, h25, h26, c, c0, c2', g, w1, q, q2, l1]
      refine ih _ (by omega) (by rw [List.length_append]; omega) ?_ ?_ ?_ ?_ <;> rfl
theorem e10 (H : Hp) (now : Int) (hw : -9223372036854775808 ≤ now ∧ now ≤ 9223372036854775807) (xss : List (List Txt)) (hx : xss.length ≤ 1048576) (hs : ∀ i, (xss.getD i []).length ≤ 1048576) : ev R 10 [.d (.int .i64 now), .d (.vals 1 (textss xss))] H = some (.d (.str (recV now xss)), H) := by
  refine ev_fn (fn := f10) rfl rfl ?_
  have p := p34 now 0 1000000
  have p2 := p34 (xss.length : Int) 1 60
  have tl := textss_len xss
  unfold recV
  by_cases h1 : 0 ≤ now
  · by_cases h2 : now ≤ 1000000
    · by_cases h3 : 1 ≤ xss.length
      · by_cases h4 : xss.length ≤ 60
        · obtain ⟨m, rfl⟩ := Int.eq_ofNat_of_zero_le h1
          have h3' : (1 : Int) ≤ (xss.length : Int) := by omega
          have h4' : (xss.length : Int) ≤ 60 := by omega
          have h2' : m ≤ 1000000 := by omega
          have q1 : pureCall (ev R) 35 [.d (.int .i64 m)] = some (.d (.str (decV m))) := pureCall_eq fun H => by
            refine ev_fn (fn := f35) rfl rfl ?_
            have := p40 m (by omega)
            simp [-List.getD_eq_getElem?_getD, -List.map_map, evBody, evCode, evOps, evOper, evOp, opd, Env.get, Env.put, Env.keep, zipEnv, V.ok, V.sto, V.cells, D.cells, V.isAgg, binD, binInt, binStr, shInt, unD, eqOf, asI, leave, resOf, mapO, fzV, tupOf, view, view1, isData, hand, flatV, flatD, allD, mkAgg, mkVal, beq_lit, IntKind.bits, htake_self, htake_push, hget_hpush_self, hset_push, rowOf_self, okIn, lowIn, lowIn1, fzC_d, fzC_row, f35, this]
          have q2 : pureCall (ev R) 35 [.d (.int .i64 xss.length)] = some (.d (.str (decV xss.length))) := pureCall_eq fun H => by
            refine ev_fn (fn := f35) rfl rfl ?_
            have := p40 xss.length (by omega)
            simp [-List.getD_eq_getElem?_getD, -List.map_map, evBody, evCode, evOps, evOper, evOp, opd, Env.get, Env.put, Env.keep, zipEnv, V.ok, V.sto, V.cells, D.cells, V.isAgg, binD, binInt, binStr, shInt, unD, eqOf, asI, leave, resOf, mapO, fzV, tupOf, view, view1, isData, hand, flatV, flatD, allD, mkAgg, mkVal, beq_lit, IntKind.bits, htake_self, htake_push, hget_hpush_self, hset_push, rowOf_self, okIn, lowIn, lowIn1, fzC_d, fzC_row, f35, this]
          have hok := recHead_ok m xss.length h2' h4
          have q3 := pureCall_eq (cl := ev R) fun H => e13 H (recHead m xss.length) (by simp [recHead])
          have e1 : putV (recHead m xss.length) = ordText (recHead m xss.length) := by unfold putV; rw [if_pos ((okArgs_iff _).2 hok)]
          rw [e1] at q3
          simp only [recHead, txts, List.map_cons, List.map_nil] at q3
          have hl := ordText_len _ hok
          obtain ⟨e', he, g1, g2⟩ := l10 (hlen H) xss h4 hs H xss.length 0 (ordText (recHead m xss.length)) [(5, .d (.str (ordText (recHead m xss.length)))), (24, .d (.vals 1 (textss xss))), (25, .d (.int .i64 xss.length)), (26, .d (.int .i64 0))] (by omega) (by omega) rfl rfl rfl rfl
          rw [List.drop_zero] at g2
          have e : recHead m xss.length = [[65, 84], decV m, decV xss.length] := rfl
          rw [← e] at q3
          have oo : okOrders xss = (seek (noOrder xss) xss.length 0).isNone := by
            unfold okOrders
            simp [h3, h4]
          rw [oo]
          simp only [Int.toNat_natCast]
          generalize ordText (recHead m xss.length) = hd at *
          cases hr : seek (noOrder xss) xss.length 0 with
          | some j =>
            simp only [hr] at he
            simp [-List.getD_eq_getElem?_getD, -List.map_map, evBody, evCode, evOps, evOper, evOp, opd, Env.get, Env.put, Env.keep, zipEnv, V.ok, V.sto, V.cells, D.cells, V.isAgg, binD, binInt, binStr, shInt, unD, eqOf, asI, leave, resOf, mapO, fzV, tupOf, view, view1, isData, hand, flatV, flatD, allD, mkAgg, mkVal, beq_lit, IntKind.bits, htake_self, htake_push, hget_hpush_self, hset_push, rowOf_self, okIn, lowIn, lowIn1, fzC_d, fzC_row, f10, p, p2, tl, h1, h2, h3', h4', q1, q2, q3, he, g1 j hr]
          | none =>
            simp only [hr] at he
            simp [-List.getD_eq_getElem?_getD, -List.map_map, evBody, evCode, evOps, evOper, evOp, opd, Env.get, Env.put, Env.keep, zipEnv, V.ok, V.sto, V.cells, D.cells, V.isAgg, binD, binInt, binStr, shInt, unD, eqOf, asI, leave, resOf, mapO, fzV, tupOf, view, view1, isData, hand, flatV, flatD, allD, mkAgg, mkVal, beq_lit, IntKind.bits, htake_self, htake_push, hget_hpush_self, hset_push, rowOf_self, okIn, lowIn, lowIn1, fzC_d, fzC_row, f10, p, p2, tl, h1, h2, h2', h3', h4', q1, q2, q3, he, g2 hr]
        · have h4' : ¬ (xss.length : Int) ≤ 60 := by omega
          have h3' : (1 : Int) ≤ (xss.length : Int) := by omega
          have oo : okOrders xss = false := by unfold okOrders; simp [h4]
          simp [-List.getD_eq_getElem?_getD, -List.map_map, evBody, evCode, evOps, evOper, evOp, opd, Env.get, Env.put, Env.keep, zipEnv, V.ok, V.sto, V.cells, D.cells, V.isAgg, binD, binInt, binStr, shInt, unD, eqOf, asI, leave, resOf, mapO, fzV, tupOf, view, view1, isData, hand, flatV, flatD, allD, mkAgg, mkVal, beq_lit, IntKind.bits, htake_self, htake_push, hget_hpush_self, hset_push, rowOf_self, okIn, lowIn, lowIn1, fzC_d, fzC_row, f10, p, p2, tl, h1, h2, h3', h4', oo]
      · have h3' : ¬ (1 : Int) ≤ (xss.length : Int) := by omega
        have oo : okOrders xss = false := by unfold okOrders; simp [h3]
        simp [-List.getD_eq_getElem?_getD, -List.map_map, evBody, evCode, evOps, evOper, evOp, opd, Env.get, Env.put, Env.keep, zipEnv, V.ok, V.sto, V.cells, D.cells, V.isAgg, binD, binInt, binStr, shInt, unD, eqOf, asI, leave, resOf, mapO, fzV, tupOf, view, view1, isData, hand, flatV, flatD, allD, mkAgg, mkVal, beq_lit, IntKind.bits, htake_self, htake_push, hget_hpush_self, hset_push, rowOf_self, okIn, lowIn, lowIn1, fzC_d, fzC_row, f10, p, p2, tl, h1, h2, h3', oo]
    · simp [-List.getD_eq_getElem?_getD, -List.map_map, evBody, evCode, evOps, evOper, evOp, opd, Env.get, Env.put, Env.keep, zipEnv, V.ok, V.sto, V.cells, D.cells, V.isAgg, binD, binInt, binStr, shInt, unD, eqOf, asI, leave, resOf, mapO, fzV, tupOf, view, view1, isData, hand, flatV, flatD, allD, mkAgg, mkVal, beq_lit, IntKind.bits, htake_self, htake_push, hget_hpush_self, hset_push, rowOf_self, okIn, lowIn, lowIn1, fzC_d, fzC_row, f10, p, h1, h2]
  · simp [-List.getD_eq_getElem?_getD, -List.map_map, evBody, evCode, evOps, evOper, evOp, opd, Env.get, Env.put, Env.keep, zipEnv, V.ok, V.sto, V.cells, D.cells, V.isAgg, binD, binInt, binStr, shInt, unD, eqOf, asI, leave, resOf, mapO, fzV, tupOf, view, view1, isData, hand, flatV, flatD, allD, mkAgg, mkVal, beq_lit, IntKind.bits, htake_self, htake_push, hget_hpush_self, hset_push, rowOf_self, okIn, lowIn, lowIn1, fzC_d, fzC_row, f10, p, h1]
theorem e3 (H : Hp) (now : Int) (hw : -9223372036854775808 ≤ now ∧ now ≤ 9223372036854775807) (xss : List (List Txt)) (hf : Fit xss) : ev R 3 [.d (.int .i64 now), .d (.vals 1 (textss xss))] H = some (.d (.bool true), H) := by
  refine ev_fn (fn := f3) rfl rfl ?_
  have p7 := pureCall_eq (cl := ev R) fun H => e7 H xss hf
  by_cases c : szV xss < 0
  · simp [-List.getD_eq_getElem?_getD, -List.map_map, evBody, evCode, evOps, evOper, evOp, opd, Env.get, Env.put, Env.keep, zipEnv, V.ok, V.sto, V.cells, D.cells, V.isAgg, binD, binInt, binStr, shInt, unD, eqOf, asI, leave, resOf, mapO, fzV, tupOf, view, view1, isData, hand, flatV, flatD, allD, mkAgg, mkVal, beq_lit, IntKind.bits, htake_self, htake_push, hget_hpush_self, hset_push, rowOf_self, okIn, lowIn, lowIn1, fzC_d, fzC_row, f3, p7, c]
  · obtain ⟨hx, hs⟩ := szV_in xss c
    have p9 := pureCall_eq (cl := ev R) fun H => e9 H xss hx hs
    have p8 := pureCall_eq (cl := ev R) fun H => e8 H now xss hx hs
    have p10 := pureCall_eq (cl := ev R) fun H => e10 H now hw xss hx hs
    have p11 := pureCall_eq (cl := ev R) fun H => e11_same H xss hx hs
    generalize textss xss = T at *
    simp [-List.getD_eq_getElem?_getD, -List.map_map, evBody, evCode, evOps, evOper, evOp, opd, Env.get, Env.put, Env.keep, zipEnv, V.ok, V.sto, V.cells, D.cells, V.isAgg, binD, binInt, binStr, shInt, unD, eqOf, asI, leave, resOf, mapO, fzV, tupOf, view, view1, isData, hand, flatV, flatD, allD, mkAgg, mkVal, beq_lit, IntKind.bits, htake_self, htake_push, hget_hpush_self, hset_push, rowOf_self, okIn, lowIn, lowIn1, fzC_d, fzC_row, f3, p7, c, p9, p8, p10, p11]
namespace fnExactRecordPut
theorem answers (n : Int) (a : Option Addr) (len cap : Nat) (xss : List (List ByteArray)) (w : World) (hn : (Lit.int IntKind.i64 n).wf = true) (h : IsTextss w a len cap xss) (hG : GR globD w (fun _ => False)) : Calls Tryd.prog 3 #[.int .i64 n, .slice a len cap] w fun e w' => e = .returned (.bool true) ∧ RowKit.Below w.heap.size w w' := by
  have hn' : -9223372036854775808 ≤ n ∧ n ≤ 9223372036854775807 := by
    have e1 : IntKind.i64.min = -9223372036854775808 := rfl
    have e2 : IntKind.i64.max = 9223372036854775807 := rfl
    simp only [Lit.wf, Bool.and_eq_true, decide_eq_true_eq, e1, e2] at hn
    exact hn
  have fit : Fit (textssOf xss) := by
    obtain ⟨h1, h2, h3, h4, _⟩ := h
    have mx : maxLen ≤ 9223372036854775807 := by decide
    refine ⟨by simp [textssOf]; omega, fun i => ?_⟩
    by_cases hi : i < xss.length
    · obtain ⟨k1, k2⟩ := h4 i (by omega)
      have e : (textssOf xss).getD i [] = txtsOf (xss.getD i []) := by simp [textssOf, List.getD_eq_getElem?_getD, hi]
      rw [e]
      exact ⟨by rw [txtsOf_len]; omega, fun j => Nat.le_trans (txtsOf_get _ k2 j) mx⟩
    · have e : (textssOf xss).getD i [] = [] := by simp [textssOf, List.getD_eq_getElem?_getD, hi]
      rw [e]
      exact ⟨by simp, fun j => by simp⟩
  refine calls_bool prg_ok (xs := [.int .i64 n, .vals 1 (textss (textssOf xss))]) (e3 [] n hn' _ fit) hG rfl fun j hj => ?_
  match j, hj with
  | 0, _ => exact rd_int w .i64 n
  | 1, _ => exact rd_textss h
end fnExactRecordPut
end Go.Proofs.YtpmphmpaeooeeaaDoor.Code

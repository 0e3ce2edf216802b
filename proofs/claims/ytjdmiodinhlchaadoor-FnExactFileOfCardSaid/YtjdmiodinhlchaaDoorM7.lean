/- Lemmas (several texts in one). -/
import Derived.Test.YtjdmiodinhlchaaDoorM6
/- The orders that make an entry: the code under test, frozen at once. -/
namespace Go.Proofs.YtjdmiodinhlchaaDoor.Code
open Go Go.Ev Go.Proofs
set_option maxRecDepth 100000
set_option maxHeartbeats 1000000
set_option linter.unusedSimpArgs false
set_option linter.unusedVariables false
def rowG (g : Nat) (xss : List (List Txt)) : Ev.Obj := .row g 1 ((textss xss).map V.d)
theorem rowG_add (g : Nat) (acc : List (List Txt)) (x : List Txt) : (textss acc).map V.d ++ [.d (.vals 1 (x.map D.str))] = (textss (acc ++ [x])).map V.d := by simp [textss]
def QO (H : Hp) (en : En) (ex : Nat) (M : List (List Txt)) : Ev.Out → Env → Hp → Prop := fun o e X =>
  o = .exit ex ∧ ∃ g, X = ap H [.row 0 7 [.d (enD en)], rowG g M] ∧ e.get 1 = .ptr (hlen H) 0 0 0 ∧ e.get 3 = .slc (hlen H + 1) g 0 M.length
def IO (H : Hp) (en : En) (w : Txt) (M : List (List Txt)) (f : Nat) (e : Env) (X : Hp) : Prop :=
  ∃ (i g : Nat) (acc : List (List Txt)), en.list.length ≤ i + 6 * f ∧ i ≤ 1000 ∧ acc ++ chunks w en.key en.list f i = M ∧
      X = ap H [.row 0 7 [.d (enD en)], rowG g acc] ∧ e.get 1 = .ptr (hlen H) 0 0 0 ∧ e.get 3 = .slc (hlen H + 1) g 0 acc.length ∧ e.get 4 = .d (.str w) ∧ e.get 5 = .d (.int .i64 i)
theorem lO0 (H : Hp) (en : En) (w : Txt) (hx : en.list.length ≤ 100) (M : List (List Txt)) (hM : M.length ≤ 1000) : ∀ (f : Nat) (e : Env) (X : Hp), IO H en w M f e X →
    Gives (QO H en 1 M) (evLoop (evCode (ev R) R.glob (hlen H) evLoop f16l0) [1, 3, 4, 5] ⟨e, X⟩) := by
  refine loop_while _ _ ?_
  rintro f e X ⟨i, g, acc, h1, h2, h3, rfl, g1, g3, g4, g5⟩
  by_cases c' : i < en.list.length
  · cases f with
    | zero => omega
    | succ f =>
      have c : (i : Int) < (en.list.length : Int) := by omega
      obtain ⟨m, hm⟩ : ∃ m, min (i + 6) en.list.length = m := ⟨_, rfl⟩
      rw [chunks, if_pos c', hm] at h3
      obtain ⟨T, hT⟩ : ∃ T, (en.list.take m).drop i = T := ⟨_, rfl⟩
      have tl : T.length = m - i := by rw [← hT]; simp; omega
      have tm : List.drop i (List.take m (List.map D.str en.list)) = T.map D.str := by rw [← hT]; simp [List.map_drop, List.map_take]
      have al := rowG_add (g + 1) acc (w :: en.key :: T)
      rw [List.map_cons, List.map_cons] at al
      rw [hT] at h3
      have al' : acc.length < M.length := by rw [← h3]; simp
      have tk : List.take (2 + T.length) (D.str w :: D.str en.key :: T.map D.str) = D.str w :: D.str en.key :: T.map D.str := List.take_of_length_le (by simp; omega)
      have rm : (acc.length + 1) * 24 ≤ room := by unfold room; omega
      have rm2 : (2 + T.length) * 16 ≤ room := by unfold room; omega
      have ln : 2 + T.length ≤ T.length + 1 + 1 := by omega
      have rl : ((textss acc).map V.d).length = acc.length := by rw [List.length_map, textss_len]
      obtain ⟨I, hI⟩ : ∃ I : Int, (i : Int) = I := ⟨_, rfl⟩
      obtain ⟨I2, hI2⟩ : ∃ I : Int, ((i + 6 : Nat) : Int) = I := ⟨_, rfl⟩
      obtain ⟨N, hN⟩ : ∃ N : Int, (en.list.length : Int) = N := ⟨_, rfl⟩
      have w6 : IntKind.i64.wrap (I + 8) = I + 8 := IntWalk.i64_in _ (by omega)
      have w6' : IntKind.i64.wrap (I + 8 - 2) = I2 := by rw [IntWalk.i64_in _ (by omega)]; omega
      have w7 : IntKind.i64.wrap (I + 6) = I2 := by rw [IntWalk.i64_in _ (by omega)]; omega
      have a1 : I.toNat = i := by omega
      have a0 : 0 ≤ I := by omega
      have b0 : 0 ≤ I2 := by omega
      have n0 : 0 ≤ N := by omega
      rw [hI] at c g5
      rw [hN] at c
      have done : ∀ (en' : Env), en'.get 1 = .ptr (hlen H) 0 0 0 → en'.get 3 = .slc (hlen H + 1) (g + 1) 0 (acc.length + 1) → en'.get 4 = .d (.str w) → en'.get 5 = .d (.int .i64 I2) →
          ∃ m, m < f + 1 ∧ IO H en w M m en' (ap H [.row 0 7 [.d (enD en)], .row (g + 1) 1 ((textss (acc ++ [w :: en.key :: T])).map V.d)]) := fun en' k1 k3 k4 k5 =>
        ⟨f, by omega, i + 6, g + 1, acc ++ [w :: en.key :: T], by omega, by omega, by rw [List.append_assoc]; exact h3, rfl, k1, by rw [k3, List.length_append]; rfl, k4, by rw [k5, hI2]⟩
      unfold rowG
      by_cases d : N < I2
      · have n1 : N.toNat = m := by omega
        have n2 : I ≤ (m : Int) := by omega
        have n3 : N ≤ (en.list.length : Int) := by omega
        have n5 : i ≤ m := by omega
        simp [-List.getD_eq_getElem?_getD, -List.map_map, evBody, evCode, evOps, evOper, evOp, opd, Env.get, Env.put, Env.keep, zipEnv, V.ok, V.sto, binD, binInt, binStr, shInt, unD, eqOf, asI, leave, resOf, mapO, fzV, tupOf, view, view1, isData, hand, flatV, flatD, allD, mkAgg, mkVal, beq_lit, IntKind.bits, okIn, lowIn, lowIn1, lowT, fzC_d, ap0, ap_get, ap_get0, ap_set, ap_set0, ap_len, ap_take, ap_takeN, ap_nlt, ap_nlt0, ap_blt, ap_blt0, ap_bltR, ap_blt00, ap_ble, ap_ble0, ap_bleN, ap_bleR, rowOf, hload, hstore, hget, hset, reCell, src, allD_d', allD_app, ap_fzC, hand1, frzE, List.singleton_append, List.nil_append, List.cons_append, ap_ap, vc_agg, vc_dagg, va_agg, va_dagg, dc_agg, vc_str, va_str, dc_str, vc_int, va_int, dc_int, vc_bool, va_bool, dc_bool, vc_vals, va_vals, dc_vals, vc_nilp, va_nilp, dc_nilp, vc_rptr, va_rptr, dc_rptr, vc_fnd, va_fnd, dc_fnd, vc_nilfn, va_nilfn, dc_nilfn, vc_iface, va_iface, dc_iface, vc_niface, va_niface, dc_niface, vc_mval, va_mval, dc_mval, vc_slc, va_slc, vc_ptr, va_ptr, vc_fnv, va_fnv, vc_mref, va_mref, vc_nils, va_nils, vc_und, va_und, scD_cells, scD_vcells, scD_agg, scD_fold, prD_cells, prD_vcells, prD_agg, prD_fold, enD_cells, enD_vcells, enD_agg, enD_fold, baD_cells, baD_vcells, baD_agg, baD_fold, htake_self, gives_some, Round, Fin2, step_normal, step_exit, step_ret, fzC_ap, fzC_ap0, mapO_fz_app, mapO_d, fz_d, List.take_of_length_le, f16l0, g1, g3, g4, g5, hN, c, w6, w6', w7, mnmxL, mnmx2, d, bound, a0, a1, b0, n0, n1, n2, n3, n5, tm, tk, ln, rl, rm, rm2, al, view1]
        refine done _ ?_ ?_ ?_ ?_ <;> rfl
      · have n1 : I2.toNat = m := by omega
        have n2 : I ≤ (m : Int) := by omega
        have n3 : I2 ≤ N := by omega
        have n5 : i ≤ m := by omega
        simp [-List.getD_eq_getElem?_getD, -List.map_map, evBody, evCode, evOps, evOper, evOp, opd, Env.get, Env.put, Env.keep, zipEnv, V.ok, V.sto, binD, binInt, binStr, shInt, unD, eqOf, asI, leave, resOf, mapO, fzV, tupOf, view, view1, isData, hand, flatV, flatD, allD, mkAgg, mkVal, beq_lit, IntKind.bits, okIn, lowIn, lowIn1, lowT, fzC_d, ap0, ap_get, ap_get0, ap_set, ap_set0, ap_len, ap_take, ap_takeN, ap_nlt, ap_nlt0, ap_blt, ap_blt0, ap_bltR, ap_blt00, ap_ble, ap_ble0, ap_bleN, ap_bleR, rowOf, hload, hstore, hget, hset, reCell, src, allD_d', allD_app, ap_fzC, hand1, frzE, List.singleton_append, List.nil_append, List.cons_append, ap_ap, vc_agg, vc_dagg, va_agg, va_dagg, dc_agg, vc_str, va_str, dc_str, vc_int, va_int, dc_int, vc_bool, va_bool, dc_bool, vc_vals, va_vals, dc_vals, vc_nilp, va_nilp, dc_nilp, vc_rptr, va_rptr, dc_rptr, vc_fnd, va_fnd, dc_fnd, vc_nilfn, va_nilfn, dc_nilfn, vc_iface, va_iface, dc_iface, vc_niface, va_niface, dc_niface, vc_mval, va_mval, dc_mval, vc_slc, va_slc, vc_ptr, va_ptr, vc_fnv, va_fnv, vc_mref, va_mref, vc_nils, va_nils, vc_und, va_und, scD_cells, scD_vcells, scD_agg, scD_fold, prD_cells, prD_vcells, prD_agg, prD_fold, enD_cells, enD_vcells, enD_agg, enD_fold, baD_cells, baD_vcells, baD_agg, baD_fold, htake_self, gives_some, Round, Fin2, step_normal, step_exit, step_ret, fzC_ap, fzC_ap0, mapO_fz_app, mapO_d, fz_d, List.take_of_length_le, f16l0, g1, g3, g4, g5, hN, c, w6, w6', w7, mnmxL, mnmx2, d, bound, a0, a1, b0, n0, n1, n2, n3, n5, tm, tk, ln, rl, rm, rm2, al, view1]
        refine done _ ?_ ?_ ?_ ?_ <;> rfl
  · have c : ¬ (i : Int) < (en.list.length : Int) := by omega
    have e0 : chunks w en.key en.list f i = [] := by cases f <;> simp [chunks, c']
    rw [e0, List.append_nil] at h3
    subst h3
    unfold QO
    simp [-List.getD_eq_getElem?_getD, -List.map_map, evBody, evCode, evOps, evOper, evOp, opd, Env.get, Env.put, Env.keep, zipEnv, V.ok, V.sto, binD, binInt, binStr, shInt, unD, eqOf, asI, leave, resOf, mapO, fzV, tupOf, view, view1, isData, hand, flatV, flatD, allD, mkAgg, mkVal, beq_lit, IntKind.bits, okIn, lowIn, lowIn1, lowT, fzC_d, ap0, ap_get, ap_get0, ap_set, ap_set0, ap_len, ap_take, ap_takeN, ap_nlt, ap_nlt0, ap_blt, ap_blt0, ap_bltR, ap_blt00, ap_ble, ap_ble0, ap_bleN, ap_bleR, rowOf, hload, hstore, hget, hset, reCell, src, allD_d', allD_app, ap_fzC, hand1, frzE, List.singleton_append, List.nil_append, List.cons_append, ap_ap, vc_agg, vc_dagg, va_agg, va_dagg, dc_agg, vc_str, va_str, dc_str, vc_int, va_int, dc_int, vc_bool, va_bool, dc_bool, vc_vals, va_vals, dc_vals, vc_nilp, va_nilp, dc_nilp, vc_rptr, va_rptr, dc_rptr, vc_fnd, va_fnd, dc_fnd, vc_nilfn, va_nilfn, dc_nilfn, vc_iface, va_iface, dc_iface, vc_niface, va_niface, dc_niface, vc_mval, va_mval, dc_mval, vc_slc, va_slc, vc_ptr, va_ptr, vc_fnv, va_fnv, vc_mref, va_mref, vc_nils, va_nils, vc_und, va_und, scD_cells, scD_vcells, scD_agg, scD_fold, prD_cells, prD_vcells, prD_agg, prD_fold, enD_cells, enD_vcells, enD_agg, enD_fold, baD_cells, baD_vcells, baD_agg, baD_fold, htake_self, gives_some, Round, Fin2, step_normal, step_exit, step_ret, fzC_ap, fzC_ap0, mapO_fz_app, mapO_d, fz_d, List.take_of_length_le, f16l0, g1, g3, g4, g5, c, c']
    exact ⟨rfl, g, rfl, rfl, rfl⟩
theorem lO1 (H : Hp) (en : En) (hx : en.scores.length ≤ 100) (hs : ∀ i, i < en.scores.length → -1000000000 ≤ (en.scores.getD i ([], 0)).2 ∧ (en.scores.getD i ([], 0)).2 ≤ 1000000000) : Gives (QO H en 3 (en.scores.map (zadd en.key))) (evLoop (evCode (ev R) R.glob (hlen H) evLoop f16l1) [1, 3, 64, 65, 66] ⟨[(1, .ptr (hlen H) 0 0 0), (3, .slc (hlen H + 1) 0 0 0), (64, .d (scs en.scores)), (65, .d (.int .i64 en.scores.length)), (66, .d (.int .i64 0))], ap H [.row 0 7 [.d (enD en)], rowG 0 []]⟩) := by
  refine loop_keep (F := evCode (ev R) R.glob (hlen H) evLoop f16l1) (lv := [1, 3, 64, 65, 66]) en.scores.length
    (fun i e X => X = ap H [.row 0 7 [.d (enD en)], .row i 1 ((textss ((en.scores.take i).map (zadd en.key))).map V.d)] ∧ e.get 1 = .ptr (hlen H) 0 0 0 ∧ e.get 3 = .slc (hlen H + 1) i 0 i ∧ e.get 64 = .d (scs en.scores) ∧ e.get 65 = .d (.int .i64 en.scores.length) ∧ e.get 66 = .d (.int .i64 i)) _ ?_ ?_
    en.scores.length 0 _ _ (by omega) ⟨rfl, rfl, rfl, rfl, rfl, rfl⟩
  · rintro e X ⟨rfl, g1, g3, ga, gb, gc⟩
    unfold QO
    simp [-List.getD_eq_getElem?_getD, -List.map_map, evBody, evCode, evOps, evOper, evOp, opd, Env.get, Env.put, Env.keep, zipEnv, V.ok, V.sto, binD, binInt, binStr, shInt, unD, eqOf, asI, leave, resOf, mapO, fzV, tupOf, view, view1, isData, hand, flatV, flatD, allD, mkAgg, mkVal, beq_lit, IntKind.bits, okIn, lowIn, lowIn1, lowT, fzC_d, ap0, ap_get, ap_get0, ap_set, ap_set0, ap_len, ap_take, ap_takeN, ap_nlt, ap_nlt0, ap_blt, ap_blt0, ap_bltR, ap_blt00, ap_ble, ap_ble0, ap_bleN, ap_bleR, rowOf, hload, hstore, hget, hset, reCell, src, allD_d', allD_app, ap_fzC, hand1, frzE, List.singleton_append, List.nil_append, List.cons_append, ap_ap, vc_agg, vc_dagg, va_agg, va_dagg, dc_agg, vc_str, va_str, dc_str, vc_int, va_int, dc_int, vc_bool, va_bool, dc_bool, vc_vals, va_vals, dc_vals, vc_nilp, va_nilp, dc_nilp, vc_rptr, va_rptr, dc_rptr, vc_fnd, va_fnd, dc_fnd, vc_nilfn, va_nilfn, dc_nilfn, vc_iface, va_iface, dc_iface, vc_niface, va_niface, dc_niface, vc_mval, va_mval, dc_mval, vc_slc, va_slc, vc_ptr, va_ptr, vc_fnv, va_fnv, vc_mref, va_mref, vc_nils, va_nils, vc_und, va_und, scD_cells, scD_vcells, scD_agg, scD_fold, prD_cells, prD_vcells, prD_agg, prD_fold, enD_cells, enD_vcells, enD_agg, enD_fold, baD_cells, baD_vcells, baD_agg, baD_fold, htake_self, gives_some, Round, Fin2, step_normal, step_exit, step_ret, fzC_ap, fzC_ap0, mapO_fz_app, mapO_d, fz_d, List.take_of_length_le, f16l1, g1, g3, ga, gb, gc]
    exact rfl
  · rintro i e X hi ⟨rfl, g1, g3, ga, gb, gc⟩
    have c : (i : Int) < (en.scores.length : Int) := by omega
    have w1 : IntKind.i64.wrap ((i : Int) + 1) = ((i + 1 : Nat) : Int) := by rw [IntWalk.i64_in _ (by omega)]; rfl
    have g := scs_get' en.scores i hi
    have ht : en.scores.take (i + 1) = en.scores.take i ++ [en.scores.getD i ([], 0)] := by
      rw [List.take_add_one]
      simp [List.getD_eq_getElem?_getD, hi]
    have al : (textss ((en.scores.take i).map (zadd en.key))).map V.d ++ [.d (.vals 1 [D.str [90, 65, 68, 68], D.str en.key, D.str (decZ (en.scores.getD i ([], 0)).2), D.str (en.scores.getD i ([], 0)).1])] = _ := rowG_add (i + 1) ((en.scores.take i).map (zadd en.key)) (zadd en.key (en.scores.getD i ([], 0)))
    have ml : (textss ((en.scores.take (i + 1)).map (zadd en.key))) = textss ((en.scores.take i).map (zadd en.key) ++ [zadd en.key (en.scores.getD i ([], 0))]) := by rw [ht, List.map_append]; rfl
    have rl : ((textss ((en.scores.take i).map (zadd en.key))).map V.d).length = i := by rw [List.length_map, textss_len, List.length_map, List.length_take]; omega
    rw [ml, ← al]
    have rm : (i + 1) * 24 ≤ room := by unfold room; omega
    have p := pureCall_eq (cl := ev R) fun H => e_28 H (en.scores.getD i ([], 0)).2 (hs i hi)
    generalize (textss ((en.scores.take i).map (zadd en.key))).map V.d = RL at *
    generalize en.scores.getD i ([], 0) = x at *
    simp [-List.getD_eq_getElem?_getD, -List.map_map, evBody, evCode, evOps, evOper, evOp, opd, Env.get, Env.put, Env.keep, zipEnv, V.ok, V.sto, binD, binInt, binStr, shInt, unD, eqOf, asI, leave, resOf, mapO, fzV, tupOf, view, view1, isData, hand, flatV, flatD, allD, mkAgg, mkVal, beq_lit, IntKind.bits, okIn, lowIn, lowIn1, lowT, fzC_d, ap0, ap_get, ap_get0, ap_set, ap_set0, ap_len, ap_take, ap_takeN, ap_nlt, ap_nlt0, ap_blt, ap_blt0, ap_bltR, ap_blt00, ap_ble, ap_ble0, ap_bleN, ap_bleR, rowOf, hload, hstore, hget, hset, reCell, src, allD_d', allD_app, ap_fzC, hand1, frzE, List.singleton_append, List.nil_append, List.cons_append, ap_ap, vc_agg, vc_dagg, va_agg, va_dagg, dc_agg, vc_str, va_str, dc_str, vc_int, va_int, dc_int, vc_bool, va_bool, dc_bool, vc_vals, va_vals, dc_vals, vc_nilp, va_nilp, dc_nilp, vc_rptr, va_rptr, dc_rptr, vc_fnd, va_fnd, dc_fnd, vc_nilfn, va_nilfn, dc_nilfn, vc_iface, va_iface, dc_iface, vc_niface, va_niface, dc_niface, vc_mval, va_mval, dc_mval, vc_slc, va_slc, vc_ptr, va_ptr, vc_fnv, va_fnv, vc_mref, va_mref, vc_nils, va_nils, vc_und, va_und, scD_cells, scD_vcells, scD_agg, scD_fold, prD_cells, prD_vcells, prD_agg, prD_fold, enD_cells, enD_vcells, enD_agg, enD_fold, baD_cells, baD_vcells, baD_agg, baD_fold, htake_self, gives_some, Round, Fin2, step_normal, step_exit, step_ret, fzC_ap, fzC_ap0, mapO_fz_app, mapO_d, fz_d, List.take_of_length_le, f16l1, g1, g3, ga, gb, gc, c, hi, w1, g, rl, rm, p]
theorem lO2 (H : Hp) (en : En) (hx : en.fields.length ≤ 100) : Gives (QO H en 5 (en.fields.map (hsetV en.key))) (evLoop (evCode (ev R) R.glob (hlen H) evLoop f16l2) [1, 3, 85, 86, 87] ⟨[(1, .ptr (hlen H) 0 0 0), (3, .slc (hlen H + 1) 0 0 0), (85, .d (prs en.fields)), (86, .d (.int .i64 en.fields.length)), (87, .d (.int .i64 0))], ap H [.row 0 7 [.d (enD en)], rowG 0 []]⟩) := by
  refine loop_keep (F := evCode (ev R) R.glob (hlen H) evLoop f16l2) (lv := [1, 3, 85, 86, 87]) en.fields.length
    (fun i e X => X = ap H [.row 0 7 [.d (enD en)], .row i 1 ((textss ((en.fields.take i).map (hsetV en.key))).map V.d)] ∧ e.get 1 = .ptr (hlen H) 0 0 0 ∧ e.get 3 = .slc (hlen H + 1) i 0 i ∧ e.get 85 = .d (prs en.fields) ∧ e.get 86 = .d (.int .i64 en.fields.length) ∧ e.get 87 = .d (.int .i64 i)) _ ?_ ?_
    en.fields.length 0 _ _ (by omega) ⟨rfl, rfl, rfl, rfl, rfl, rfl⟩
  · rintro e X ⟨rfl, g1, g3, ga, gb, gc⟩
    unfold QO
    simp [-List.getD_eq_getElem?_getD, -List.map_map, evBody, evCode, evOps, evOper, evOp, opd, Env.get, Env.put, Env.keep, zipEnv, V.ok, V.sto, binD, binInt, binStr, shInt, unD, eqOf, asI, leave, resOf, mapO, fzV, tupOf, view, view1, isData, hand, flatV, flatD, allD, mkAgg, mkVal, beq_lit, IntKind.bits, okIn, lowIn, lowIn1, lowT, fzC_d, ap0, ap_get, ap_get0, ap_set, ap_set0, ap_len, ap_take, ap_takeN, ap_nlt, ap_nlt0, ap_blt, ap_blt0, ap_bltR, ap_blt00, ap_ble, ap_ble0, ap_bleN, ap_bleR, rowOf, hload, hstore, hget, hset, reCell, src, allD_d', allD_app, ap_fzC, hand1, frzE, List.singleton_append, List.nil_append, List.cons_append, ap_ap, vc_agg, vc_dagg, va_agg, va_dagg, dc_agg, vc_str, va_str, dc_str, vc_int, va_int, dc_int, vc_bool, va_bool, dc_bool, vc_vals, va_vals, dc_vals, vc_nilp, va_nilp, dc_nilp, vc_rptr, va_rptr, dc_rptr, vc_fnd, va_fnd, dc_fnd, vc_nilfn, va_nilfn, dc_nilfn, vc_iface, va_iface, dc_iface, vc_niface, va_niface, dc_niface, vc_mval, va_mval, dc_mval, vc_slc, va_slc, vc_ptr, va_ptr, vc_fnv, va_fnv, vc_mref, va_mref, vc_nils, va_nils, vc_und, va_und, scD_cells, scD_vcells, scD_agg, scD_fold, prD_cells, prD_vcells, prD_agg, prD_fold, enD_cells, enD_vcells, enD_agg, enD_fold, baD_cells, baD_vcells, baD_agg, baD_fold, htake_self, gives_some, Round, Fin2, step_normal, step_exit, step_ret, fzC_ap, fzC_ap0, mapO_fz_app, mapO_d, fz_d, List.take_of_length_le, f16l2, g1, g3, ga, gb, gc]
    exact rfl
  · rintro i e X hi ⟨rfl, g1, g3, ga, gb, gc⟩
    have c : (i : Int) < (en.fields.length : Int) := by omega
    have w1 : IntKind.i64.wrap ((i : Int) + 1) = ((i + 1 : Nat) : Int) := by rw [IntWalk.i64_in _ (by omega)]; rfl
    have g := prs_get' en.fields i hi
    have ht : en.fields.take (i + 1) = en.fields.take i ++ [en.fields.getD i ([], [])] := by
      rw [List.take_add_one]
      simp [List.getD_eq_getElem?_getD, hi]
    have al : (textss ((en.fields.take i).map (hsetV en.key))).map V.d ++ [.d (.vals 1 [D.str [72, 83, 69, 84], D.str en.key, D.str (en.fields.getD i ([], [])).1, D.str (en.fields.getD i ([], [])).2])] = _ := rowG_add (i + 1) ((en.fields.take i).map (hsetV en.key)) (hsetV en.key (en.fields.getD i ([], [])))
    have ml : (textss ((en.fields.take (i + 1)).map (hsetV en.key))) = textss ((en.fields.take i).map (hsetV en.key) ++ [hsetV en.key (en.fields.getD i ([], []))]) := by rw [ht, List.map_append]; rfl
    have rl : ((textss ((en.fields.take i).map (hsetV en.key))).map V.d).length = i := by rw [List.length_map, textss_len, List.length_map, List.length_take]; omega
    rw [ml, ← al]
    have rm : (i + 1) * 24 ≤ room := by unfold room; omega
    generalize (textss ((en.fields.take i).map (hsetV en.key))).map V.d = RL at *
    generalize en.fields.getD i ([], []) = x at *
    simp [-List.getD_eq_getElem?_getD, -List.map_map, evBody, evCode, evOps, evOper, evOp, opd, Env.get, Env.put, Env.keep, zipEnv, V.ok, V.sto, binD, binInt, binStr, shInt, unD, eqOf, asI, leave, resOf, mapO, fzV, tupOf, view, view1, isData, hand, flatV, flatD, allD, mkAgg, mkVal, beq_lit, IntKind.bits, okIn, lowIn, lowIn1, lowT, fzC_d, ap0, ap_get, ap_get0, ap_set, ap_set0, ap_len, ap_take, ap_takeN, ap_nlt, ap_nlt0, ap_blt, ap_blt0, ap_bltR, ap_blt00, ap_ble, ap_ble0, ap_bleN, ap_bleR, rowOf, hload, hstore, hget, hset, reCell, src, allD_d', allD_app, ap_fzC, hand1, frzE, List.singleton_append, List.nil_append, List.cons_append, ap_ap, vc_agg, vc_dagg, va_agg, va_dagg, dc_agg, vc_str, va_str, dc_str, vc_int, va_int, dc_int, vc_bool, va_bool, dc_bool, vc_vals, va_vals, dc_vals, vc_nilp, va_nilp, dc_nilp, vc_rptr, va_rptr, dc_rptr, vc_fnd, va_fnd, dc_fnd, vc_nilfn, va_nilfn, dc_nilfn, vc_iface, va_iface, dc_iface, vc_niface, va_niface, dc_niface, vc_mval, va_mval, dc_mval, vc_slc, va_slc, vc_ptr, va_ptr, vc_fnv, va_fnv, vc_mref, va_mref, vc_nils, va_nils, vc_und, va_und, scD_cells, scD_vcells, scD_agg, scD_fold, prD_cells, prD_vcells, prD_agg, prD_fold, enD_cells, enD_vcells, enD_agg, enD_fold, baD_cells, baD_vcells, baD_agg, baD_fold, htake_self, gives_some, Round, Fin2, step_normal, step_exit, step_ret, fzC_ap, fzC_ap0, mapO_fz_app, mapO_d, fz_d, List.take_of_length_le, f16l2, g1, g3, ga, gb, gc, c, hi, w1, g, rl, rm]
def expO (e : En) : List Txt := [[69, 88, 80, 73, 82, 69, 65, 84], e.key, decZ e.till]
theorem eO_k1 (H : Hp) (e : En) (hf : EnFit e) (hk : enOk e = true) (hl : e.list.length ≤ 16) (hd : e.kind = 1) : ev R 16 [.d (enD e)] H = some (.d (.vals 1 (textss (makeV e))), H) := by
  refine ev_fn (fn := f16) rfl rfl ?_
  have p0 := pureCall_eq (cl := ev R) fun H => e_26 H e hf
  rw [hk] at p0
  obtain ⟨⟨c1, c2, c3, c4, c5, c6⟩, _⟩ := enOk_cf hk (by omega)
  have p35 := pureCall_eq (cl := ev R) fun H => e_28 H e.till (by omega)
  have tx : ∀ M : List (List Txt), textss (M ++ [expO e]) = textss M ++ [.vals 1 [D.str [69, 88, 80, 73, 82, 69, 65, 84], D.str e.key, D.str (decZ e.till)]] := fun M => by simp [textss, expO]
  have tl := textss_len
  have mk : makeV e = bodyV e ++ (if e.till = 0 then [] else [expO e]) := rfl
  rw [mk]
  have hk1 := eq_true hd
  have hb : bodyV e = [[[83, 69, 84], e.key, e.text]] := by unfold bodyV; rw [if_pos hd]
  rw [hb]
  have rm : (1 : Nat) * 24 ≤ room := by unfold room; omega
  have rm2 : (2 : Nat) * 24 ≤ room := by unfold room; omega
  by_cases ht : e.till = 0
  · rw [if_pos ht]
    have ht := eq_true ht
    simp [-List.getD_eq_getElem?_getD, -List.map_map, evBody, evCode, evOps, evOper, evOp, opd, Env.get, Env.put, Env.keep, zipEnv, V.ok, V.sto, binD, binInt, binStr, shInt, unD, eqOf, asI, leave, resOf, mapO, fzV, tupOf, view, view1, isData, hand, flatV, flatD, allD, mkAgg, mkVal, beq_lit, IntKind.bits, okIn, lowIn, lowIn1, lowT, fzC_d, ap0, ap_get, ap_get0, ap_set, ap_set0, ap_len, ap_take, ap_takeN, ap_nlt, ap_nlt0, ap_blt, ap_blt0, ap_bltR, ap_blt00, ap_ble, ap_ble0, ap_bleN, ap_bleR, rowOf, hload, hstore, hget, hset, reCell, src, allD_d', allD_app, ap_fzC, hand1, frzE, List.singleton_append, List.nil_append, List.cons_append, ap_ap, vc_agg, vc_dagg, va_agg, va_dagg, dc_agg, vc_str, va_str, dc_str, vc_int, va_int, dc_int, vc_bool, va_bool, dc_bool, vc_vals, va_vals, dc_vals, vc_nilp, va_nilp, dc_nilp, vc_rptr, va_rptr, dc_rptr, vc_fnd, va_fnd, dc_fnd, vc_nilfn, va_nilfn, dc_nilfn, vc_iface, va_iface, dc_iface, vc_niface, va_niface, dc_niface, vc_mval, va_mval, dc_mval, vc_slc, va_slc, vc_ptr, va_ptr, vc_fnv, va_fnv, vc_mref, va_mref, vc_nils, va_nils, vc_und, va_und, scD_cells, scD_vcells, scD_agg, scD_fold, prD_cells, prD_vcells, prD_agg, prD_fold, enD_cells, enD_vcells, enD_agg, enD_fold, baD_cells, baD_vcells, baD_agg, baD_fold, htake_self, gives_some, Round, Fin2, step_normal, step_exit, step_ret, fzC_ap, fzC_ap0, mapO_fz_app, mapO_d, fz_d, List.take_of_length_le, f16, p0, hk1, ht, rm, textss]
  · rw [if_neg ht, tx]
    simp [-List.getD_eq_getElem?_getD, -List.map_map, evBody, evCode, evOps, evOper, evOp, opd, Env.get, Env.put, Env.keep, zipEnv, V.ok, V.sto, binD, binInt, binStr, shInt, unD, eqOf, asI, leave, resOf, mapO, fzV, tupOf, view, view1, isData, hand, flatV, flatD, allD, mkAgg, mkVal, beq_lit, IntKind.bits, okIn, lowIn, lowIn1, lowT, fzC_d, ap0, ap_get, ap_get0, ap_set, ap_set0, ap_len, ap_take, ap_takeN, ap_nlt, ap_nlt0, ap_blt, ap_blt0, ap_bltR, ap_blt00, ap_ble, ap_ble0, ap_bleN, ap_bleR, rowOf, hload, hstore, hget, hset, reCell, src, allD_d', allD_app, ap_fzC, hand1, frzE, List.singleton_append, List.nil_append, List.cons_append, ap_ap, vc_agg, vc_dagg, va_agg, va_dagg, dc_agg, vc_str, va_str, dc_str, vc_int, va_int, dc_int, vc_bool, va_bool, dc_bool, vc_vals, va_vals, dc_vals, vc_nilp, va_nilp, dc_nilp, vc_rptr, va_rptr, dc_rptr, vc_fnd, va_fnd, dc_fnd, vc_nilfn, va_nilfn, dc_nilfn, vc_iface, va_iface, dc_iface, vc_niface, va_niface, dc_niface, vc_mval, va_mval, dc_mval, vc_slc, va_slc, vc_ptr, va_ptr, vc_fnv, va_fnv, vc_mref, va_mref, vc_nils, va_nils, vc_und, va_und, scD_cells, scD_vcells, scD_agg, scD_fold, prD_cells, prD_vcells, prD_agg, prD_fold, enD_cells, enD_vcells, enD_agg, enD_fold, baD_cells, baD_vcells, baD_agg, baD_fold, htake_self, gives_some, Round, Fin2, step_normal, step_exit, step_ret, fzC_ap, fzC_ap0, mapO_fz_app, mapO_d, fz_d, List.take_of_length_le, f16, p0, hk1, ht, rm, rm2, p35, textss]
theorem eO_k2 (H : Hp) (e : En) (hf : EnFit e) (hk : enOk e = true) (hl : e.list.length ≤ 16) (hd : e.kind = 2) : ev R 16 [.d (enD e)] H = some (.d (.vals 1 (textss (makeV e))), H) := by
  refine ev_fn (fn := f16) rfl rfl ?_
  have p0 := pureCall_eq (cl := ev R) fun H => e_26 H e hf
  rw [hk] at p0
  obtain ⟨⟨c1, c2, c3, c4, c5, c6⟩, _⟩ := enOk_cf hk (by omega)
  have p35 := pureCall_eq (cl := ev R) fun H => e_28 H e.till (by omega)
  have tx : ∀ M : List (List Txt), textss (M ++ [expO e]) = textss M ++ [.vals 1 [D.str [69, 88, 80, 73, 82, 69, 65, 84], D.str e.key, D.str (decZ e.till)]] := fun M => by simp [textss, expO]
  have tl := textss_len
  have mk : makeV e = bodyV e ++ (if e.till = 0 then [] else [expO e]) := rfl
  rw [mk]
  have hk1 := eq_true hd
  have nk1 : ¬ e.kind = 1 := by omega
  have hb : bodyV e = chunks [82, 80, 85, 83, 72] e.key e.list e.list.length 0 := by unfold bodyV; rw [if_neg nk1, if_pos hd]; rfl
  have ml := chunks_len [82, 80, 85, 83, 72] e.key e.list e.list.length 0
  obtain ⟨o, e1, X1, he, rfl, g, rfl, g1, g3⟩ := (lO0 H e [82, 80, 85, 83, 72] (by omega) (chunks [82, 80, 85, 83, 72] e.key e.list e.list.length 0) (by omega) e.list.length [(1, .ptr (hlen H) 0 0 0), (3, .slc (hlen H + 1) 0 0 0), (4, .d (.str [82, 80, 85, 83, 72])), (5, .d (.int .i64 0))] _ ⟨0, 0, [], by omega, by omega, rfl, rfl, rfl, rfl, rfl, rfl⟩).out
  have nk3 : ¬ e.kind = 3 := by omega
  rw [hb]
  have ml : (chunks [82, 80, 85, 83, 72] e.key e.list e.list.length 0).length ≤ 16 := by omega
  generalize chunks [82, 80, 85, 83, 72] e.key e.list e.list.length 0 = M at *
  unfold rowG at he
  have t0 : textss [] = [] := rfl
  simp only [t0, List.map_nil] at he
  have rm : (M.length + 1) * 24 ≤ room := by unfold room; omega
  by_cases ht : e.till = 0
  · rw [if_pos ht, List.append_nil]
    have ht := eq_true ht
    simp [-List.getD_eq_getElem?_getD, -List.map_map, evBody, evCode, evOps, evOper, evOp, opd, Env.get, Env.put, Env.keep, zipEnv, V.ok, V.sto, binD, binInt, binStr, shInt, unD, eqOf, asI, leave, resOf, mapO, fzV, tupOf, view, view1, isData, hand, flatV, flatD, allD, mkAgg, mkVal, beq_lit, IntKind.bits, okIn, lowIn, lowIn1, lowT, fzC_d, ap0, ap_get, ap_get0, ap_set, ap_set0, ap_len, ap_take, ap_takeN, ap_nlt, ap_nlt0, ap_blt, ap_blt0, ap_bltR, ap_blt00, ap_ble, ap_ble0, ap_bleN, ap_bleR, rowOf, hload, hstore, hget, hset, reCell, src, allD_d', allD_app, ap_fzC, hand1, frzE, List.singleton_append, List.nil_append, List.cons_append, ap_ap, vc_agg, vc_dagg, va_agg, va_dagg, dc_agg, vc_str, va_str, dc_str, vc_int, va_int, dc_int, vc_bool, va_bool, dc_bool, vc_vals, va_vals, dc_vals, vc_nilp, va_nilp, dc_nilp, vc_rptr, va_rptr, dc_rptr, vc_fnd, va_fnd, dc_fnd, vc_nilfn, va_nilfn, dc_nilfn, vc_iface, va_iface, dc_iface, vc_niface, va_niface, dc_niface, vc_mval, va_mval, dc_mval, vc_slc, va_slc, vc_ptr, va_ptr, vc_fnv, va_fnv, vc_mref, va_mref, vc_nils, va_nils, vc_und, va_und, scD_cells, scD_vcells, scD_agg, scD_fold, prD_cells, prD_vcells, prD_agg, prD_fold, enD_cells, enD_vcells, enD_agg, enD_fold, baD_cells, baD_vcells, baD_agg, baD_fold, htake_self, gives_some, Round, Fin2, step_normal, step_exit, step_ret, fzC_ap, fzC_ap0, mapO_fz_app, mapO_d, fz_d, List.take_of_length_le, f16, p0, hk1, nk1, nk3, he, g1, g3, ht, tl]
  · rw [if_neg ht, tx]
    simp [-List.getD_eq_getElem?_getD, -List.map_map, evBody, evCode, evOps, evOper, evOp, opd, Env.get, Env.put, Env.keep, zipEnv, V.ok, V.sto, binD, binInt, binStr, shInt, unD, eqOf, asI, leave, resOf, mapO, fzV, tupOf, view, view1, isData, hand, flatV, flatD, allD, mkAgg, mkVal, beq_lit, IntKind.bits, okIn, lowIn, lowIn1, lowT, fzC_d, ap0, ap_get, ap_get0, ap_set, ap_set0, ap_len, ap_take, ap_takeN, ap_nlt, ap_nlt0, ap_blt, ap_blt0, ap_bltR, ap_blt00, ap_ble, ap_ble0, ap_bleN, ap_bleR, rowOf, hload, hstore, hget, hset, reCell, src, allD_d', allD_app, ap_fzC, hand1, frzE, List.singleton_append, List.nil_append, List.cons_append, ap_ap, vc_agg, vc_dagg, va_agg, va_dagg, dc_agg, vc_str, va_str, dc_str, vc_int, va_int, dc_int, vc_bool, va_bool, dc_bool, vc_vals, va_vals, dc_vals, vc_nilp, va_nilp, dc_nilp, vc_rptr, va_rptr, dc_rptr, vc_fnd, va_fnd, dc_fnd, vc_nilfn, va_nilfn, dc_nilfn, vc_iface, va_iface, dc_iface, vc_niface, va_niface, dc_niface, vc_mval, va_mval, dc_mval, vc_slc, va_slc, vc_ptr, va_ptr, vc_fnv, va_fnv, vc_mref, va_mref, vc_nils, va_nils, vc_und, va_und, scD_cells, scD_vcells, scD_agg, scD_fold, prD_cells, prD_vcells, prD_agg, prD_fold, enD_cells, enD_vcells, enD_agg, enD_fold, baD_cells, baD_vcells, baD_agg, baD_fold, htake_self, gives_some, Round, Fin2, step_normal, step_exit, step_ret, fzC_ap, fzC_ap0, mapO_fz_app, mapO_d, fz_d, List.take_of_length_le, f16, p0, hk1, nk1, nk3, he, g1, g3, ht, tl, rm, p35]
theorem eO_k3 (H : Hp) (e : En) (hf : EnFit e) (hk : enOk e = true) (hl : e.list.length ≤ 16) (hd : e.kind = 3) : ev R 16 [.d (enD e)] H = some (.d (.vals 1 (textss (makeV e))), H) := by
  refine ev_fn (fn := f16) rfl rfl ?_
  have p0 := pureCall_eq (cl := ev R) fun H => e_26 H e hf
  rw [hk] at p0
  obtain ⟨⟨c1, c2, c3, c4, c5, c6⟩, _⟩ := enOk_cf hk (by omega)
  have p35 := pureCall_eq (cl := ev R) fun H => e_28 H e.till (by omega)
  have tx : ∀ M : List (List Txt), textss (M ++ [expO e]) = textss M ++ [.vals 1 [D.str [69, 88, 80, 73, 82, 69, 65, 84], D.str e.key, D.str (decZ e.till)]] := fun M => by simp [textss, expO]
  have tl := textss_len
  have mk : makeV e = bodyV e ++ (if e.till = 0 then [] else [expO e]) := rfl
  rw [mk]
  have hk1 := eq_true hd
  have nk1 : ¬ e.kind = 1 := by omega
  have nk2 : ¬ e.kind = 2 := by omega
  have hb : bodyV e = chunks [83, 65, 68, 68] e.key e.list e.list.length 0 := by unfold bodyV; rw [if_neg nk1, if_neg nk2, if_pos hd]; rfl
  have ml := chunks_len [83, 65, 68, 68] e.key e.list e.list.length 0
  obtain ⟨o, e1, X1, he, rfl, g, rfl, g1, g3⟩ := (lO0 H e [83, 65, 68, 68] (by omega) (chunks [83, 65, 68, 68] e.key e.list e.list.length 0) (by omega) e.list.length [(1, .ptr (hlen H) 0 0 0), (3, .slc (hlen H + 1) 0 0 0), (4, .d (.str [83, 65, 68, 68])), (5, .d (.int .i64 0))] _ ⟨0, 0, [], by omega, by omega, rfl, rfl, rfl, rfl, rfl, rfl⟩).out
  rw [hb]
  have ml : (chunks [83, 65, 68, 68] e.key e.list e.list.length 0).length ≤ 16 := by omega
  generalize chunks [83, 65, 68, 68] e.key e.list e.list.length 0 = M at *
  unfold rowG at he
  have t0 : textss [] = [] := rfl
  simp only [t0, List.map_nil] at he
  have rm : (M.length + 1) * 24 ≤ room := by unfold room; omega
  by_cases ht : e.till = 0
  · rw [if_pos ht, List.append_nil]
    have ht := eq_true ht
    simp [-List.getD_eq_getElem?_getD, -List.map_map, evBody, evCode, evOps, evOper, evOp, opd, Env.get, Env.put, Env.keep, zipEnv, V.ok, V.sto, binD, binInt, binStr, shInt, unD, eqOf, asI, leave, resOf, mapO, fzV, tupOf, view, view1, isData, hand, flatV, flatD, allD, mkAgg, mkVal, beq_lit, IntKind.bits, okIn, lowIn, lowIn1, lowT, fzC_d, ap0, ap_get, ap_get0, ap_set, ap_set0, ap_len, ap_take, ap_takeN, ap_nlt, ap_nlt0, ap_blt, ap_blt0, ap_bltR, ap_blt00, ap_ble, ap_ble0, ap_bleN, ap_bleR, rowOf, hload, hstore, hget, hset, reCell, src, allD_d', allD_app, ap_fzC, hand1, frzE, List.singleton_append, List.nil_append, List.cons_append, ap_ap, vc_agg, vc_dagg, va_agg, va_dagg, dc_agg, vc_str, va_str, dc_str, vc_int, va_int, dc_int, vc_bool, va_bool, dc_bool, vc_vals, va_vals, dc_vals, vc_nilp, va_nilp, dc_nilp, vc_rptr, va_rptr, dc_rptr, vc_fnd, va_fnd, dc_fnd, vc_nilfn, va_nilfn, dc_nilfn, vc_iface, va_iface, dc_iface, vc_niface, va_niface, dc_niface, vc_mval, va_mval, dc_mval, vc_slc, va_slc, vc_ptr, va_ptr, vc_fnv, va_fnv, vc_mref, va_mref, vc_nils, va_nils, vc_und, va_und, scD_cells, scD_vcells, scD_agg, scD_fold, prD_cells, prD_vcells, prD_agg, prD_fold, enD_cells, enD_vcells, enD_agg, enD_fold, baD_cells, baD_vcells, baD_agg, baD_fold, htake_self, gives_some, Round, Fin2, step_normal, step_exit, step_ret, fzC_ap, fzC_ap0, mapO_fz_app, mapO_d, fz_d, List.take_of_length_le, f16, p0, hk1, nk1, nk2, he, g1, g3, ht, tl]
  · rw [if_neg ht, tx]
    simp [-List.getD_eq_getElem?_getD, -List.map_map, evBody, evCode, evOps, evOper, evOp, opd, Env.get, Env.put, Env.keep, zipEnv, V.ok, V.sto, binD, binInt, binStr, shInt, unD, eqOf, asI, leave, resOf, mapO, fzV, tupOf, view, view1, isData, hand, flatV, flatD, allD, mkAgg, mkVal, beq_lit, IntKind.bits, okIn, lowIn, lowIn1, lowT, fzC_d, ap0, ap_get, ap_get0, ap_set, ap_set0, ap_len, ap_take, ap_takeN, ap_nlt, ap_nlt0, ap_blt, ap_blt0, ap_bltR, ap_blt00, ap_ble, ap_ble0, ap_bleN, ap_bleR, rowOf, hload, hstore, hget, hset, reCell, src, allD_d', allD_app, ap_fzC, hand1, frzE, List.singleton_append, List.nil_append, List.cons_append, ap_ap, vc_agg, vc_dagg, va_agg, va_dagg, dc_agg, vc_str, va_str, dc_str, vc_int, va_int, dc_int, vc_bool, va_bool, dc_bool, vc_vals, va_vals, dc_vals, vc_nilp, va_nilp, dc_nilp, vc_rptr, va_rptr, dc_rptr, vc_fnd, va_fnd, dc_fnd, vc_nilfn, va_nilfn, dc_nilfn, vc_iface, va_iface, dc_iface, vc_niface, va_niface, dc_niface, vc_mval, va_mval, dc_mval, vc_slc, va_slc, vc_ptr, va_ptr, vc_fnv, va_fnv, vc_mref, va_mref, vc_nils, va_nils, vc_und, va_und, scD_cells, scD_vcells, scD_agg, scD_fold, prD_cells, prD_vcells, prD_agg, prD_fold, enD_cells, enD_vcells, enD_agg, enD_fold, baD_cells, baD_vcells, baD_agg, baD_fold, htake_self, gives_some, Round, Fin2, step_normal, step_exit, step_ret, fzC_ap, fzC_ap0, mapO_fz_app, mapO_d, fz_d, List.take_of_length_le, f16, p0, hk1, nk1, nk2, he, g1, g3, ht, tl, rm, p35]
theorem eO_k4 (H : Hp) (e : En) (hf : EnFit e) (hk : enOk e = true) (hl : e.list.length ≤ 16) (hd : e.kind = 4) : ev R 16 [.d (enD e)] H = some (.d (.vals 1 (textss (makeV e))), H) := by
  refine ev_fn (fn := f16) rfl rfl ?_
  have p0 := pureCall_eq (cl := ev R) fun H => e_26 H e hf
  rw [hk] at p0
  obtain ⟨⟨c1, c2, c3, c4, c5, c6⟩, _⟩ := enOk_cf hk (by omega)
  have p35 := pureCall_eq (cl := ev R) fun H => e_28 H e.till (by omega)
  have tx : ∀ M : List (List Txt), textss (M ++ [expO e]) = textss M ++ [.vals 1 [D.str [69, 88, 80, 73, 82, 69, 65, 84], D.str e.key, D.str (decZ e.till)]] := fun M => by simp [textss, expO]
  have tl := textss_len
  have mk : makeV e = bodyV e ++ (if e.till = 0 then [] else [expO e]) := rfl
  rw [mk]
  have hk1 := eq_true hd
  have nk1 : ¬ e.kind = 1 := by omega
  have nk2 : ¬ e.kind = 2 := by omega
  have nk3 : ¬ e.kind = 3 := by omega
  have hb : bodyV e = e.scores.map (zadd e.key) := by unfold bodyV; rw [if_neg nk1, if_neg nk2, if_neg nk3, if_pos hd]
  have ml : (e.scores.map (zadd e.key)).length ≤ 16 := by rw [List.length_map]; exact c1
  obtain ⟨o, e1, X1, he, rfl, g, rfl, g1, g3⟩ := (lO1 H e (by omega) c2).out
  rw [hb]
  have ml : (e.scores.map (zadd e.key)).length ≤ 16 := by omega
  generalize e.scores.map (zadd e.key) = M at *
  unfold rowG at he
  have t0 : textss [] = [] := rfl
  simp only [t0, List.map_nil] at he
  have rm : (M.length + 1) * 24 ≤ room := by unfold room; omega
  by_cases ht : e.till = 0
  · rw [if_pos ht, List.append_nil]
    have ht := eq_true ht
    simp [-List.getD_eq_getElem?_getD, -List.map_map, evBody, evCode, evOps, evOper, evOp, opd, Env.get, Env.put, Env.keep, zipEnv, V.ok, V.sto, binD, binInt, binStr, shInt, unD, eqOf, asI, leave, resOf, mapO, fzV, tupOf, view, view1, isData, hand, flatV, flatD, allD, mkAgg, mkVal, beq_lit, IntKind.bits, okIn, lowIn, lowIn1, lowT, fzC_d, ap0, ap_get, ap_get0, ap_set, ap_set0, ap_len, ap_take, ap_takeN, ap_nlt, ap_nlt0, ap_blt, ap_blt0, ap_bltR, ap_blt00, ap_ble, ap_ble0, ap_bleN, ap_bleR, rowOf, hload, hstore, hget, hset, reCell, src, allD_d', allD_app, ap_fzC, hand1, frzE, List.singleton_append, List.nil_append, List.cons_append, ap_ap, vc_agg, vc_dagg, va_agg, va_dagg, dc_agg, vc_str, va_str, dc_str, vc_int, va_int, dc_int, vc_bool, va_bool, dc_bool, vc_vals, va_vals, dc_vals, vc_nilp, va_nilp, dc_nilp, vc_rptr, va_rptr, dc_rptr, vc_fnd, va_fnd, dc_fnd, vc_nilfn, va_nilfn, dc_nilfn, vc_iface, va_iface, dc_iface, vc_niface, va_niface, dc_niface, vc_mval, va_mval, dc_mval, vc_slc, va_slc, vc_ptr, va_ptr, vc_fnv, va_fnv, vc_mref, va_mref, vc_nils, va_nils, vc_und, va_und, scD_cells, scD_vcells, scD_agg, scD_fold, prD_cells, prD_vcells, prD_agg, prD_fold, enD_cells, enD_vcells, enD_agg, enD_fold, baD_cells, baD_vcells, baD_agg, baD_fold, htake_self, gives_some, Round, Fin2, step_normal, step_exit, step_ret, fzC_ap, fzC_ap0, mapO_fz_app, mapO_d, fz_d, List.take_of_length_le, f16, p0, hk1, nk1, nk2, nk3, he, g1, g3, ht, tl]
  · rw [if_neg ht, tx]
    simp [-List.getD_eq_getElem?_getD, -List.map_map, evBody, evCode, evOps, evOper, evOp, opd, Env.get, Env.put, Env.keep, zipEnv, V.ok, V.sto, binD, binInt, binStr, shInt, unD, eqOf, asI, leave, resOf, mapO, fzV, tupOf, view, view1, isData, hand, flatV, flatD, allD, mkAgg, mkVal, beq_lit, IntKind.bits, okIn, lowIn, lowIn1, lowT, fzC_d, ap0, ap_get, ap_get0, ap_set, ap_set0, ap_len, ap_take, ap_takeN, ap_nlt, ap_nlt0, ap_blt, ap_blt0, ap_bltR, ap_blt00, ap_ble, ap_ble0, ap_bleN, ap_bleR, rowOf, hload, hstore, hget, hset, reCell, src, allD_d', allD_app, ap_fzC, hand1, frzE, List.singleton_append, List.nil_append, List.cons_append, ap_ap, vc_agg, vc_dagg, va_agg, va_dagg, dc_agg, vc_str, va_str, dc_str, vc_int, va_int, dc_int, vc_bool, va_bool, dc_bool, vc_vals, va_vals, dc_vals, vc_nilp, va_nilp, dc_nilp, vc_rptr, va_rptr, dc_rptr, vc_fnd, va_fnd, dc_fnd, vc_nilfn, va_nilfn, dc_nilfn, vc_iface, va_iface, dc_iface, vc_niface, va_niface, dc_niface, vc_mval, va_mval, dc_mval, vc_slc, va_slc, vc_ptr, va_ptr, vc_fnv, va_fnv, vc_mref, va_mref, vc_nils, va_nils, vc_und, va_und, scD_cells, scD_vcells, scD_agg, scD_fold, prD_cells, prD_vcells, prD_agg, prD_fold, enD_cells, enD_vcells, enD_agg, enD_fold, baD_cells, baD_vcells, baD_agg, baD_fold, htake_self, gives_some, Round, Fin2, step_normal, step_exit, step_ret, fzC_ap, fzC_ap0, mapO_fz_app, mapO_d, fz_d, List.take_of_length_le, f16, p0, hk1, nk1, nk2, nk3, he, g1, g3, ht, tl, rm, p35]
theorem eO_k5 (H : Hp) (e : En) (hf : EnFit e) (hk : enOk e = true) (hl : e.list.length ≤ 16) (hd : e.kind = 5) : ev R 16 [.d (enD e)] H = some (.d (.vals 1 (textss (makeV e))), H) := by
  refine ev_fn (fn := f16) rfl rfl ?_
  have p0 := pureCall_eq (cl := ev R) fun H => e_26 H e hf
  rw [hk] at p0
  obtain ⟨⟨c1, c2, c3, c4, c5, c6⟩, _⟩ := enOk_cf hk (by omega)
  have p35 := pureCall_eq (cl := ev R) fun H => e_28 H e.till (by omega)
  have tx : ∀ M : List (List Txt), textss (M ++ [expO e]) = textss M ++ [.vals 1 [D.str [69, 88, 80, 73, 82, 69, 65, 84], D.str e.key, D.str (decZ e.till)]] := fun M => by simp [textss, expO]
  have tl := textss_len
  have mk : makeV e = bodyV e ++ (if e.till = 0 then [] else [expO e]) := rfl
  rw [mk]
  have hk1 := eq_true hd
  have nk1 : ¬ e.kind = 1 := by omega
  have nk2 : ¬ e.kind = 2 := by omega
  have nk3 : ¬ e.kind = 3 := by omega
  have nk4 : ¬ e.kind = 4 := by omega
  have hb : bodyV e = e.fields.map (hsetV e.key) := by unfold bodyV; rw [if_neg nk1, if_neg nk2, if_neg nk3, if_neg nk4, if_pos hd]
  have ml : (e.fields.map (hsetV e.key)).length ≤ 16 := by rw [List.length_map]; exact c3
  obtain ⟨o, e1, X1, he, rfl, g, rfl, g1, g3⟩ := (lO2 H e (by omega)).out
  rw [hb]
  have ml : (e.fields.map (hsetV e.key)).length ≤ 16 := by omega
  generalize e.fields.map (hsetV e.key) = M at *
  unfold rowG at he
  have t0 : textss [] = [] := rfl
  simp only [t0, List.map_nil] at he
  have rm : (M.length + 1) * 24 ≤ room := by unfold room; omega
  by_cases ht : e.till = 0
  · rw [if_pos ht, List.append_nil]
    have ht := eq_true ht
    simp [-List.getD_eq_getElem?_getD, -List.map_map, evBody, evCode, evOps, evOper, evOp, opd, Env.get, Env.put, Env.keep, zipEnv, V.ok, V.sto, binD, binInt, binStr, shInt, unD, eqOf, asI, leave, resOf, mapO, fzV, tupOf, view, view1, isData, hand, flatV, flatD, allD, mkAgg, mkVal, beq_lit, IntKind.bits, okIn, lowIn, lowIn1, lowT, fzC_d, ap0, ap_get, ap_get0, ap_set, ap_set0, ap_len, ap_take, ap_takeN, ap_nlt, ap_nlt0, ap_blt, ap_blt0, ap_bltR, ap_blt00, ap_ble, ap_ble0, ap_bleN, ap_bleR, rowOf, hload, hstore, hget, hset, reCell, src, allD_d', allD_app, ap_fzC, hand1, frzE, List.singleton_append, List.nil_append, List.cons_append, ap_ap, vc_agg, vc_dagg, va_agg, va_dagg, dc_agg, vc_str, va_str, dc_str, vc_int, va_int, dc_int, vc_bool, va_bool, dc_bool, vc_vals, va_vals, dc_vals, vc_nilp, va_nilp, dc_nilp, vc_rptr, va_rptr, dc_rptr, vc_fnd, va_fnd, dc_fnd, vc_nilfn, va_nilfn, dc_nilfn, vc_iface, va_iface, dc_iface, vc_niface, va_niface, dc_niface, vc_mval, va_mval, dc_mval, vc_slc, va_slc, vc_ptr, va_ptr, vc_fnv, va_fnv, vc_mref, va_mref, vc_nils, va_nils, vc_und, va_und, scD_cells, scD_vcells, scD_agg, scD_fold, prD_cells, prD_vcells, prD_agg, prD_fold, enD_cells, enD_vcells, enD_agg, enD_fold, baD_cells, baD_vcells, baD_agg, baD_fold, htake_self, gives_some, Round, Fin2, step_normal, step_exit, step_ret, fzC_ap, fzC_ap0, mapO_fz_app, mapO_d, fz_d, List.take_of_length_le, f16, p0, hk1, nk1, nk2, nk3, nk4, he, g1, g3, ht, tl]
  · rw [if_neg ht, tx]
    simp [-List.getD_eq_getElem?_getD, -List.map_map, evBody, evCode, evOps, evOper, evOp, opd, Env.get, Env.put, Env.keep, zipEnv, V.ok, V.sto, binD, binInt, binStr, shInt, unD, eqOf, asI, leave, resOf, mapO, fzV, tupOf, view, view1, isData, hand, flatV, flatD, allD, mkAgg, mkVal, beq_lit, IntKind.bits, okIn, lowIn, lowIn1, lowT, fzC_d, ap0, ap_get, ap_get0, ap_set, ap_set0, ap_len, ap_take, ap_takeN, ap_nlt, ap_nlt0, ap_blt, ap_blt0, ap_bltR, ap_blt00, ap_ble, ap_ble0, ap_bleN, ap_bleR, rowOf, hload, hstore, hget, hset, reCell, src, allD_d', allD_app, ap_fzC, hand1, frzE, List.singleton_append, List.nil_append, List.cons_append, ap_ap, vc_agg, vc_dagg, va_agg, va_dagg, dc_agg, vc_str, va_str, dc_str, vc_int, va_int, dc_int, vc_bool, va_bool, dc_bool, vc_vals, va_vals, dc_vals, vc_nilp, va_nilp, dc_nilp, vc_rptr, va_rptr, dc_rptr, vc_fnd, va_fnd, dc_fnd, vc_nilfn, va_nilfn, dc_nilfn, vc_iface, va_iface, dc_iface, vc_niface, va_niface, dc_niface, vc_mval, va_mval, dc_mval, vc_slc, va_slc, vc_ptr, va_ptr, vc_fnv, va_fnv, vc_mref, va_mref, vc_nils, va_nils, vc_und, va_und, scD_cells, scD_vcells, scD_agg, scD_fold, prD_cells, prD_vcells, prD_agg, prD_fold, enD_cells, enD_vcells, enD_agg, enD_fold, baD_cells, baD_vcells, baD_agg, baD_fold, htake_self, gives_some, Round, Fin2, step_normal, step_exit, step_ret, fzC_ap, fzC_ap0, mapO_fz_app, mapO_d, fz_d, List.take_of_length_le, f16, p0, hk1, nk1, nk2, nk3, nk4, he, g1, g3, ht, tl, rm, p35]
theorem enOk_small {e : En} (h : enOk e = true) : e.list.length ≤ 16 ∧ e.scores.length ≤ 16 ∧ e.fields.length ≤ 16 := by
  have em : ∀ {α : Type} {l : List α}, l.isEmpty = true → l.length = 0 := fun {α l} h => by cases l <;> simp_all
  unfold enOk kindV at h
  simp only [Bool.and_eq_true] at h
  have h3 := h.2
  split at h3
  · simp only [Bool.and_eq_true] at h3
    have := em h3.1.1.2; have := em h3.1.2; have := em h3.2
    omega
  · split at h3
    · simp only [Bool.and_eq_true, okTexts, decide_eq_true_eq] at h3
      have := em h3.1.2; have := em h3.2
      have := h3.1.1.2.2
      omega
    · split at h3
      · simp only [Bool.and_eq_true, setV, okTexts, decide_eq_true_eq] at h3
        have := em h3.1.2; have := em h3.2
        have := h3.1.1.2.2.2
        omega
      · split at h3
        · simp only [Bool.and_eq_true, scoresV, decide_eq_true_eq] at h3
          have := em h3.2; have := em h3.1.1.1.2
          have := h3.1.2.2
          omega
        · split at h3
          · simp only [Bool.and_eq_true, fieldsV, decide_eq_true_eq] at h3
            have := em h3.1.1.1.2; have := em h3.1.1.2
            have := h3.2.2
            omega
          · simp at h3
theorem p_16 (e : En) (hf : EnFit e) : pureCall (ev R) 16 [.d (enD e)] = some (.d (.vals 1 (textss (ordersV e)))) := pureCall_eq fun H => by
  unfold ordersV
  by_cases hk : enOk e = true
  · rw [if_pos hk]
    have hl := (enOk_small hk).1
    obtain ⟨_, k | k | k | k | k⟩ := enOk_cf hk (by omega)
    · exact eO_k1 H e hf hk hl k
    · exact eO_k2 H e hf hk hl k
    · exact eO_k3 H e hf hk hl k
    · exact eO_k4 H e hf hk hl k
    · exact eO_k5 H e hf hk hl k
  · rw [if_neg hk]
    refine ev_fn (fn := f16) rfl rfl ?_
    have p0 := pureCall_eq (cl := ev R) fun H => e_26 H e hf
    rw [Bool.not_eq_true] at hk
    rw [hk] at p0
    simp [-List.getD_eq_getElem?_getD, -List.map_map, evBody, evCode, evOps, evOper, evOp, opd, Env.get, Env.put, Env.keep, zipEnv, V.ok, V.sto, binD, binInt, binStr, shInt, unD, eqOf, asI, leave, resOf, mapO, fzV, tupOf, view, view1, isData, hand, flatV, flatD, allD, mkAgg, mkVal, beq_lit, IntKind.bits, okIn, lowIn, lowIn1, lowT, fzC_d, ap0, ap_get, ap_get0, ap_set, ap_set0, ap_len, ap_take, ap_takeN, ap_nlt, ap_nlt0, ap_blt, ap_blt0, ap_bltR, ap_blt00, ap_ble, ap_ble0, ap_bleN, ap_bleR, rowOf, hload, hstore, hget, hset, reCell, src, allD_d', allD_app, ap_fzC, hand1, frzE, List.singleton_append, List.nil_append, List.cons_append, ap_ap, vc_agg, vc_dagg, va_agg, va_dagg, dc_agg, vc_str, va_str, dc_str, vc_int, va_int, dc_int, vc_bool, va_bool, dc_bool, vc_vals, va_vals, dc_vals, vc_nilp, va_nilp, dc_nilp, vc_rptr, va_rptr, dc_rptr, vc_fnd, va_fnd, dc_fnd, vc_nilfn, va_nilfn, dc_nilfn, vc_iface, va_iface, dc_iface, vc_niface, va_niface, dc_niface, vc_mval, va_mval, dc_mval, vc_slc, va_slc, vc_ptr, va_ptr, vc_fnv, va_fnv, vc_mref, va_mref, vc_nils, va_nils, vc_und, va_und, scD_cells, scD_vcells, scD_agg, scD_fold, prD_cells, prD_vcells, prD_agg, prD_fold, enD_cells, enD_vcells, enD_agg, enD_fold, baD_cells, baD_vcells, baD_agg, baD_fold, htake_self, gives_some, Round, Fin2, step_normal, step_exit, step_ret, fzC_ap, fzC_ap0, mapO_fz_app, mapO_d, fz_d, List.take_of_length_le, f16, p0, textss]
end Go.Proofs.YtjdmiodinhlchaaDoor.Code
/- Orders, drawn. -/
namespace Go.Proofs.YtjdmiodinhlchaaDoor.Code
open Go Go.Ev Go.Proofs
set_option maxRecDepth 100000
set_option linter.unusedSimpArgs false
set_option linter.unusedVariables false
theorem hset_same' {H : Hp} {r : Nat} {o : Ev.Obj} (h : hget H r = some o) : hset H r o = H := by
  induction H generalizing r with
  | nil => rfl
  | cons a H ih =>
    cases r with
    | zero => simp only [hget, Option.some.injEq] at h; subst h; rfl
    | succ r => exact congrArg (List.cons a) (ih h)
theorem textsV_short (bs : List Int) : ∀ (n : Nat) (p : Int), ∀ x ∈ textsV bs n p, x.length ≤ 40
  | 0, p => by simp [textsV]
  | n + 1, p => by
    intro x hx
    simp only [textsV, List.mem_cons] at hx
    rcases hx with rfl | hx
    · exact textV_len bs p
    · exact textsV_short bs n (p + 1) x hx
theorem app_row (H X : Hp) (hl : hlen X = hlen H) (ds ts : List Txt) (N : Nat) (hN : ts.length = N) :
    rowOf (hpush (hpush X (.row 0 1 ((ds.map D.str).map V.d))) (rowT 0 ts)) (hlen H) 0 = some (1, (ds.map D.str).map V.d) ∧
    src (hpush (hpush X (.row 0 1 ((ds.map D.str).map V.d))) (rowT 0 ts)) (.slc (hlen H + 1) 0 0 N) = some (1, (ts.map D.str).map V.d, false) ∧
    hset (hpush (hpush X (.row 0 1 ((ds.map D.str).map V.d))) (rowT 0 ts)) (hlen H) (.row 1 1 ((ds.map D.str).map V.d ++ (ts.map D.str).map V.d)) = hpush (hpush X (.row 1 1 ((ds.map D.str).map V.d ++ (ts.map D.str).map V.d))) (rowT 0 ts) ∧
    fzC (hlen H) (hpush (hpush X (.row 1 1 ((ds.map D.str).map V.d ++ (ts.map D.str).map V.d))) (rowT 0 ts)) (.slc (hlen H) 1 0 (ds.length + N)) = some (.d (.vals 1 (ds.map D.str ++ ts.map D.str))) ∧
    htake (hpush (hpush X (.row 1 1 ((ds.map D.str).map V.d ++ (ts.map D.str).map V.d))) (rowT 0 ts)) (hlen H) = X ∧
    ((ts.map D.str).map V.d).all (okIn (hlen H) (hlen H)) = true := by
  subst hN
  rw [← hl]
  refine ⟨?_, ?_, ?_, ?_, ?_, ?_⟩
  · simp only [rowOf, hget_hpush_lt _ (show hlen X < hlen (hpush X (.row 0 1 ((ds.map D.str).map V.d))) by rw [hlen_hpush]; omega), hget_hpush_self]
    rfl
  · have hr : rowOf (hpush (hpush X (.row 0 1 ((ds.map D.str).map V.d))) (rowT 0 ts)) (hlen X + 1) 0 = some (1, (ts.map D.str).map V.d) := rowT_row (by rw [hlen_hpush])
    simp only [src, hr]
    rw [if_pos (by simp), List.drop_zero, List.take_of_length_le (by simp)]
  · rw [hset_push_lt (by rw [hlen_hpush]; omega), hset_push]
  · have hr : rowOf (hpush (hpush X (.row 1 1 ((ds.map D.str).map V.d ++ (ts.map D.str).map V.d))) (rowT 0 ts)) (hlen X) 1 = some (1, (ds.map D.str).map V.d ++ (ts.map D.str).map V.d) := by
      simp only [rowOf, hget_hpush_lt _ (show hlen X < hlen (hpush X (.row 1 1 ((ds.map D.str).map V.d ++ (ts.map D.str).map V.d))) by rw [hlen_hpush]; omega), hget_hpush_self]
      rfl
    have h := fz_row (n := hlen X) (d := 7) (i := 0) (k := ds.length + ts.length) (by omega) hr (by simp) (ys := ds.map D.str ++ ts.map D.str) (by
      rw [List.drop_zero, List.take_of_length_le (by simp), ← List.map_append]; exact mapO_d _)
    show (if hlen X < hlen X then _ else (match fz (hlen X) deep _ (.slc (hlen X) 1 0 (ds.length + ts.length)) with | some x => some (V.d x) | none => none)) = _
    rw [if_neg (by omega), show deep = 7 + 1 from rfl, h]
  · simp [htake, hpush, hlen]
  · simp [okIn, lowIn]
theorem own_row (H X : Hp) (hl : hlen X = hlen H) (ds : List Txt) :
    rowOf (hpush X (.row 0 1 ((ds.map D.str).map V.d))) (hlen H) 0 = some (1, (ds.map D.str).map V.d) ∧ htake (hpush X (.row 0 1 ((ds.map D.str).map V.d))) (hlen H) = X ∧ True := by
  rw [← hl]
  exact ⟨rowOf_self _ _ _ _, htake_push _ _, trivial⟩
theorem row_below (H X : Hp) (hl : hlen X = hlen H) (g : Nat) (ys : List V) (o : Ev.Obj) : rowOf (hpush (hpush X (.row g 1 ys)) o) (hlen H) g = some (1, ys) := by
  rw [← hl]
  simp only [rowOf, hget_hpush_lt _ (show hlen X < hlen (hpush X (.row g 1 ys)) by rw [hlen_hpush]; omega), hget_hpush_self]
  simp
end Go.Proofs.YtjdmiodinhlchaaDoor.Code
/- Reading orders, plainly: a parser that says what it read, or that its text breaks off, or that it is none. -/
namespace Go.Proofs.YtjdmiodinhlchaaDoor.Code
open Go Go.Ev
set_option linter.unusedSimpArgs false
set_option linter.unusedVariables false
inductive Res (α : Type) where
  | ok (a : α) (r : Txt)
  | short
  | bad
def Res.bind {α β : Type} (x : Res α) (f : α → Txt → Res β) : Res β :=
  match x with
  | .ok a r => f a r
  | .short => .short
  | .bad => .bad
def pByte (b : UInt8) : Txt → Res Unit
  | [] => .short
  | c :: r => if c = b then .ok () r else .bad
def isDig (c : UInt8) : Bool := decide (48 ≤ c.toNat) && decide (c.toNat ≤ 57)
def digV (n : Int) (c : UInt8) : Int := 10 * n + ((c.toNat : Int) - 48)
/-- Figures, and the end of a line. -/
def pDig (low high : Int) : Txt → Int → Bool → Res Int
  | [], _, _ => .short
  | c :: r, n, first =>
    if isDig c = true then
      if first = false ∧ n = 0 then .bad
      else if low ≤ digV n c ∧ digV n c ≤ high then pDig low high r (digV n c) false else .bad
    else if first = true then .bad
    else if c = 13 then (pByte 10 r).bind fun _ r' => .ok n r' else .bad
def pNum (mark : UInt8) (low high : Int) (t : Txt) : Res Int := (pByte mark t).bind fun _ r => pDig low high r 0 true
def pTake (n : Nat) (t : Txt) : Res Txt := if t.length < n then .short else .ok (t.take n) (t.drop n)
def pEnd {α : Type} (x : α) (t : Txt) : Res α := (pByte 13 t).bind fun _ r => (pByte 10 r).bind fun _ r' => .ok x r'
def pItem (t : Txt) : Res Txt := (pNum 36 0 40 t).bind fun n r => (pTake n.toNat r).bind fun x r' => pEnd x r'
def pItems : Nat → Txt → Res (List Txt)
  | 0, t => .ok [] t
  | n + 1, t => (pItem t).bind fun x r => (pItems n r).bind fun xs r' => .ok (x :: xs) r'
def pOrder (t : Txt) : Res (List Txt) := (pNum 42 1 8 t).bind fun n r => pItems n.toNat r

structure Good {α : Type} (P : Txt → Res α) : Prop where
  ok : ∀ t x r, P t = .ok x r → ∃ u, t = u ++ r ∧ ∀ r', P (u ++ r') = .ok x r'
  bad : ∀ t t', P t = .bad → P (t ++ t') = .bad
theorem Good.bind {α β : Type} {P : Txt → Res α} {Q : α → Txt → Res β} (h : Good P) (k : ∀ x, Good (Q x)) : Good fun t => (P t).bind Q := by
  constructor
  · intro t x r e0
    have e : (P t).bind Q = .ok x r := e0
    clear e0
    cases hp : P t with
    | short => rw [hp] at e; simp [Res.bind] at e
    | bad => rw [hp] at e; simp [Res.bind] at e
    | ok y r1 =>
      rw [hp] at e
      simp only [Res.bind] at e
      obtain ⟨u1, rfl, h1⟩ := h.ok t y r1 hp
      obtain ⟨u2, rfl, h2⟩ := (k y).ok r1 x r e
      refine ⟨u1 ++ u2, by rw [List.append_assoc], fun r' => ?_⟩
      simp only [List.append_assoc, h1, Res.bind, h2]
  · intro t t' e0
    have e : (P t).bind Q = .bad := e0
    clear e0
    show (P (t ++ t')).bind Q = .bad
    cases hp : P t with
    | short => rw [hp] at e; simp [Res.bind] at e
    | bad => rw [h.bad t t' hp]; rfl
    | ok y r1 =>
      rw [hp] at e
      simp only [Res.bind] at e
      obtain ⟨u1, rfl, h1⟩ := h.ok t y r1 hp
      rw [List.append_assoc, h1]
      exact (k y).bad r1 t' e
theorem Good.pure {α : Type} (x : α) : Good fun t => Res.ok x t :=
  ⟨fun t y r e => (by cases e; exact ⟨[], rfl, fun _ => rfl⟩), fun t t' e => (by cases e)⟩
theorem good_byte (b : UInt8) : Good (pByte b) := by
  constructor
  · intro t x r e
    cases t with
    | nil => cases e
    | cons c t =>
      simp only [pByte] at e
      split at e
      · rename_i h
        cases e
        exact ⟨[c], rfl, fun r' => by simp [pByte, h]⟩
      · cases e
  · intro t t' e
    cases t with
    | nil => cases e
    | cons c t =>
      simp only [pByte] at e
      split at e
      · cases e
      · rename_i h
        simp [pByte, h]
theorem good_take (n : Nat) : Good (pTake n) := by
  constructor
  · intro t x r e
    unfold pTake at e
    split at e
    · cases e
    · rename_i h
      cases e
      refine ⟨t.take n, (List.take_append_drop n t).symm, fun r' => ?_⟩
      have hl : (t.take n).length = n := by simp; omega
      unfold pTake
      rw [if_neg (by simp; omega), List.take_append_of_le_length (by omega), List.take_of_length_le (by omega), List.drop_append_of_le_length (by omega), List.drop_of_length_le (by omega)]
      rfl
  · intro t t' e
    unfold pTake at e
    split at e <;> cases e
theorem good_dig (low high : Int) : ∀ (t : Txt) (n : Int) (first : Bool), (∀ x r, pDig low high t n first = .ok x r → ∃ u, t = u ++ r ∧ ∀ r', pDig low high (u ++ r') n first = .ok x r') ∧ (∀ t', pDig low high t n first = .bad → pDig low high (t ++ t') n first = .bad)
  | [], n, first => ⟨fun x r e => (by cases e), fun t' e => (by cases e)⟩
  | c :: t, n, first => by
    have ih := good_dig low high t (digV n c) false
    have hb : Good fun r => (pByte 10 r).bind fun _ r' => Res.ok n r' := (good_byte 10).bind fun _ => Good.pure n
    simp only [List.cons_append, pDig]
    constructor
    · intro x r e
      split at e
      · rename_i h1
        split at e
        · cases e
        · rename_i h2
          split at e
          · rename_i h3
            obtain ⟨u, rfl, hu⟩ := ih.1 x r e
            exact ⟨c :: u, rfl, fun r' => by simp only [List.cons_append, pDig, h1, h2, h3, if_true, if_false, hu]; simp⟩
          · cases e
      · rename_i h1
        split at e
        · cases e
        · rename_i h2
          split at e
          · rename_i h3
            obtain ⟨u, rfl, hu⟩ := hb.ok t x r e
            exact ⟨c :: u, rfl, fun r' => by simp only [List.cons_append, pDig]; rw [if_neg h1, if_neg h2, if_pos h3]; exact hu r'⟩
          · cases e
    · intro t' e
      split at e
      · rename_i h1
        split at e
        · rename_i h2
          simp [h1, h2]
        · rename_i h2
          split at e
          · rename_i h3
            simp only [h1, h2, h3, if_true, if_false]
            simpa using ih.2 t' e
          · rename_i h3
            simp only [h1, h2, h3, if_true, if_false]
      · rename_i h1
        split at e
        · rename_i h2
          simp [h1, h2]
        · rename_i h2
          split at e
          · rename_i h3
            rw [if_neg h1, if_neg h2, if_pos h3]
            exact hb.bad t t' e
          · rename_i h3
            simp only [h1, h2, h3, if_true, if_false]
            simp
theorem good_num (mark : UInt8) (low high : Int) : Good (pNum mark low high) :=
  (good_byte mark).bind fun _ => ⟨fun t x r e => (good_dig low high t 0 true).1 x r e, fun t t' e => (good_dig low high t 0 true).2 t' e⟩
theorem good_end {α : Type} (x : α) : Good (pEnd x) := (good_byte 13).bind fun _ => (good_byte 10).bind fun _ => Good.pure x
theorem good_item : Good pItem := (good_num 36 0 40).bind fun n => (good_take n.toNat).bind fun x => good_end x
theorem good_items : ∀ n, Good (pItems n)
  | 0 => Good.pure []
  | n + 1 => good_item.bind fun x => (good_items n).bind fun xs => Good.pure (x :: xs)
theorem good_order : Good pOrder := (good_num 42 1 8).bind fun n => good_items n.toNat
/-- How many bytes an order takes up; 0 if it breaks off, -1 if it is none. -/
def ordN (t : Txt) : Int :=
  match pOrder t with
  | .ok _ r => (t.length : Int) - r.length
  | .short => 0
  | .bad => -1
def ordX (t : Txt) : List Txt :=
  match pOrder t with
  | .ok x _ => x
  | .short => []
  | .bad => []
theorem ordN_in (t : Txt) : -1 ≤ ordN t ∧ ordN t ≤ t.length := by
  unfold ordN
  cases h : pOrder t with
  | short => simp only; omega
  | bad => simp only; omega
  | ok x r =>
    obtain ⟨u, rfl, _⟩ := good_order.ok t x r h
    simp only [List.length_append]
    omega
/-- What breaks off. -/
theorem ord_part (t : Txt) (k : Nat) (hk : k ≤ t.length) : (0 < ordN t → (k : Int) < ordN t ∧ ordN (t.take k) = 0 ∨ ordN t ≤ k ∧ ordN (t.take k) = ordN t) ∧ (¬ 0 < ordN t → ordN (t.take k) = 0 ∨ ordN (t.take k) = ordN t) := by
  have split : t = t.take k ++ t.drop k := (List.take_append_drop k t).symm
  have hlen : (t.take k).length = k := by simp; omega
  have hd : (t.drop k).length = t.length - k := by simp
  obtain ⟨t1, h1⟩ : ∃ t1, t.take k = t1 := ⟨_, rfl⟩
  obtain ⟨t2, h2⟩ : ∃ t2, t.drop k = t2 := ⟨_, rfl⟩
  rw [h1, h2] at split
  rw [h1] at hlen ⊢
  rw [h2] at hd
  clear h1 h2
  subst split
  simp only [List.length_append] at hk hd
  cases hp : pOrder t1 with
  | bad =>
    have h2 := good_order.bad t1 t2 hp
    simp [ordN, hp, h2]
  | ok x r =>
    obtain ⟨u, hu, hur⟩ := good_order.ok t1 x r hp
    have h2 := hur (r ++ t2)
    rw [← List.append_assoc, ← hu] at h2
    have e1 : ordN t1 = (t1.length : Int) - r.length := by simp [ordN, hp]
    have e2 : ordN (t1 ++ t2) = (t1.length : Int) - r.length := by
      simp only [ordN, h2, List.length_append]; omega
    rw [e1, e2]
    refine ⟨fun h => .inr ⟨by omega, rfl⟩, fun h => .inr rfl⟩
  | short =>
    have e1 : ordN t1 = 0 := by simp [ordN, hp]
    rw [e1]
    refine ⟨fun h => .inl ⟨?_, rfl⟩, fun h => .inl rfl⟩
    cases hp2 : pOrder (t1 ++ t2) with
    | short => simp [ordN, hp2] at h
    | bad => simp [ordN, hp2] at h
    | ok x r =>
      have e2 : ordN (t1 ++ t2) = ((t1 ++ t2).length : Int) - r.length := by simp [ordN, hp2]
      rw [e2]
      obtain ⟨u, hu, hur⟩ := good_order.ok _ x r hp2
      rw [List.length_append]
      apply Classical.byContradiction
      intro hn
      have hul : u.length ≤ t1.length := by
        have := congrArg List.length hu
        simp only [List.length_append] at this
        omega
      have ht1 : t1 = u ++ t1.drop u.length := by
        have a := congrArg (List.take t1.length) hu
        rw [List.take_left] at a
        rw [List.take_append] at a
        have b : List.take t1.length u = u := List.take_of_length_le hul
        rw [b] at a
        conv => lhs; rw [a]
        rw [a, List.drop_left]
        congr 1
        simp
      have := hur (t1.drop u.length)
      rw [← ht1, hp] at this
      cases this
end Go.Proofs.YtjdmiodinhlchaaDoor.Code
/- The head of a text, as the reference reads it, and that it is the parser's. -/
namespace Go.Proofs.YtjdmiodinhlchaaDoor.Code
open Go Go.Ev
set_option linter.unusedSimpArgs false
set_option linter.unusedVariables false
/-- How far figures reach. -/
def scanK (s : Txt) : Nat → Nat → Nat
  | 0, k => k
  | f + 1, k => if k < s.length ∧ isDig (s.getD k 0) = true then scanK s f (k + 1) else k
/-- What figures stand for, of the first ten. -/
def figL : Txt → Nat → Int → Option Int
  | [], _, n => some n
  | c :: r, i, n => if isDig c = true then figL r (i + 1) (if i < 10 then n * 10 + ((c.toNat : Int) - 48) else n) else none
def figV (s : Txt) : Int :=
  match figL s 0 0 with
  | none => -1
  | some n => if s.length < 1 ∨ 10 < s.length ∨ (1 < s.length ∧ s.getD 0 0 = 48) then -1 else n
def seg (s : Txt) (l h : Nat) : Txt := (s.take h).drop l
def headV (s : Txt) (sign : UInt8) (low most : Int) : Int × Txt × Int :=
  let k := scanK s 3 1
  if s.length = 0 then (0, [], 0)
  else if s.getD 0 0 ≠ sign ∨ (k < s.length ∧ (k = 1 ∨ s.getD k 0 ≠ 13)) ∨ (k + 1 < s.length ∧ s.getD (k + 1) 0 ≠ 10) then (0, [], -1)
  else if 1 < k ∧ ¬ (low ≤ figV (seg s 1 k) ∧ figV (seg s 1 k) ≤ most) then (0, [], -1)
  else if s.length ≤ k + 1 then (0, [], 0)
  else (figV (seg s 1 k), s.drop (k + 2), 1)
def toHead : Res Int → Int × Txt × Int
  | .ok n r => (n, r, 1)
  | .short => (0, [], 0)
  | .bad => (0, [], -1)
theorem toHead_ok (n : Int) (r : Txt) : toHead (.ok n r) = (n, r, 1) := rfl
theorem toHead_short : toHead .short = (0, [], 0) := rfl
theorem toHead_bad : toHead .bad = (0, [], -1) := rfl
theorem dig_in {c : UInt8} (h : isDig c = true) : 48 ≤ c.toNat ∧ c.toNat ≤ 57 := by
  simpa [isDig] using h
theorem dig_not13 : isDig 13 = false := by decide
theorem c48 (c : UInt8) : c = 48 ↔ c.toNat = 48 := by
  constructor
  · rintro rfl; rfl
  · intro h; exact UInt8.toNat_inj.1 h
theorem head_is (s : Txt) (sign : UInt8) (low most : Int) (h0 : 0 ≤ low) (h1 : low ≤ 1) (hm : most ≤ 99) : headV s sign low most = toHead (pNum sign low most s) := by
  match s with
  | [] => simp [headV, pNum, pByte, Res.bind, apply_ite toHead, toHead_ok, toHead_short, toHead_bad]
  | c :: t =>
    by_cases hc : c = sign
    · subst hc
      match t with
      | [] => simp [headV, scanK, pNum, pByte, Res.bind, apply_ite toHead, toHead_ok, toHead_short, toHead_bad, pDig]
      | d1 :: t1 =>
        cases g1 : isDig d1 with
        | false => simp [headV, scanK, pNum, pByte, Res.bind, apply_ite toHead, toHead_ok, toHead_short, toHead_bad, pDig, g1]
        | true =>
          have b1 := dig_in g1
          have z1 := c48 d1
          match t1 with
          | [] =>
            simp [headV, scanK, pNum, pByte, Res.bind, apply_ite toHead, toHead_ok, toHead_short, toHead_bad, pDig, g1, seg, figV, figL, digV]
            repeat' split
            all_goals first | rfl | (exfalso; omega)
          | d2 :: t2 =>
            cases g2 : isDig d2 with
            | false =>
              by_cases e_27 : d2 = 13
              · subst e_27
                match t2 with
                | [] =>
                  simp [headV, scanK, pNum, pByte, Res.bind, apply_ite toHead, toHead_ok, toHead_short, toHead_bad, pDig, g1, g2, seg, figV, figL, digV]
                  repeat' split
                  all_goals first | rfl | (exfalso; omega)
                | d3 :: t3 =>
                  by_cases e10 : d3 = 10
                  · subst e10
                    simp [headV, scanK, pNum, pByte, Res.bind, apply_ite toHead, toHead_ok, toHead_short, toHead_bad, pDig, g1, g2, seg, figV, figL, digV]
                    repeat' split
                    all_goals first | rfl | (exfalso; omega)
                  · simp [headV, scanK, pNum, pByte, Res.bind, apply_ite toHead, toHead_ok, toHead_short, toHead_bad, pDig, g1, g2, seg, figV, figL, digV, e10]
                    repeat' split
                    all_goals first | rfl | (exfalso; omega)
              · simp [headV, scanK, pNum, pByte, Res.bind, apply_ite toHead, toHead_ok, toHead_short, toHead_bad, pDig, g1, g2, seg, figV, figL, digV, e_27]
                repeat' split
                all_goals first | rfl | (exfalso; omega)
            | true =>
              have b2 := dig_in g2
              match t2 with
              | [] =>
                simp [headV, scanK, pNum, pByte, Res.bind, apply_ite toHead, toHead_ok, toHead_short, toHead_bad, pDig, g1, g2, seg, figV, figL, digV, z1]
                repeat' split
                all_goals first | rfl | (exfalso; omega)
              | d3 :: t3 =>
                cases g3 : isDig d3 with
                | false =>
                  by_cases e_27 : d3 = 13
                  · subst e_27
                    match t3 with
                    | [] =>
                      simp [headV, scanK, pNum, pByte, Res.bind, apply_ite toHead, toHead_ok, toHead_short, toHead_bad, pDig, g1, g2, g3, seg, figV, figL, digV, z1]
                      repeat' split
                      all_goals first | rfl | (exfalso; omega)
                    | d4 :: t4 =>
                      by_cases e10 : d4 = 10
                      · subst e10
                        simp [headV, scanK, pNum, pByte, Res.bind, apply_ite toHead, toHead_ok, toHead_short, toHead_bad, pDig, g1, g2, g3, seg, figV, figL, digV, z1]
                        repeat' split
                        all_goals first | rfl | (exfalso; omega) | (simp; omega)
                      · simp [headV, scanK, pNum, pByte, Res.bind, apply_ite toHead, toHead_ok, toHead_short, toHead_bad, pDig, g1, g2, g3, seg, figV, figL, digV, z1, e10]
                        repeat' split
                        all_goals first | rfl | (exfalso; omega)
                  · simp [headV, scanK, pNum, pByte, Res.bind, apply_ite toHead, toHead_ok, toHead_short, toHead_bad, pDig, g1, g2, g3, seg, figV, figL, digV, z1, e_27]
                    repeat' split
                    all_goals first | rfl | (exfalso; omega)
                | true =>
                  have b3 := dig_in g3
                  simp [headV, scanK, pNum, pByte, Res.bind, apply_ite toHead, toHead_ok, toHead_short, toHead_bad, pDig, g1, g2, g3, seg, figV, figL, digV, z1]
                  repeat' split
                  all_goals first | rfl | (exfalso; omega)
    · have : sign ≠ c := fun e => hc e.symm
      simp [headV, pNum, pByte, Res.bind, apply_ite toHead, toHead_ok, toHead_short, toHead_bad, hc]
end Go.Proofs.YtjdmiodinhlchaaDoor.Code
/- The reader of orders under test. -/
namespace Go.Proofs.YtjdmiodinhlchaaDoor.Code
open Go Go.Ev Go.Proofs
set_option maxRecDepth 100000
set_option linter.unusedSimpArgs false
set_option linter.unusedVariables false
def wr (s : Txt) (at' : Nat) (sh bd : Bool) : Ev.Obj := .row 0 4 [.d (.agg [.str s, .int .i64 at', .bool sh, .bool bd])]
theorem wr_row {H : Hp} {r : Nat} {s : Txt} {k : Nat} {sh bd : Bool} (h : hget H r = some (wr s k sh bd)) : rowOf H r 0 = some (4, [.d (.agg [.str s, .int .i64 k, .bool sh, .bool bd])]) := by
  simp [rowOf, h, wr]
theorem wr_load {H : Hp} {r : Nat} {s : Txt} {k : Nat} {sh bd : Bool} (h : hget H r = some (wr s k sh bd)) : hload H r 0 0 0 1 = some [.d (.str s)] ∧ hload H r 0 0 1 1 = some [.d (.int .i64 k)] ∧ hload H r 0 0 2 1 = some [.d (.bool sh)] ∧ hload H r 0 0 3 1 = some [.d (.bool bd)] := by
  simp [hload, wr_row h, V.cells]
theorem wr_store1 {H : Hp} {r : Nat} {s : Txt} {k : Nat} {sh bd : Bool} (h : hget H r = some (wr s k sh bd)) (k' : Nat) (z : Int) (hz : z = k') : hstore H r 0 0 1 [.d (.int .i64 z)] = some (hset H r (wr s k' sh bd)) := by
  subst hz
  simp [hstore, wr_row h, V.cells, reCell, V.isAgg, mkAgg, allD, wr]
theorem wr_store2 {H : Hp} {r : Nat} {s : Txt} {k : Nat} {sh bd : Bool} (h : hget H r = some (wr s k sh bd)) (b : Bool) : hstore H r 0 0 2 [.d (.bool b)] = some (hset H r (wr s k b bd)) := by
  simp [hstore, wr_row h, V.cells, reCell, V.isAgg, mkAgg, allD, wr]
theorem wr_store3 {H : Hp} {r : Nat} {s : Txt} {k : Nat} {sh bd : Bool} (h : hget H r = some (wr s k sh bd)) (b : Bool) : hstore H r 0 0 3 [.d (.bool b)] = some (hset H r (wr s k sh b)) := by
  simp [hstore, wr_row h, V.cells, reCell, V.isAgg, mkAgg, allD, wr]
theorem hset_same {H : Hp} {r : Nat} {o : Ev.Obj} (h : hget H r = some o) : hset H r o = H := by
  induction H generalizing r with
  | nil => rfl
  | cons a H ih =>
    cases r with
    | zero => simp only [hget, Option.some.injEq] at h; subst h; rfl
    | succ r => exact congrArg (List.cons a) (ih h)
theorem htake_hset' {H : Hp} {r : Nat} {o : Ev.Obj} : htake (hset H r o) (hlen H) = hset H r o := by
  have := htake_self (hset H r o)
  rwa [hlen_hset] at this
/-- What reading a byte does. -/
def byteV (s : Txt) (k : Nat) (sh bd : Bool) (b : UInt8) : Nat × Bool × Bool :=
  if (sh || bd) = true then (k, sh, bd) else if k = s.length then (k, true, false) else if s.getD k 0 = b then (k + 1, false, false) else (k, false, true)
theorem u8_eq (a b : UInt8) : ((a.toNat : Int) = (b.toNat : Int)) ↔ a = b := by
  constructor
  · intro h; exact UInt8.toNat_inj.1 (by omega)
  · rintro rfl; rfl
/-- Where the figures end: how far, the number, and whether the text broke off or is none. -/
structure Stop (low high : Int) (s : Txt) (k n0 : Nat) (n : Int) (k1 : Nat) (n1 : Int) (sh bd : Bool) : Prop where
  le : k1 ≤ s.length
  ge : n0 ≤ k1
  say : (sh = false ∧ bd = false ∧ (∃ c t, s.drop k1 = c :: t ∧ isDig c = false) ∧ pDig low high (s.drop k) n (decide (k = n0)) = pDig low high (s.drop k1) n1 (decide (k1 = n0))) ∨ (sh = true ∧ bd = false ∧ pDig low high (s.drop k) n (decide (k = n0)) = .short) ∨ (sh = false ∧ bd = true ∧ pDig low high (s.drop k) n (decide (k = n0)) = .bad)
def P53 (r : Nat) (s : Txt) (X : Hp) (low high : Int) (from0 k : Nat) (n : Int) (o : Option (Out × St)) : Prop :=
  ∃ e' k1 n1 sh bd, o = some (.exit 0, ⟨e', hset X r (wr s k1 sh bd)⟩) ∧ e'.get 0 = .ptr r 0 0 0 ∧ e'.get 9 = .d (.int .i64 n1) ∧ e'.get 10 = .d (.int .i64 from0) ∧ Stop low high s k from0 n k1 n1 sh bd
/-- What a number's reader leaves. -/
def Says (p : Res Int) (s : Txt) (n : Int) (k : Nat) (sh bd : Bool) : Prop :=
  match p with
  | .ok m rest => m = n ∧ rest = s.drop k ∧ sh = false ∧ bd = false
  | .short => sh = true ∧ bd = false
  | .bad => sh = false ∧ bd = true
theorem drop_cons {s : Txt} {k : Nat} (hk : k < s.length) : s.drop k = s.getD k 0 :: s.drop (k + 1) := by
  rw [List.getD_eq_getElem?_getD, List.getElem?_eq_getElem hk]
  exact List.drop_eq_getElem_cons hk
theorem byteV_le {s : Txt} {k : Nat} {sh bd : Bool} {b : UInt8} (hk : k ≤ s.length) : (byteV s k sh bd b).1 ≤ s.length := by
  unfold byteV
  repeat' split
  all_goals (simp only; omega)
end Go.Proofs.YtjdmiodinhlchaaDoor.Code
/- The reader of orders that the code is held against. -/
namespace Go.Proofs.YtjdmiodinhlchaaDoor.Code
open Go Go.Ev Go.Proofs
set_option maxRecDepth 100000
set_option linter.unusedSimpArgs false
set_option linter.unusedVariables false
theorem scanK_in (s : Txt) : ∀ (f k : Nat), k ≤ scanK s f k ∧ scanK s f k ≤ k + f ∧ (k < scanK s f k → scanK s f k ≤ s.length)
  | 0, k => by simp [scanK]
  | f + 1, k => by
    simp only [scanK]
    have := scanK_in s f (k + 1)
    split
    · rename_i h
      obtain ⟨h1, _⟩ := h
      omega
    · omega
/-- What the head's reader hands back. -/
def headD (h : Int × Txt × Int) : V := .tup [.d (.int .i64 h.1), .d (.str h.2.1), .d (.int .i64 h.2.2)]
theorem headD_ite (c : Prop) [Decidable c] (a b : Int × Txt × Int) : headD (if c then a else b) = if c then headD a else headD b := by split <;> rfl
end Go.Proofs.YtjdmiodinhlchaaDoor.Code
/- Reading a whole order: the code under test and what it is held against say the same. -/
namespace Go.Proofs.YtjdmiodinhlchaaDoor.Code
open Go Go.Ev Go.Proofs
set_option maxRecDepth 100000
set_option linter.unusedSimpArgs false
set_option linter.unusedVariables false
theorem num_in (mark : UInt8) (low high : Int) (h0 : 0 ≤ low) (hm : high ≤ 99) (t r : Txt) (n : Int) (h : pNum mark low high t = .ok n r) : ∃ m : Nat, n = m ∧ low ≤ n ∧ n ≤ high ∧ r.length ≤ t.length := by
  have h2 : low ≤ n ∧ n ≤ high := by
    have : ∀ (t : Txt) (n : Int) (first : Bool), (first = false → low ≤ n ∧ n ≤ high) → ∀ (v : Int) (r : Txt), pDig low high t n first = .ok v r → low ≤ v ∧ v ≤ high := by
      intro t
      induction t with
      | nil => intro n first _ v r h; cases h
      | cons c t ih =>
        intro n first hf v r h
        simp only [pDig] at h
        split at h
        · split at h
          · cases h
          · split at h
            · rename_i w
              exact ih _ _ (fun _ => w) v r h
            · cases h
        · split at h
          · cases h
          · rename_i hff
            split at h
            · have : n = v := by
                cases t with
                | nil => cases h
                | cons d t =>
                  simp only [pByte] at h
                  split at h
                  · simp only [Res.bind, Res.ok.injEq] at h; exact h.1
                  · cases h
              subst this
              exact hf (by simpa using hff)
            · cases h
    cases t with
    | nil => cases h
    | cons c t =>
      simp only [pNum, pByte] at h
      split at h
      · exact this _ _ _ (fun h => by cases h) _ _ h
      · cases h
  obtain ⟨u, hu, _⟩ := (good_num mark low high).ok t n r h
  have := congrArg List.length hu
  rw [List.length_append] at this
  exact ⟨n.toNat, by omega, h2.1, h2.2, by omega⟩
/-- The end of an item, of what stands behind it. -/
theorem end_cases (x : Txt) (t : Txt) : (t = [] ∧ pEnd x t = .short) ∨ (∃ c t', t = c :: t' ∧ c ≠ 13 ∧ pEnd x t = .bad) ∨ (t = [13] ∧ pEnd x t = .short) ∨ (∃ d t', t = 13 :: d :: t' ∧ d ≠ 10 ∧ pEnd x t = .bad) ∨ (∃ t', t = 13 :: 10 :: t' ∧ pEnd x t = .ok x t') := by
  match t with
  | [] => exact .inl ⟨rfl, rfl⟩
  | c :: t =>
    by_cases hc : c = 13
    · subst hc
      match t with
      | [] => exact .inr (.inr (.inl ⟨rfl, rfl⟩))
      | d :: t =>
        by_cases hd : d = 10
        · subst hd
          exact .inr (.inr (.inr (.inr ⟨t, rfl, rfl⟩)))
        · exact .inr (.inr (.inr (.inl ⟨d, t, rfl, hd, by simp [pEnd, pByte, Res.bind, hd]⟩)))
    · exact .inr (.inl ⟨c, t, rfl, hc, by simp [pEnd, pByte, Res.bind, hc]⟩)
/-- What the loop over the items leaves. -/
def PItems (H : Hp) (n0 : Nat) (s : Txt) (ts : List Txt) (p : Res (List Txt)) (o : Option (Out × St)) : Prop :=
  match p with
  | .ok xs r => ∃ e' g, o = some (.exit 0, ⟨e', hpush H (rowT g (ts ++ xs))⟩) ∧ e'.get 0 = .d (.str s) ∧ e'.get 5 = .d (.str r) ∧ e'.get 7 = .slc n0 g 0 (ts ++ xs).length
  | .short => ∃ e' ob, o = some (.ret, ⟨e', hpush H ob⟩) ∧ e'.get 2 = .d (txts []) ∧ e'.get 3 = .d (.int .i64 0)
  | .bad => ∃ e' ob, o = some (.ret, ⟨e', hpush H ob⟩) ∧ e'.get 2 = .d (txts []) ∧ e'.get 3 = .d (.int .i64 (-1))
end Go.Proofs.YtjdmiodinhlchaaDoor.Code
/- Reading a whole order: the code under test. -/
namespace Go.Proofs.YtjdmiodinhlchaaDoor.Code
open Go Go.Ev Go.Proofs
set_option maxRecDepth 100000
set_option linter.unusedSimpArgs false
set_option linter.unusedVariables false
/-- The two objects of a reading: the reader and the list. -/
def two (H : Hp) (s : Txt) (k : Nat) (sh bd : Bool) (g : Nat) (ts : List Txt) : Hp := hpush (hpush H (wr s k sh bd)) (rowT g ts)
theorem two_get (H : Hp) (s : Txt) (k : Nat) (sh bd : Bool) (g : Nat) (ts : List Txt) : hget (two H s k sh bd g ts) (hlen H) = some (wr s k sh bd) := by
  unfold two
  rw [hget_hpush_lt _ (by rw [hlen_hpush]; omega), hget_hpush_self]
theorem two_set (H : Hp) (s : Txt) (k k' : Nat) (sh bd sh' bd' : Bool) (g : Nat) (ts : List Txt) : hset (two H s k sh bd g ts) (hlen H) (wr s k' sh' bd') = two H s k' sh' bd' g ts := by
  unfold two
  rw [hset_push_lt (by rw [hlen_hpush]; omega), hset_push]
theorem two_len (H : Hp) (s : Txt) (k : Nat) (sh bd : Bool) : hlen (hpush H (wr s k sh bd)) = hlen H + 1 := hlen_hpush _ _
/-- What the loop over the items leaves. -/
def QItems (H : Hp) (s : Txt) (ts : List Txt) (p : Res (List Txt)) (o : Option (Out × St)) : Prop :=
  ∃ e' g k sh bd ys, o = some (.exit 0, ⟨e', two H s k sh bd g ys⟩) ∧ e'.get 4 = .ptr (hlen H) 0 0 0 ∧ e'.get 6 = .slc (hlen H + 1) g 0 ys.length ∧ k ≤ s.length ∧
    (match p with | .ok xs r => ys = ts ++ xs ∧ r = s.drop k ∧ sh = false ∧ bd = false | .short => sh = true ∧ bd = false | .bad => sh = false ∧ bd = true)
theorem two_take (H : Hp) (s : Txt) (k : Nat) (sh bd : Bool) (g : Nat) (ts : List Txt) : htake (two H s k sh bd g ts) (hlen H) = H := by
  simp [two, htake, hpush, hlen]
theorem two_fz (H : Hp) (s : Txt) (k : Nat) (sh bd : Bool) (g : Nat) (ts : List Txt) : fzC (hlen H) (two H s k sh bd g ts) (.slc (hlen H + 1) g 0 ts.length) = some (.d (txts ts)) := by
  have hr : rowOf (two H s k sh bd g ts) (hlen H + 1) g = some (1, (ts.map D.str).map V.d) := by
    unfold two
    exact rowT_row (two_len H s k sh bd).symm
  have h := fz_row (n := hlen H) (d := 7) (i := 0) (k := ts.length) (by omega) hr (by simp) (ys := ts.map D.str) (by
    rw [List.drop_zero, List.take_of_length_le (by simp)]; exact mapO_d _)
  show (if hlen H + 1 < hlen H then _ else (match fz (hlen H) deep _ (.slc (hlen H + 1) g 0 ts.length) with | some x => some (V.d x) | none => none)) = _
  rw [if_neg (by omega), show deep = 7 + 1 from rfl, h]
end Go.Proofs.YtjdmiodinhlchaaDoor.Code
/- Orders written out, and that the parser reads just these. -/
namespace Go.Proofs.YtjdmiodinhlchaaDoor.Code
open Go Go.Ev
set_option linter.unusedSimpArgs false
set_option linter.unusedVariables false
theorem u8n {k : Nat} (h : k < 256) : (UInt8.ofNat k).toNat = k := by simp [Nat.mod_eq_of_lt h]
theorem dec1 {n : Nat} (h : n < 10) : decV n = [UInt8.ofNat (48 + n)] := by rw [decV, dif_pos h]
theorem dec2 {n : Nat} (h : 10 ≤ n) (h2 : n < 100) : decV n = [UInt8.ofNat (48 + n / 10), UInt8.ofNat (48 + n % 10)] := by
  rw [decV, dif_neg (by omega), dec1 (by omega)]; rfl
theorem isDig_of {k : Nat} (h : k < 10) : isDig (UInt8.ofNat (48 + k)) = true := by
  unfold isDig; rw [u8n (by omega)]; simp; omega
theorem digV_of {k : Nat} (h : k < 10) (n : Int) : digV n (UInt8.ofNat (48 + k)) = 10 * n + k := by
  unfold digV; rw [u8n (by omega)]; omega
theorem num_dec (mark : UInt8) (low high : Int) (n : Nat) (h0 : 0 ≤ low) (h1 : low ≤ 1) (hl : low ≤ n) (hh : n ≤ high) (hm : high ≤ 99) (r : Txt) : pNum mark low high (mark :: (decV n ++ (13 :: 10 :: r))) = .ok n r := by
  by_cases c : n < 10
  · rw [dec1 c]
    have a : low ≤ digV 0 (UInt8.ofNat (48 + n)) ∧ digV 0 (UInt8.ofNat (48 + n)) ≤ high := by rw [digV_of c]; omega
    have e : digV 0 (UInt8.ofNat (48 + n)) = n := by rw [digV_of c]; omega
    rw [e] at a
    simp only [pNum, pByte, Res.bind, pDig, List.cons_append, List.nil_append, isDig_of c, if_true, e, a, and_false, and_self, if_false, Bool.true_eq_false, false_and, hl, hh, dig_not13, Bool.false_eq_true]
  · have c1 : n / 10 < 10 := by omega
    have c2 : n % 10 < 10 := by omega
    rw [dec2 (by omega) (by omega)]
    have e1 : digV 0 (UInt8.ofNat (48 + n / 10)) = ((n / 10 : Nat) : Int) := by rw [digV_of c1]; omega
    have e2 : digV ((n / 10 : Nat) : Int) (UInt8.ofNat (48 + n % 10)) = n := by rw [digV_of c2]; omega
    have a1 : low ≤ ((n / 10 : Nat) : Int) ∧ ((n / 10 : Nat) : Int) ≤ high := by omega
    have a2 : ¬ ((n / 10 : Nat) : Int) = 0 := by omega
    obtain ⟨k, hk⟩ : ∃ k : Int, ((n / 10 : Nat) : Int) = k := ⟨_, rfl⟩
    rw [hk] at e1 e2 a1 a2
    simp only [pNum, pByte, Res.bind, pDig, List.cons_append, List.nil_append, isDig_of c1, isDig_of c2, if_true, e1, e2, a1, a2, and_false, and_self, if_false, Bool.true_eq_false, false_and, hl, hh, dig_not13, Bool.false_eq_true]
theorem num_ok (mark : UInt8) (low high : Int) (h0 : 0 ≤ low) (hm : high ≤ 99) (t r : Txt) (n : Int) (h : pNum mark low high t = .ok n r) : ∃ m : Nat, n = m ∧ low ≤ n ∧ n ≤ high ∧ t = mark :: (decV m ++ (13 :: 10 :: r)) := by
  match t with
  | [] => simp [pNum, pByte, Res.bind] at h
  | c :: t =>
    by_cases hc : c = mark
    · subst hc
      match t with
      | [] => simp [pNum, pByte, Res.bind, pDig] at h
      | d1 :: t1 =>
        cases g1 : isDig d1 with
        | false => simp [pNum, pByte, Res.bind, pDig, g1] at h
        | true =>
          have b1 := dig_in g1
          by_cases w1 : low ≤ digV 0 d1 ∧ digV 0 d1 ≤ high
          · match t1 with
            | [] => simp [pNum, pByte, Res.bind, pDig, g1, w1] at h
            | d2 :: t2 =>
              cases g2 : isDig d2 with
              | false =>
                by_cases e_27 : d2 = 13
                · subst e_27
                  match t2 with
                  | [] => simp [pNum, pByte, Res.bind, pDig, g1, g2, w1] at h
                  | d3 :: t3 =>
                    by_cases e10 : d3 = 10
                    · subst e10
                      simp [pNum, pByte, Res.bind, pDig, g1, g2, w1] at h
                      obtain ⟨rfl, rfl⟩ := h
                      refine ⟨d1.toNat - 48, by unfold digV; omega, w1.1, w1.2, ?_⟩
                      rw [dec1 (by omega)]
                      have : 48 + (d1.toNat - 48) = d1.toNat := by omega
                      rw [this]; simp
                    · simp [pNum, pByte, Res.bind, pDig, g1, g2, w1, e10] at h
                · simp [pNum, pByte, Res.bind, pDig, g1, g2, w1, e_27] at h
              | true =>
                have b2 := dig_in g2
                by_cases z1 : digV 0 d1 = 0
                · simp [pNum, pByte, Res.bind, pDig, g1, g2, w1, z1] at h
                · by_cases w2 : low ≤ digV (digV 0 d1) d2 ∧ digV (digV 0 d1) d2 ≤ high
                  · match t2 with
                    | [] => simp [pNum, pByte, Res.bind, pDig, g1, g2, w1, z1, w2] at h
                    | d3 :: t3 =>
                      cases g3 : isDig d3 with
                      | true =>
                        have b3 := dig_in g3
                        have w3 : ¬ (low ≤ digV (digV (digV 0 d1) d2) d3 ∧ digV (digV (digV 0 d1) d2) d3 ≤ high) := by
                          unfold digV at z1 ⊢; omega
                        have z2 : ¬ digV (digV 0 d1) d2 = 0 := by unfold digV at z1 ⊢; omega
                        simp only [pNum, pByte, Res.bind, pDig, g1, g2, g3, w1, z1, w2, w3, z2, if_true, if_false, and_self, and_false, false_and, Bool.true_eq_false] at h
                        cases h
                      | false =>
                        by_cases e_27 : d3 = 13
                        · subst e_27
                          match t3 with
                          | [] => simp [pNum, pByte, Res.bind, pDig, g1, g2, g3, w1, z1, w2] at h
                          | d4 :: t4 =>
                            by_cases e10 : d4 = 10
                            · subst e10
                              simp [pNum, pByte, Res.bind, pDig, g1, g2, g3, w1, z1, w2] at h
                              obtain ⟨rfl, rfl⟩ := h
                              have k1 : digV 0 d1 = (d1.toNat : Int) - 48 := by unfold digV; omega
                              have k2 : digV (digV 0 d1) d2 = 10 * ((d1.toNat : Int) - 48) + ((d2.toNat : Int) - 48) := by rw [k1]; rfl
                              refine ⟨10 * (d1.toNat - 48) + (d2.toNat - 48), by omega, w2.1, w2.2, ?_⟩
                              rw [dec2 (by omega) (by omega)]
                              have a1 : 48 + (10 * (d1.toNat - 48) + (d2.toNat - 48)) / 10 = d1.toNat := by omega
                              have a2 : 48 + (10 * (d1.toNat - 48) + (d2.toNat - 48)) % 10 = d2.toNat := by omega
                              rw [a1, a2]; simp
                            · simp [pNum, pByte, Res.bind, pDig, g1, g2, g3, w1, z1, w2, e10] at h
                        · simp [pNum, pByte, Res.bind, pDig, g1, g2, g3, w1, z1, w2, e_27] at h
                  · simp [pNum, pByte, Res.bind, pDig, g1, g2, w1, z1, w2] at h
          · simp [pNum, pByte, Res.bind, pDig, g1, w1] at h
    · simp [pNum, pByte, Res.bind, hc] at h
/-- A text with its length. -/
def bulk (a : Txt) : Txt := 36 :: (decV a.length ++ (13 :: 10 :: (a ++ [13, 10])))
def bulks : List Txt → Txt
  | [] => []
  | a :: r => bulk a ++ bulks r
def ordText (xs : List Txt) : Txt := 42 :: (decV xs.length ++ (13 :: 10 :: bulks xs))
def okOrder (xs : List Txt) : Prop := (∀ x ∈ xs, x.length ≤ 40) ∧ 1 ≤ xs.length ∧ xs.length ≤ 8
theorem item_put (a r : Txt) (h : a.length ≤ 40) : pItem (bulk a ++ r) = .ok a r := by
  have e : bulk a ++ r = 36 :: (decV a.length ++ (13 :: 10 :: (a ++ (13 :: 10 :: r)))) := by simp [bulk]
  rw [e]
  unfold pItem
  rw [num_dec 36 0 40 a.length (by omega) (by omega) (by omega) (by omega) (by omega)]
  have t1 : pTake ((a.length : Int)).toNat (a ++ (13 :: 10 :: r)) = .ok a (13 :: 10 :: r) := by
    unfold pTake
    rw [if_neg (by simp), Int.toNat_natCast, List.take_left, List.drop_left]
  simp only [Res.bind, t1, pEnd, pByte, if_true]
theorem item_ok (t x r : Txt) (h : pItem t = .ok x r) : x.length ≤ 40 ∧ t = bulk x ++ r := by
  unfold pItem at h
  cases hn : pNum 36 0 40 t with
  | short => rw [hn] at h; cases h
  | bad => rw [hn] at h; cases h
  | ok n r1 =>
    rw [hn] at h
    obtain ⟨m, rfl, h1, h2, rfl⟩ := num_ok 36 0 40 (by omega) (by omega) t r1 n hn
    simp only [Res.bind, pTake, Int.toNat_natCast] at h
    by_cases c : r1.length < m
    · rw [if_pos c] at h; cases h
    · rw [if_neg c] at h
      simp only [pEnd] at h
      have hl : (r1.take m).length = m := by simp; omega
      have hs : r1 = r1.take m ++ r1.drop m := (List.take_append_drop m r1).symm
      cases hd : r1.drop m with
      | nil => rw [hd] at h; cases h
      | cons a r2 =>
        rw [hd] at h hs
        simp only [pByte] at h
        by_cases ha : a = 13
        · rw [if_pos ha] at h
          simp only [Res.bind] at h
          cases r2 with
          | nil => cases h
          | cons b r3 =>
            simp only [pByte] at h
            by_cases hb : b = 10
            · rw [if_pos hb] at h
              simp only [Res.bind, Res.ok.injEq] at h
              obtain ⟨rfl, rfl⟩ := h
              subst ha hb
              refine ⟨by omega, ?_⟩
              unfold bulk
              rw [hl]
              conv => lhs; rw [hs]
              simp
            · rw [if_neg hb] at h; cases h
        · rw [if_neg ha] at h; cases h
theorem items_put : ∀ (xs : List Txt) (r : Txt), (∀ x ∈ xs, x.length ≤ 40) → pItems xs.length (bulks xs ++ r) = .ok xs r
  | [], r, _ => rfl
  | x :: xs, r, h => by
    simp only [List.length_cons, pItems, bulks, List.append_assoc]
    rw [item_put x _ (h x (by simp))]
    simp only [Res.bind]
    rw [items_put xs r fun y hy => h y (by simp [hy])]
theorem items_ok : ∀ (n : Nat) (t r : Txt) (xs : List Txt), pItems n t = .ok xs r → xs.length = n ∧ (∀ x ∈ xs, x.length ≤ 40) ∧ t = bulks xs ++ r
  | 0, t, r, xs, h => by cases h; exact ⟨rfl, by simp, rfl⟩
  | n + 1, t, r, xs, h => by
    simp only [pItems] at h
    cases h1 : pItem t with
    | short => rw [h1] at h; cases h
    | bad => rw [h1] at h; cases h
    | ok x r1 =>
      rw [h1] at h
      simp only [Res.bind] at h
      cases h2 : pItems n r1 with
      | short => rw [h2] at h; cases h
      | bad => rw [h2] at h; cases h
      | ok ys r2 =>
        rw [h2] at h
        simp only [Res.bind, Res.ok.injEq] at h
        obtain ⟨rfl, rfl⟩ := h
        obtain ⟨a1, rfl⟩ := item_ok t x r1 h1
        obtain ⟨b1, b2, rfl⟩ := items_ok n r1 r2 ys h2
        refine ⟨by simp [b1], ?_, by simp [bulks]⟩
        intro y hy
        rcases List.mem_cons.1 hy with rfl | hy
        · exact a1
        · exact b2 y hy
theorem order_put (xs : List Txt) (r : Txt) (h : okOrder xs) : pOrder (ordText xs ++ r) = .ok xs r := by
  have e : ordText xs ++ r = 42 :: (decV xs.length ++ (13 :: 10 :: (bulks xs ++ r))) := by simp [ordText]
  rw [e]
  unfold pOrder
  obtain ⟨h1, h2, h3⟩ := h
  rw [num_dec 42 1 8 xs.length (by omega) (by omega) (by omega) (by omega) (by omega)]
  simp only [Res.bind, Int.toNat_natCast]
  exact items_put xs r h1
theorem order_ok (t r : Txt) (xs : List Txt) (h : pOrder t = .ok xs r) : okOrder xs ∧ t = ordText xs ++ r := by
  unfold pOrder at h
  cases hn : pNum 42 1 8 t with
  | short => rw [hn] at h; cases h
  | bad => rw [hn] at h; cases h
  | ok n r1 =>
    rw [hn] at h
    obtain ⟨m, rfl, h1, h2, rfl⟩ := num_ok 42 1 8 (by omega) (by omega) t r1 n hn
    simp only [Res.bind, Int.toNat_natCast] at h
    obtain ⟨a, b, rfl⟩ := items_ok m r1 r xs h
    subst a
    exact ⟨⟨b, by omega, by omega⟩, by simp [ordText]⟩
end Go.Proofs.YtjdmiodinhlchaaDoor.Code
/- Orders written by the reference, and drawn bytes. -/
namespace Go.Proofs.YtjdmiodinhlchaaDoor.Code
open Go Go.Ev Go.Proofs
set_option maxRecDepth 100000
set_option linter.unusedSimpArgs false
set_option linter.unusedVariables false
/-- Whether texts are an order. -/
def okArgs (xs : List Txt) : Bool := (seek (long xs) xs.length 0).isNone && (decide (1 ≤ xs.length) && decide (xs.length ≤ 8))
theorem okArgs_iff (xs : List Txt) : okArgs xs = true ↔ okOrder xs := by
  unfold okArgs okOrder
  constructor
  · intro h
    simp only [Bool.and_eq_true, decide_eq_true_eq, Option.isNone_iff_eq_none] at h
    obtain ⟨h1, h2, h3⟩ := h
    refine ⟨fun x hx => ?_, h2, h3⟩
    obtain ⟨i, hi, rfl⟩ := List.getElem_of_mem hx
    have := seek_none h1 i (by omega) (by omega)
    simp only [long, decide_eq_false_iff_not, List.getD_eq_getElem?_getD, List.getElem?_eq_getElem hi, Option.getD_some] at this
    omega
  · rintro ⟨h1, h2, h3⟩
    simp only [Bool.and_eq_true, decide_eq_true_eq, Option.isNone_iff_eq_none]
    refine ⟨?_, h2, h3⟩
    cases hr : seek (long xs) xs.length 0 with
    | none => rfl
    | some j =>
      obtain ⟨_, hj, hp, _⟩ := seek_some hr
      have hj' : j < xs.length := by omega
      simp only [long, decide_eq_true_eq, List.getD_eq_getElem?_getD, List.getElem?_eq_getElem hj', Option.getD_some] at hp
      have := h1 _ (List.getElem_mem hj')
      omega
theorem bulk_len (a : Txt) : (bulk a).length ≤ 2 * a.length + 6 := by
  have := decV_len a.length
  simp only [bulk, List.length_cons, List.length_append, List.length_nil]
  omega
theorem bulks_len : ∀ (xs : List Txt), (∀ x ∈ xs, x.length ≤ 40) → (bulks xs).length ≤ 86 * xs.length
  | [], _ => by simp [bulks]
  | a :: xs, h => by
    have h1 := bulk_len a
    have h2 := bulks_len xs fun x hx => h x (by simp [hx])
    have h3 := h a (by simp)
    simp only [bulks, List.length_append, List.length_cons]
    omega
theorem e_39 (H : Hp) (a : Txt) (ha : a.length ≤ 1000000) : ev R 39 [.d (.str a)] H = some (.d (.str (bulk a)), H) := by
  refine ev_fn (fn := f39) rfl rfl ?_
  have q : pureCall (ev R) 22 [.d (.int .i64 a.length)] = some (.d (.str (decV a.length))) := pureCall_eq fun H => e_22 a.length H (by omega)
  have dl := decV_len a.length
  have l1 : 1 + (decV a.length).length ≤ strRoom := by unfold strRoom; omega
  have l2 : (decV a.length).length + 1 ≤ strRoom := by unfold strRoom; omega
  have l3 : (decV a.length).length + 1 + 2 ≤ strRoom := by unfold strRoom; omega
  have l4 : (decV a.length).length + 2 + 1 ≤ strRoom := by unfold strRoom; omega
  have l5 : (decV a.length).length + 1 + 2 + a.length ≤ strRoom := by unfold strRoom; omega
  have l6 : (decV a.length).length + 2 + 1 + a.length ≤ strRoom := by unfold strRoom; omega
  have l7 : (decV a.length).length + 1 + 2 + a.length + 2 ≤ strRoom := by unfold strRoom; omega
  have l8 : (decV a.length).length + 2 + 1 + a.length + 2 ≤ strRoom := by unfold strRoom; omega
  have l9 : (decV a.length).length + (a.length + 1 + 1) + 1 ≤ strRoom := by unfold strRoom; omega
  have la : (decV a.length).length + (a.length + 2) + 1 ≤ strRoom := by unfold strRoom; omega
  have lb : (decV a.length).length + (a.length + 1 + 1) + 1 + 2 ≤ strRoom := by unfold strRoom; omega
  have lc : (decV a.length).length + (a.length + 2) + 1 + 2 ≤ strRoom := by unfold strRoom; omega
  unfold bulk
  simp [-List.getD_eq_getElem?_getD, -List.map_map, evBody, evCode, evOps, evOper, evOp, opd, Env.get, Env.put, Env.keep, zipEnv, V.ok, V.sto, V.cells, D.cells, V.isAgg, binD, binInt, binStr, shInt, unD, eqOf, asI, leave, resOf, mapO, fzV, tupOf, view, view1, isData, hand, flatV, flatD, allD, mkAgg, mkVal, beq_lit, IntKind.bits, htake_self, htake_push, hget_hpush_self, hset_push, rowOf_self, okIn, lowIn, lowIn1, fzC_d, fzC_row, f39, q, l1, l2, l3, l4, l5, l6, l7, l8, l9, la, lb, lc]
theorem l_21 (n0 : Nat) (xs : List Txt) (hx : xs.length ≤ 1000) (hs : ∀ x ∈ xs, x.length ≤ 40) (H : Hp) : ∀ (n i : Nat) (out : Txt) (e : Env), i + n = xs.length → out.length + 86 * n ≤ 1000000 → e.get 0 = .d (txts xs) → e.get 3 = .d (.str out) → e.get 4 = .d (.int .i64 i) →
    ∃ e', evLoop (evCode (ev R) R.glob n0 evLoop f21l0) [0, 3, 4] ⟨e, H⟩ = some (.exit 0, ⟨e', H⟩) ∧ e'.get 3 = .d (.str (out ++ bulks (xs.drop i)))
  | 0, i, out, e, hi, hl, h0, h3, h4 => by
    have c : ¬ (i : Int) < (xs.length : Int) := by omega
    have c' : ¬ i < xs.length := by omega
    rw [List.drop_of_length_le (by omega), bulks, List.append_nil, evLoop_eq]
    refine ⟨?_, ?_, ?_⟩
    rotate_left
    · simp [-List.getD_eq_getElem?_getD, -List.map_map, evBody, evCode, evOps, evOper, evOp, opd, Env.get, Env.put, Env.keep, zipEnv, V.ok, V.sto, V.cells, D.cells, V.isAgg, binD, binInt, binStr, shInt, unD, eqOf, asI, leave, resOf, mapO, fzV, tupOf, view, view1, isData, hand, flatV, flatD, allD, mkAgg, mkVal, beq_lit, IntKind.bits, htake_self, htake_push, hget_hpush_self, hset_push, rowOf_self, okIn, lowIn, lowIn1, fzC_d, fzC_row, f21l0, h0, h3, h4, txts, c, c']
      try rfl
    · simp [-List.getD_eq_getElem?_getD, -List.map_map, evBody, evCode, evOps, evOper, evOp, opd, Env.get, Env.put, Env.keep, zipEnv, V.ok, V.sto, V.cells, D.cells, V.isAgg, binD, binInt, binStr, shInt, unD, eqOf, asI, leave, resOf, mapO, fzV, tupOf, view, view1, isData, hand, flatV, flatD, allD, mkAgg, mkVal, beq_lit, IntKind.bits, htake_self, htake_push, hget_hpush_self, hset_push, rowOf_self, okIn, lowIn, lowIn1, fzC_d, fzC_row, h3]
  | n + 1, i, out, e, hi, hl, h0, h3, h4 => by
    have c' : i < xs.length := by omega
    have c : (i : Int) < (xs.length : Int) := by omega
    have g := txts_get xs i c'
    have w1 : IntKind.i64.wrap ((i : Int) + 1) = ((i + 1 : Nat) : Int) := by rw [IntWalk.i64_in _ (by omega)]; rfl
    have hd : xs.drop i = xs.getD i [] :: xs.drop (i + 1) := by
      rw [List.getD_eq_getElem?_getD, List.getElem?_eq_getElem c']
      exact List.drop_eq_getElem_cons c'
    have hm : (xs.getD i []).length ≤ 40 := by
      rw [List.getD_eq_getElem?_getD, List.getElem?_eq_getElem c']
      exact hs _ (List.getElem_mem c')
    obtain ⟨x, hx'⟩ : ∃ x, xs.getD i [] = x := ⟨_, rfl⟩
    rw [hx'] at g hd hm
    have bl := bulk_len x
    have q : pureCall (ev R) 39 [.d (.str x)] = some (.d (.str (bulk x))) := pureCall_eq fun H => e_39 H x (by omega)
    have l1 : out.length + (bulk x).length ≤ strRoom := by unfold strRoom; omega
    have ih := l_21 n0 xs hx hs H n (i + 1) (out ++ bulk x)
    simp only [List.append_assoc] at ih
    rw [hd, bulks]
    generalize bulk x = b at q l1 ih bl ⊢
    rw [evLoop_eq]
    generalize evLoop (evCode (ev R) R.glob n0 evLoop f21l0) [0, 3, 4] = F at ih ⊢
    simp [-List.getD_eq_getElem?_getD, -List.map_map, evBody, evCode, evOps, evOper, evOp, opd, Env.get, Env.put, Env.keep, zipEnv, V.ok, V.sto, V.cells, D.cells, V.isAgg, binD, binInt, binStr, shInt, unD, eqOf, asI, leave, resOf, mapO, fzV, tupOf, view, view1, isData, hand, flatV, flatD, allD, mkAgg, mkVal, beq_lit, IntKind.bits, htake_self, htake_push, hget_hpush_self, hset_push, rowOf_self, okIn, lowIn, lowIn1, fzC_d, fzC_row, f21l0, h0, h3, h4, txts, c, c', g, w1, q, l1]
    refine ih _ (by omega) (by rw [List.length_append]; omega) ?_ ?_ ?_ <;> rfl
theorem e_21 (H : Hp) (xs : List Txt) (hx : xs.length ≤ 1000) (hs : ∀ x ∈ xs, x.length ≤ 40) : ev R 21 [.d (txts xs)] H = some (.d (.str (ordText xs)), H) := by
  refine ev_fn (fn := f21) rfl rfl ?_
  have q : pureCall (ev R) 22 [.d (.int .i64 xs.length)] = some (.d (.str (decV xs.length))) := pureCall_eq fun H => e_22 xs.length H (by omega)
  have dl := decV_len xs.length
  obtain ⟨e', he, h3⟩ := l_21 (hlen H) xs hx hs H xs.length 0 (42 :: (decV xs.length ++ [13, 10])) [(0, .d (txts xs)), (3, .d (.str (42 :: (decV xs.length ++ [13, 10])))), (4, .d (.int .i64 0))] (by omega) (by simp; omega) rfl rfl rfl
  have e1 : 42 :: (decV xs.length ++ [13, 10]) ++ bulks (xs.drop 0) = ordText xs := by simp [ordText]
  rw [e1] at h3
  have l1 : 1 + (decV xs.length).length ≤ strRoom := by unfold strRoom; omega
  have l2 : (decV xs.length).length + 1 ≤ strRoom := by unfold strRoom; omega
  have l3 : (decV xs.length).length + 1 + 2 ≤ strRoom := by unfold strRoom; omega
  simp [-List.getD_eq_getElem?_getD, -List.map_map, evBody, evCode, evOps, evOper, evOp, opd, Env.get, Env.put, Env.keep, zipEnv, V.ok, V.sto, V.cells, D.cells, V.isAgg, binD, binInt, binStr, shInt, unD, eqOf, asI, leave, resOf, mapO, fzV, tupOf, view, view1, isData, hand, flatV, flatD, allD, mkAgg, mkVal, beq_lit, IntKind.bits, htake_self, htake_push, hget_hpush_self, hset_push, rowOf_self, okIn, lowIn, lowIn1, fzC_d, fzC_row, f21, txts, q, l1, l2, l3, he, h3]
/-- An order written out; nothing if it is none. -/
def putV (xs : List Txt) : Txt := if okArgs xs = true then ordText xs else []
theorem putV_len (xs : List Txt) : (putV xs).length ≤ 800 := by
  unfold putV
  split
  · rename_i h
    obtain ⟨h1, h2, h3⟩ := (okArgs_iff xs).1 h
    have b := bulks_len xs h1
    have d := decV_len xs.length
    simp only [ordText, List.length_cons, List.length_append]
    omega
  · simp
end Go.Proofs.YtjdmiodinhlchaaDoor.Code
/- Orders written by the code under test. -/
namespace Go.Proofs.YtjdmiodinhlchaaDoor.Code
open Go Go.Ev Go.Proofs
set_option maxRecDepth 100000
set_option linter.unusedSimpArgs false
set_option linter.unusedVariables false
theorem dec_itoa (n : Nat) : Lib.decDigits n = decV n := by
  induction n using Nat.strongRecOn with
  | _ n ih =>
    rw [Lib.decDigits, decV]
    split
    · rfl
    · rw [ih (n / 10) (by omega)]
theorem p_48 (n : Nat) (h : n ≤ 9223372036854775807) : pureCall (ev R) 48 [.d (.int .i64 n)] = some (.d (.str (decV n))) := pureCall_eq fun H => by
  have := e_48 H (n : Int) (by omega)
  rwa [Lib.itoa_nonneg, dec_itoa] at this

theorem e_50_8 (H : Hp) (xs : List Txt) (hx : xs.length ≤ 9223372036854775807) : ev R 50 [.d (txts xs), .d (.int .i64 8)] H = some (.d (.bool ((seek (long xs) xs.length 0).isNone && decide (xs.length ≤ 8))), H) := by
  refine ev_fn (fn := f50) rfl rfl ?_
  obtain ⟨e', he, h1, h2⟩ := l_50 (hlen H) xs hx 8 H xs.length 0 [(0, .d (txts xs)), (1, .d (.int .i64 8)), (7, .d (txts xs)), (8, .d (.int .i64 xs.length)), (9, .d (.int .i64 0))] (by omega) rfl rfl rfl rfl rfl
  cases hr : seek (long xs) xs.length 0 with
  | some j =>
    simp only [hr] at he
    simp [-List.getD_eq_getElem?_getD, -List.map_map, evBody, evCode, evOps, evOper, evOp, opd, Env.get, Env.put, Env.keep, zipEnv, V.ok, V.sto, V.cells, D.cells, V.isAgg, binD, binInt, binStr, shInt, unD, eqOf, asI, leave, resOf, mapO, fzV, tupOf, view, view1, isData, hand, flatV, flatD, allD, mkAgg, mkVal, beq_lit, IntKind.bits, htake_self, htake_push, hget_hpush_self, hset_push, rowOf_self, okIn, lowIn, lowIn1, fzC_d, fzC_row, f50, he, h1 j hr, hr]
  | none =>
    simp only [hr] at he
    obtain ⟨h3, h4⟩ := h2 hr
    have q : decide ((xs.length : Int) ≤ 8) = decide (xs.length ≤ 8) := decide_eq_decide.2 (by omega)
    simp [-List.getD_eq_getElem?_getD, -List.map_map, evBody, evCode, evOps, evOper, evOp, opd, Env.get, Env.put, Env.keep, zipEnv, V.ok, V.sto, V.cells, D.cells, V.isAgg, binD, binInt, binStr, shInt, unD, eqOf, asI, leave, resOf, mapO, fzV, tupOf, view, view1, isData, hand, flatV, flatD, allD, mkAgg, mkVal, beq_lit, IntKind.bits, htake_self, htake_push, hget_hpush_self, hset_push, rowOf_self, okIn, lowIn, lowIn1, fzC_d, fzC_row, f50, he, h3, h4, hr, txts, q]
theorem e_29 (H : Hp) (xs : List Txt) (hx : xs.length ≤ 9223372036854775807) : ev R 29 [.d (txts xs)] H = some (.d (.bool (okArgs xs)), H) := by
  refine ev_fn (fn := f29) rfl rfl ?_
  have p := pureCall_eq (cl := ev R) fun H => e_50_8 H xs hx
  unfold okArgs
  by_cases c : 0 < xs.length
  · have c' : (0 : Int) < (xs.length : Int) := by omega
    have c2 : 1 ≤ xs.length := by omega
    simp only [txts] at p
    generalize ((seek (long xs) xs.length 0).isNone) = b at p ⊢
    cases b
    · simp [-List.getD_eq_getElem?_getD, -List.map_map, evBody, evCode, evOps, evOper, evOp, opd, Env.get, Env.put, Env.keep, zipEnv, V.ok, V.sto, V.cells, D.cells, V.isAgg, binD, binInt, binStr, shInt, unD, eqOf, asI, leave, resOf, mapO, fzV, tupOf, view, view1, isData, hand, flatV, flatD, allD, mkAgg, mkVal, beq_lit, IntKind.bits, htake_self, htake_push, hget_hpush_self, hset_push, rowOf_self, okIn, lowIn, lowIn1, fzC_d, fzC_row, f29, txts, p, c, c', c2]
    · simp [-List.getD_eq_getElem?_getD, -List.map_map, evBody, evCode, evOps, evOper, evOp, opd, Env.get, Env.put, Env.keep, zipEnv, V.ok, V.sto, V.cells, D.cells, V.isAgg, binD, binInt, binStr, shInt, unD, eqOf, asI, leave, resOf, mapO, fzV, tupOf, view, view1, isData, hand, flatV, flatD, allD, mkAgg, mkVal, beq_lit, IntKind.bits, htake_self, htake_push, hget_hpush_self, hset_push, rowOf_self, okIn, lowIn, lowIn1, fzC_d, fzC_row, f29, txts, p, c, c', c2]
  · have c' : ¬ (0 : Int) < (xs.length : Int) := by omega
    have c2 : ¬ 1 ≤ xs.length := by omega
    have c3 : xs = [] := List.eq_nil_of_length_eq_zero (by omega)
    subst c3
    simp [-List.getD_eq_getElem?_getD, -List.map_map, evBody, evCode, evOps, evOper, evOp, opd, Env.get, Env.put, Env.keep, zipEnv, V.ok, V.sto, V.cells, D.cells, V.isAgg, binD, binInt, binStr, shInt, unD, eqOf, asI, leave, resOf, mapO, fzV, tupOf, view, view1, isData, hand, flatV, flatD, allD, mkAgg, mkVal, beq_lit, IntKind.bits, htake_self, htake_push, hget_hpush_self, hset_push, rowOf_self, okIn, lowIn, lowIn1, fzC_d, fzC_row, f29, txts, seek]
theorem e_49 (H : Hp) (a : Txt) (ha : a.length ≤ 1000000) : ev R 49 [.d (.str a)] H = some (.d (.str (bulk a)), H) := by
  refine ev_fn (fn := f49) rfl rfl ?_
  have q := p_48 a.length (by omega)
  have dl := decV_len a.length
  have l1 : 1 + (decV a.length).length ≤ strRoom := by unfold strRoom; omega
  have l2 : (decV a.length).length + 1 ≤ strRoom := by unfold strRoom; omega
  have l3 : (decV a.length).length + 1 + 2 ≤ strRoom := by unfold strRoom; omega
  have l4 : (decV a.length).length + 2 + 1 ≤ strRoom := by unfold strRoom; omega
  have l5 : (decV a.length).length + 1 + 2 + a.length ≤ strRoom := by unfold strRoom; omega
  have l6 : (decV a.length).length + 2 + 1 + a.length ≤ strRoom := by unfold strRoom; omega
  have l7 : (decV a.length).length + 1 + 2 + a.length + 2 ≤ strRoom := by unfold strRoom; omega
  have l8 : (decV a.length).length + 2 + 1 + a.length + 2 ≤ strRoom := by unfold strRoom; omega
  have l9 : (decV a.length).length + (a.length + 1 + 1) + 1 ≤ strRoom := by unfold strRoom; omega
  have la : (decV a.length).length + (a.length + 2) + 1 ≤ strRoom := by unfold strRoom; omega
  have lb : (decV a.length).length + (a.length + 1 + 1) + 1 + 2 ≤ strRoom := by unfold strRoom; omega
  have lc : (decV a.length).length + (a.length + 2) + 1 + 2 ≤ strRoom := by unfold strRoom; omega
  unfold bulk
  simp [-List.getD_eq_getElem?_getD, -List.map_map, evBody, evCode, evOps, evOper, evOp, opd, Env.get, Env.put, Env.keep, zipEnv, V.ok, V.sto, V.cells, D.cells, V.isAgg, binD, binInt, binStr, shInt, unD, eqOf, asI, leave, resOf, mapO, fzV, tupOf, view, view1, isData, hand, flatV, flatD, allD, mkAgg, mkVal, beq_lit, IntKind.bits, htake_self, htake_push, hget_hpush_self, hset_push, rowOf_self, okIn, lowIn, lowIn1, fzC_d, fzC_row, f49, q, l1, l2, l3, l4, l5, l6, l7, l8, l9, la, lb, lc]
theorem l_27 (n0 : Nat) (xs : List Txt) (hx : xs.length ≤ 1000) (hs : ∀ x ∈ xs, x.length ≤ 40) (H : Hp) : ∀ (n i : Nat) (out : Txt) (e : Env), i + n = xs.length → out.length + 86 * n ≤ 1000000 → e.get 3 = .d (.str out) → e.get 14 = .d (txts xs) → e.get 15 = .d (.int .i64 xs.length) → e.get 16 = .d (.int .i64 i) →
    ∃ e', evLoop (evCode (ev R) R.glob n0 evLoop f27l0) [3, 14, 15, 16] ⟨e, H⟩ = some (.exit 0, ⟨e', H⟩) ∧ e'.get 3 = .d (.str (out ++ bulks (xs.drop i)))
  | 0, i, out, e, hi, hl, h3, h14, h15, h16 => by
    have c : ¬ (i : Int) < (xs.length : Int) := by omega
    have c' : ¬ i < xs.length := by omega
    rw [List.drop_of_length_le (by omega), bulks, List.append_nil, evLoop_eq]
    refine ⟨?_, ?_, ?_⟩
    rotate_left
    · simp [-List.getD_eq_getElem?_getD, -List.map_map, evBody, evCode, evOps, evOper, evOp, opd, Env.get, Env.put, Env.keep, zipEnv, V.ok, V.sto, V.cells, D.cells, V.isAgg, binD, binInt, binStr, shInt, unD, eqOf, asI, leave, resOf, mapO, fzV, tupOf, view, view1, isData, hand, flatV, flatD, allD, mkAgg, mkVal, beq_lit, IntKind.bits, htake_self, htake_push, hget_hpush_self, hset_push, rowOf_self, okIn, lowIn, lowIn1, fzC_d, fzC_row, f27l0, h3, h14, h15, h16, txts, c, c']
      try rfl
    · simp [-List.getD_eq_getElem?_getD, -List.map_map, evBody, evCode, evOps, evOper, evOp, opd, Env.get, Env.put, Env.keep, zipEnv, V.ok, V.sto, V.cells, D.cells, V.isAgg, binD, binInt, binStr, shInt, unD, eqOf, asI, leave, resOf, mapO, fzV, tupOf, view, view1, isData, hand, flatV, flatD, allD, mkAgg, mkVal, beq_lit, IntKind.bits, htake_self, htake_push, hget_hpush_self, hset_push, rowOf_self, okIn, lowIn, lowIn1, fzC_d, fzC_row, h3]
  | n + 1, i, out, e, hi, hl, h3, h14, h15, h16 => by
    have c' : i < xs.length := by omega
    have c : (i : Int) < (xs.length : Int) := by omega
    have g := txts_get xs i c'
    have w1 : IntKind.i64.wrap ((i : Int) + 1) = ((i + 1 : Nat) : Int) := by rw [IntWalk.i64_in _ (by omega)]; rfl
    have hd : xs.drop i = xs.getD i [] :: xs.drop (i + 1) := by
      rw [List.getD_eq_getElem?_getD, List.getElem?_eq_getElem c']
      exact List.drop_eq_getElem_cons c'
    have hm : (xs.getD i []).length ≤ 40 := by
      rw [List.getD_eq_getElem?_getD, List.getElem?_eq_getElem c']
      exact hs _ (List.getElem_mem c')
    obtain ⟨x, hx'⟩ : ∃ x, xs.getD i [] = x := ⟨_, rfl⟩
    rw [hx'] at g hd hm
    have bl := bulk_len x
    have q : pureCall (ev R) 49 [.d (.str x)] = some (.d (.str (bulk x))) := pureCall_eq fun H => e_49 H x (by omega)
    have l1 : out.length + (bulk x).length ≤ strRoom := by unfold strRoom; omega
    have ih := l_27 n0 xs hx hs H n (i + 1) (out ++ bulk x)
    simp only [List.append_assoc] at ih
    rw [hd, bulks]
    generalize bulk x = b at q l1 ih bl ⊢
    rw [evLoop_eq]
    generalize evLoop (evCode (ev R) R.glob n0 evLoop f27l0) [3, 14, 15, 16] = F at ih ⊢
    simp [-List.getD_eq_getElem?_getD, -List.map_map, evBody, evCode, evOps, evOper, evOp, opd, Env.get, Env.put, Env.keep, zipEnv, V.ok, V.sto, V.cells, D.cells, V.isAgg, binD, binInt, binStr, shInt, unD, eqOf, asI, leave, resOf, mapO, fzV, tupOf, view, view1, isData, hand, flatV, flatD, allD, mkAgg, mkVal, beq_lit, IntKind.bits, htake_self, htake_push, hget_hpush_self, hset_push, rowOf_self, okIn, lowIn, lowIn1, fzC_d, fzC_row, f27l0, h3, h14, h15, h16, txts, c, c', g, w1, q, l1]
    refine ih _ (by omega) (by rw [List.length_append]; omega) ?_ ?_ ?_ ?_ <;> rfl
theorem e_27 (H : Hp) (xs : List Txt) (hx : xs.length ≤ 9223372036854775807) : ev R 27 [.d (txts xs)] H = some (.d (.str (putV xs)), H) := by
  refine ev_fn (fn := f27) rfl rfl ?_
  have q := pureCall_eq (cl := ev R) fun H => e_29 H xs hx
  unfold putV
  cases hok : okArgs xs with
  | false =>
    rw [hok] at q
    simp [-List.getD_eq_getElem?_getD, -List.map_map, evBody, evCode, evOps, evOper, evOp, opd, Env.get, Env.put, Env.keep, zipEnv, V.ok, V.sto, V.cells, D.cells, V.isAgg, binD, binInt, binStr, shInt, unD, eqOf, asI, leave, resOf, mapO, fzV, tupOf, view, view1, isData, hand, flatV, flatD, allD, mkAgg, mkVal, beq_lit, IntKind.bits, htake_self, htake_push, hget_hpush_self, hset_push, rowOf_self, okIn, lowIn, lowIn1, fzC_d, fzC_row, f27, q]
  | true =>
    rw [hok] at q
    obtain ⟨h1, h2, h3⟩ := (okArgs_iff xs).1 hok
    have q2 := p_48 xs.length (by omega)
    have dl := decV_len xs.length
    obtain ⟨e', he, g3⟩ := l_27 (hlen H) xs (by omega) h1 H xs.length 0 (42 :: (decV xs.length ++ [13, 10])) [(3, .d (.str (42 :: (decV xs.length ++ [13, 10])))), (14, .d (txts xs)), (15, .d (.int .i64 xs.length)), (16, .d (.int .i64 0))] (by omega) (by simp; omega) rfl rfl rfl rfl
    have e1 : 42 :: (decV xs.length ++ [13, 10]) ++ bulks (xs.drop 0) = ordText xs := by simp [ordText]
    rw [e1] at g3
    have l1 : 1 + (decV xs.length).length ≤ strRoom := by unfold strRoom; omega
    have l2 : (decV xs.length).length + 1 ≤ strRoom := by unfold strRoom; omega
    have l3 : (decV xs.length).length + 1 + 2 ≤ strRoom := by unfold strRoom; omega
    simp [-List.getD_eq_getElem?_getD, -List.map_map, evBody, evCode, evOps, evOper, evOp, opd, Env.get, Env.put, Env.keep, zipEnv, V.ok, V.sto, V.cells, D.cells, V.isAgg, binD, binInt, binStr, shInt, unD, eqOf, asI, leave, resOf, mapO, fzV, tupOf, view, view1, isData, hand, flatV, flatD, allD, mkAgg, mkVal, beq_lit, IntKind.bits, htake_self, htake_push, hget_hpush_self, hset_push, rowOf_self, okIn, lowIn, lowIn1, fzC_d, fzC_row, f27, txts, q, q2, l1, l2, l3, he, g3]
end Go.Proofs.YtjdmiodinhlchaaDoor.Code
/- What FnExactRecordPut answers. -/
namespace Go.Proofs.YtjdmiodinhlchaaDoor.Code
open Go Go.Ev Go.Proofs
set_option maxRecDepth 100000
set_option linter.unusedSimpArgs false
set_option linter.unusedVariables false
/-- Each list, and each of its texts, as long as a list may be. -/
def Fit (xss : List (List Txt)) : Prop := xss.length ≤ 9223372036854775807 ∧ ∀ i, (xss.getD i []).length ≤ 9223372036854775807 ∧ ∀ j, ((xss.getD i []).getD j []).length ≤ 9223372036854775807
/-- What is left, list by list. -/
def spendS (xss : List (List Txt)) : Nat → Nat → Int → Int
  | 0, _, l => l
  | n + 1, i, l => if leftG (xss.getD i []) l < 0 then -1 else spendS xss n (i + 1) (leftG (xss.getD i []) l)
theorem spendS_in (xss : List (List Txt)) : ∀ (n i : Nat) (l : Int), 0 ≤ spendS xss n i l → l ≤ 1048576 → ∀ j, i ≤ j → j < i + n → ((xss.getD j []).length : Int) ≤ 1048576
  | 0, i, l, h, hl, j, h1, h2 => by omega
  | n + 1, i, l, h, hl, j, h1, h2 => by
    simp only [spendS] at h
    split at h
    · omega
    · rename_i c
      obtain ⟨k1, k2⟩ := leftG_in (xss.getD i []) l (by omega)
      by_cases e : j = i
      · subst e; omega
      · exact spendS_in xss n (i + 1) _ h (by omega) j (by omega) (by omega)
def szV (xss : List (List Txt)) : Int := if 1048576 - (xss.length : Int) < 0 then -1 else (if spendS xss xss.length 0 (1048576 - xss.length) < 0 then -1 else spendS xss xss.length 0 (1048576 - xss.length))
theorem szV_in (xss : List (List Txt)) (h : ¬ szV xss < 0) : xss.length ≤ 1048576 ∧ ∀ i, (xss.getD i []).length ≤ 1048576 := by
  unfold szV at h
  split at h
  · omega
  · split at h
    · omega
    · refine ⟨by omega, fun i => ?_⟩
      by_cases hi : i < xss.length
      · have := spendS_in xss xss.length 0 (1048576 - xss.length) (by omega) (by omega) i (by omega) (by omega)
        omega
      · rw [List.getD_eq_getElem?_getD, List.getElem?_eq_none (by omega)]
        simp
theorem fillD_store (H : Hp) (z : V) (ds : List D) (i : Nat) (x : D) (hi : i < ds.length) (hx : ds.getD i .nilp = x) (hz : z.isAgg = false) (hd : (V.d x).isAgg = false) : hstore (hpush H (.row 0 1 (fillD z ds i))) (hlen H) 0 i 0 [.d x] = some (hpush H (.row 0 1 (fillD z ds (i + 1)))) := by
  have h2 : z.cells = [z] := cells_of_one hz
  have st := fillD_set z ds i hi
  rw [hx] at st
  simp [hstore, rowOf_self, fillD_get z ds i hi, h2, reCell, hz, hd, hset_push, st]
def noOrder (xss : List (List Txt)) (i : Nat) : Bool := !okArgs (xss.getD i [])
/-- Whether all are orders, at most sixty. -/
def okOrders (xss : List (List Txt)) : Bool := (seek (noOrder xss) xss.length 0).isNone && (decide (1 ≤ xss.length) && decide (xss.length ≤ 60))
theorem okOrders_all {xss : List (List Txt)} (h : okOrders xss = true) : (∀ x ∈ xss, okOrder x) ∧ 1 ≤ xss.length ∧ xss.length ≤ 60 := by
  unfold okOrders at h
  simp only [Bool.and_eq_true, decide_eq_true_eq, Option.isNone_iff_eq_none] at h
  obtain ⟨h1, h2, h3⟩ := h
  refine ⟨fun x hx => ?_, h2, h3⟩
  obtain ⟨i, hi, rfl⟩ := List.getElem_of_mem hx
  have := seek_none h1 i (by omega) (by omega)
  simp only [noOrder, Bool.not_eq_false', List.getD_eq_getElem?_getD, List.getElem?_eq_getElem hi, Option.getD_some] at this
  exact (okArgs_iff _).1 this
def ordTexts : List (List Txt) → Txt
  | [] => []
  | x :: r => ordText x ++ ordTexts r
theorem ordText_len (x : List Txt) (h : okOrder x) : (ordText x).length ≤ 800 := by
  have := putV_len x
  unfold putV at this
  rwa [if_pos ((okArgs_iff x).2 h)] at this
theorem decV_len10 : ∀ (k n : Nat), n < 10 ^ (k + 1) → (decV n).length ≤ k + 1
  | 0, n, h => by rw [dec1 (by simpa using h)]; simp
  | k + 1, n, h => by
    rw [decV]
    split
    · simp
    · have := decV_len10 k (n / 10) (by rw [Nat.pow_succ] at h; omega)
      simp only [List.length_append, List.length_singleton]; omega
/-- The head of a record. -/
def recHead (now : Nat) (k : Nat) : List Txt := [[65, 84], decV now, decV k]
theorem recHead_ok (now k : Nat) (h1 : now ≤ 1000000) (h2 : k ≤ 60) : okOrder (recHead now k) := by
  have a := decV_len10 6 now (by omega)
  have b := decV_len10 1 k (by omega)
  refine ⟨fun x hx => ?_, by simp [recHead], by simp [recHead]⟩
  simp only [recHead, List.mem_cons, List.not_mem_nil, or_false] at hx
  rcases hx with rfl | rfl | rfl
  · simp
  · omega
  · omega
theorem l_11 (n0 : Nat) (xss : List (List Txt)) (hx : xss.length ≤ 60) (hs : ∀ x ∈ xss, okOrder x) (H : Hp) : ∀ (n i : Nat) (out : Txt) (e : Env), i + n = xss.length → out.length + 800 * n ≤ 1000000 → e.get 1 = .d (.vals 1 (textss xss)) → e.get 5 = .d (.str out) → e.get 6 = .d (.int .i64 i) →
    ∃ e', evLoop (evCode (ev R) R.glob n0 evLoop f11l0) [1, 5, 6] ⟨e, H⟩ = some (.exit 0, ⟨e', H⟩) ∧ e'.get 5 = .d (.str (out ++ ordTexts (xss.drop i)))
  | 0, i, out, e, hi, hl, h1, h5, h6 => by
    have c : ¬ (i : Int) < ((textss xss).length : Int) := by rw [textss_len]; omega
    rw [List.drop_of_length_le (by omega), ordTexts, List.append_nil, evLoop_eq]
    refine ⟨?_, ?_, ?_⟩
    rotate_left
    · simp [-List.getD_eq_getElem?_getD, -List.map_map, evBody, evCode, evOps, evOper, evOp, opd, Env.get, Env.put, Env.keep, zipEnv, V.ok, V.sto, V.cells, D.cells, V.isAgg, binD, binInt, binStr, shInt, unD, eqOf, asI, leave, resOf, mapO, fzV, tupOf, view, view1, isData, hand, flatV, flatD, allD, mkAgg, mkVal, beq_lit, IntKind.bits, htake_self, htake_push, hget_hpush_self, hset_push, rowOf_self, okIn, lowIn, lowIn1, fzC_d, fzC_row, f11l0, h1, h5, h6, c]
      try rfl
    · simp [-List.getD_eq_getElem?_getD, -List.map_map, evBody, evCode, evOps, evOper, evOp, opd, Env.get, Env.put, Env.keep, zipEnv, V.ok, V.sto, V.cells, D.cells, V.isAgg, binD, binInt, binStr, shInt, unD, eqOf, asI, leave, resOf, mapO, fzV, tupOf, view, view1, isData, hand, flatV, flatD, allD, mkAgg, mkVal, beq_lit, IntKind.bits, htake_self, htake_push, hget_hpush_self, hset_push, rowOf_self, okIn, lowIn, lowIn1, fzC_d, fzC_row, h5]
  | n + 1, i, out, e, hi, hl, h1, h5, h6 => by
    have c' : i < xss.length := by omega
    have c : (i : Int) < ((textss xss).length : Int) := by rw [textss_len]; omega
    have c2' : i < (textss xss).length := by rw [textss_len]; exact c'
    have g := textss_get xss i c'
    have w1 : IntKind.i64.wrap ((i : Int) + 1) = ((i + 1 : Nat) : Int) := by rw [IntWalk.i64_in _ (by omega)]; rfl
    have hd : xss.drop i = xss.getD i [] :: xss.drop (i + 1) := by
      rw [List.getD_eq_getElem?_getD, List.getElem?_eq_getElem c']
      exact List.drop_eq_getElem_cons c'
    have hm : okOrder (xss.getD i []) := by
      rw [List.getD_eq_getElem?_getD, List.getElem?_eq_getElem c']
      exact hs _ (List.getElem_mem c')
    obtain ⟨x, hx'⟩ : ∃ x, xss.getD i [] = x := ⟨_, rfl⟩
    rw [hx'] at g hd hm
    have bl := ordText_len x hm
    have q := pureCall_eq (cl := ev R) fun H => e_21 H x (by have := hm.2.2; omega) hm.1
    have l1 : out.length + (ordText x).length ≤ strRoom := by unfold strRoom; omega
    have ih := l_11 n0 xss hx hs H n (i + 1) (out ++ ordText x)
    simp only [List.append_assoc] at ih
    rw [hd, ordTexts]
    generalize ordText x = b at q l1 ih bl ⊢
    simp only [txts] at g q
    generalize List.map D.str (x) = T at g q
    rw [evLoop_eq]
    generalize evLoop (evCode (ev R) R.glob n0 evLoop f11l0) [1, 5, 6] = F at ih ⊢
    simp [-List.getD_eq_getElem?_getD, -List.map_map, evBody, evCode, evOps, evOper, evOp, opd, Env.get, Env.put, Env.keep, zipEnv, V.ok, V.sto, V.cells, D.cells, V.isAgg, binD, binInt, binStr, shInt, unD, eqOf, asI, leave, resOf, mapO, fzV, tupOf, view, view1, isData, hand, flatV, flatD, allD, mkAgg, mkVal, beq_lit, IntKind.bits, htake_self, htake_push, hget_hpush_self, hset_push, rowOf_self, okIn, lowIn, lowIn1, fzC_d, fzC_row, f11l0, h1, h5, h6, c, c2', g, w1, q, l1]
    refine ih _ (by omega) (by rw [List.length_append]; omega) ?_ ?_ ?_ <;> rfl
theorem e_11 (H : Hp) (now : Nat) (hn : now ≤ 1000000) (xss : List (List Txt)) (hx : xss.length ≤ 60) (hs : ∀ x ∈ xss, okOrder x) : ev R 11 [.d (.int .i64 now), .d (.vals 1 (textss xss))] H = some (.d (.str (ordText (recHead now xss.length) ++ ordTexts xss)), H) := by
  refine ev_fn (fn := f11) rfl rfl ?_
  have q1 : pureCall (ev R) 22 [.d (.int .i64 now)] = some (.d (.str (decV now))) := pureCall_eq fun H => e_22 now H (by omega)
  have q2 : pureCall (ev R) 22 [.d (.int .i64 xss.length)] = some (.d (.str (decV xss.length))) := pureCall_eq fun H => e_22 xss.length H (by omega)
  have hok := recHead_ok now xss.length hn hx
  have q3 := pureCall_eq (cl := ev R) fun H => e_21 H (recHead now xss.length) (by simp [recHead]) hok.1
  simp only [recHead, txts, List.map_cons, List.map_nil] at q3
  have hl := ordText_len _ hok
  obtain ⟨e', he, h5⟩ := l_11 (hlen H) xss hx hs H xss.length 0 (ordText (recHead now xss.length)) [(1, .d (.vals 1 (textss xss))), (5, .d (.str (ordText (recHead now xss.length)))), (6, .d (.int .i64 0))] (by omega) (by omega) rfl rfl rfl
  rw [List.drop_zero] at h5
  have e : recHead now xss.length = [[65, 84], decV now, decV xss.length] := rfl
  rw [← e] at q3
  have tl := textss_len xss
  generalize ordText (recHead now xss.length) = hd at *
  simp [-List.getD_eq_getElem?_getD, -List.map_map, evBody, evCode, evOps, evOper, evOp, opd, Env.get, Env.put, Env.keep, zipEnv, V.ok, V.sto, V.cells, D.cells, V.isAgg, binD, binInt, binStr, shInt, unD, eqOf, asI, leave, resOf, mapO, fzV, tupOf, view, view1, isData, hand, flatV, flatD, allD, mkAgg, mkVal, beq_lit, IntKind.bits, htake_self, htake_push, hget_hpush_self, hset_push, rowOf_self, okIn, lowIn, lowIn1, fzC_d, fzC_row, f11, q1, q2, q3, tl, he, h5]
/-- A record written out. -/
def recV (now : Int) (xss : List (List Txt)) : Txt := if 0 ≤ now ∧ now ≤ 1000000 ∧ okOrders xss = true then ordText (recHead now.toNat xss.length) ++ ordTexts xss else []
theorem l_15 (n0 : Nat) (xss : List (List Txt)) (hx : xss.length ≤ 60) (hs : ∀ i, (xss.getD i []).length ≤ 1048576) (H : Hp) : ∀ (n i : Nat) (out : Txt) (e : Env), i + n = xss.length → out.length + 800 * n ≤ 1000000 → e.get 5 = .d (.str out) → e.get 24 = .d (.vals 1 (textss xss)) → e.get 25 = .d (.int .i64 xss.length) → e.get 26 = .d (.int .i64 i) →
    ∃ e', evLoop (evCode (ev R) R.glob n0 evLoop f15l0) [5, 24, 25, 26] ⟨e, H⟩ = some ((match seek (noOrder xss) n i with | some _ => .ret | none => .exit 0), ⟨e', H⟩) ∧
      (∀ j, seek (noOrder xss) n i = some j → e'.get 4 = .d (.str [])) ∧ (seek (noOrder xss) n i = none → e'.get 5 = .d (.str (out ++ ordTexts (xss.drop i))))
  | 0, i, out, e, hi, hl, h5, h24, h25, h26 => by
    have c : ¬ (i : Int) < (xss.length : Int) := by omega
    rw [List.drop_of_length_le (by omega), ordTexts, List.append_nil, evLoop_eq]
    refine ⟨?_, ?_, ?_, ?_⟩
    rotate_left
    · simp [-List.getD_eq_getElem?_getD, -List.map_map, evBody, evCode, evOps, evOper, evOp, opd, Env.get, Env.put, Env.keep, zipEnv, V.ok, V.sto, V.cells, D.cells, V.isAgg, binD, binInt, binStr, shInt, unD, eqOf, asI, leave, resOf, mapO, fzV, tupOf, view, view1, isData, hand, flatV, flatD, allD, mkAgg, mkVal, beq_lit, IntKind.bits, htake_self, htake_push, hget_hpush_self, hset_push, rowOf_self, okIn, lowIn, lowIn1, fzC_d, fzC_row, f15l0, h5, h24, h25, h26, c, seek]
      try rfl
    · intro j hj; simp [seek] at hj
    · intro _; simp [-List.getD_eq_getElem?_getD, -List.map_map, evBody, evCode, evOps, evOper, evOp, opd, Env.get, Env.put, Env.keep, zipEnv, V.ok, V.sto, V.cells, D.cells, V.isAgg, binD, binInt, binStr, shInt, unD, eqOf, asI, leave, resOf, mapO, fzV, tupOf, view, view1, isData, hand, flatV, flatD, allD, mkAgg, mkVal, beq_lit, IntKind.bits, htake_self, htake_push, hget_hpush_self, hset_push, rowOf_self, okIn, lowIn, lowIn1, fzC_d, fzC_row, h5]
  | n + 1, i, out, e, hi, hl, h5, h24, h25, h26 => by
    have c' : i < xss.length := by omega
    have c0 : (i : Int) < (xss.length : Int) := by omega
    have c : (i : Int) < ((textss xss).length : Int) := by rw [textss_len]; omega
    have c2' : i < (textss xss).length := by rw [textss_len]; exact c'
    have g := textss_get xss i c'
    have hsi := hs i
    have w1 : IntKind.i64.wrap ((i : Int) + 1) = ((i + 1 : Nat) : Int) := by rw [IntWalk.i64_in _ (by omega)]; rfl
    have hd : xss.drop i = xss.getD i [] :: xss.drop (i + 1) := by
      rw [List.getD_eq_getElem?_getD, List.getElem?_eq_getElem c']
      exact List.drop_eq_getElem_cons c'
    have sk : seek (noOrder xss) (n + 1) i = (if okArgs (xss.getD i []) = false then some i else seek (noOrder xss) n (i + 1)) := by
      simp only [seek, noOrder, Bool.not_eq_true']
    rw [sk, hd, ordTexts]
    obtain ⟨x, hx'⟩ : ∃ x, xss.getD i [] = x := ⟨_, rfl⟩
    rw [hx'] at g hsi ⊢
    have q := pureCall_eq (cl := ev R) fun H => e_29 H x (by omega)
    have q2 := pureCall_eq (cl := ev R) fun H => e_27 H x (by omega)
    cases hok : okArgs x with
    | false =>
      rw [hok] at q
      rw [evLoop_eq]
      simp only [if_true]
      refine ⟨?_, ?_, ?_, ?_⟩
      rotate_left
      · simp [-List.getD_eq_getElem?_getD, -List.map_map, evBody, evCode, evOps, evOper, evOp, opd, Env.get, Env.put, Env.keep, zipEnv, V.ok, V.sto, V.cells, D.cells, V.isAgg, binD, binInt, binStr, shInt, unD, eqOf, asI, leave, resOf, mapO, fzV, tupOf, view, view1, isData, hand, flatV, flatD, allD, mkAgg, mkVal, beq_lit, IntKind.bits, htake_self, htake_push, hget_hpush_self, hset_push, rowOf_self, okIn, lowIn, lowIn1, fzC_d, fzC_row, f15l0, h5, h24, h25, h26, c, c0, c2', g, q]
        try rfl
      · intro j hj; simp [-List.getD_eq_getElem?_getD, -List.map_map, evBody, evCode, evOps, evOper, evOp, opd, Env.get, Env.put, Env.keep, zipEnv, V.ok, V.sto, V.cells, D.cells, V.isAgg, binD, binInt, binStr, shInt, unD, eqOf, asI, leave, resOf, mapO, fzV, tupOf, view, view1, isData, hand, flatV, flatD, allD, mkAgg, mkVal, beq_lit, IntKind.bits, htake_self, htake_push, hget_hpush_self, hset_push, rowOf_self, okIn, lowIn, lowIn1, fzC_d, fzC_row]
      · intro hj; simp at hj
    | true =>
      rw [hok] at q
      have hm := (okArgs_iff x).1 hok
      have bl := ordText_len x hm
      have e1 : putV x = ordText x := by unfold putV; rw [if_pos hok]
      rw [e1] at q2
      have l1 : out.length + (ordText x).length ≤ strRoom := by unfold strRoom; omega
      have ih := l_15 n0 xss hx hs H n (i + 1) (out ++ ordText x)
      simp only [List.append_assoc] at ih
      simp only [Bool.true_eq_false, if_false]
      generalize ordText x = b at q2 l1 ih bl ⊢
      simp only [txts] at g q q2
      generalize List.map D.str (x) = T at g q q2
      generalize seek (noOrder xss) n (i + 1) = S at ih ⊢
      rw [evLoop_eq]
      generalize evLoop (evCode (ev R) R.glob n0 evLoop f15l0) [5, 24, 25, 26] = F at ih ⊢
      simp [-List.getD_eq_getElem?_getD, -List.map_map, evBody, evCode, evOps, evOper, evOp, opd, Env.get, Env.put, Env.keep, zipEnv, V.ok, V.sto, V.cells, D.cells, V.isAgg, binD, binInt, binStr, shInt, unD, eqOf, asI, leave, resOf, mapO, fzV, tupOf, view, view1, isData, hand, flatV, flatD, allD, mkAgg, mkVal, beq_lit, IntKind.bits, htake_self, htake_push, hget_hpush_self, hset_push, rowOf_self, okIn, lowIn, lowIn1, fzC_d, fzC_row, f15l0, h5, h24, h25, h26, c, c0, c2', g, w1, q, q2, l1]
      refine ih _ (by omega) (by rw [List.length_append]; omega) ?_ ?_ ?_ ?_ <;> rfl
theorem e_15 (H : Hp) (now : Int) (hw : -9223372036854775808 ≤ now ∧ now ≤ 9223372036854775807) (xss : List (List Txt)) (hx : xss.length ≤ 1048576) (hs : ∀ i, (xss.getD i []).length ≤ 1048576) : ev R 15 [.d (.int .i64 now), .d (.vals 1 (textss xss))] H = some (.d (.str (recV now xss)), H) := by
  refine ev_fn (fn := f15) rfl rfl ?_
  have p := p_25 now 0 1000000
  have p2 := p_25 (xss.length : Int) 1 60
  have tl := textss_len xss
  unfold recV
  by_cases h1 : 0 ≤ now
  · by_cases h2 : now ≤ 1000000
    · by_cases h3 : 1 ≤ xss.length
      · by_cases h4 : xss.length ≤ 60
        · obtain ⟨m, rfl⟩ := Int.eq_ofNat_of_zero_le h1
          have h3' : (1 : Int) ≤ (xss.length : Int) := by omega
          have h4' : (xss.length : Int) ≤ 60 := by omega
          have h2' : m ≤ 1000000 := by omega
          have q1 : pureCall (ev R) 28 [.d (.int .i64 m)] = some (.d (.str (decV m))) := pureCall_eq fun H => by
            refine ev_fn (fn := f28) rfl rfl ?_
            have := p_48 m (by omega)
            simp [-List.getD_eq_getElem?_getD, -List.map_map, evBody, evCode, evOps, evOper, evOp, opd, Env.get, Env.put, Env.keep, zipEnv, V.ok, V.sto, V.cells, D.cells, V.isAgg, binD, binInt, binStr, shInt, unD, eqOf, asI, leave, resOf, mapO, fzV, tupOf, view, view1, isData, hand, flatV, flatD, allD, mkAgg, mkVal, beq_lit, IntKind.bits, htake_self, htake_push, hget_hpush_self, hset_push, rowOf_self, okIn, lowIn, lowIn1, fzC_d, fzC_row, f28, this]
          have q2 : pureCall (ev R) 28 [.d (.int .i64 xss.length)] = some (.d (.str (decV xss.length))) := pureCall_eq fun H => by
            refine ev_fn (fn := f28) rfl rfl ?_
            have := p_48 xss.length (by omega)
            simp [-List.getD_eq_getElem?_getD, -List.map_map, evBody, evCode, evOps, evOper, evOp, opd, Env.get, Env.put, Env.keep, zipEnv, V.ok, V.sto, V.cells, D.cells, V.isAgg, binD, binInt, binStr, shInt, unD, eqOf, asI, leave, resOf, mapO, fzV, tupOf, view, view1, isData, hand, flatV, flatD, allD, mkAgg, mkVal, beq_lit, IntKind.bits, htake_self, htake_push, hget_hpush_self, hset_push, rowOf_self, okIn, lowIn, lowIn1, fzC_d, fzC_row, f28, this]
          have hok := recHead_ok m xss.length h2' h4
          have q3 := pureCall_eq (cl := ev R) fun H => e_27 H (recHead m xss.length) (by simp [recHead])
          have e1 : putV (recHead m xss.length) = ordText (recHead m xss.length) := by unfold putV; rw [if_pos ((okArgs_iff _).2 hok)]
          rw [e1] at q3
          simp only [recHead, txts, List.map_cons, List.map_nil] at q3
          have hl := ordText_len _ hok
          obtain ⟨e', he, g1, g2⟩ := l_15 (hlen H) xss h4 hs H xss.length 0 (ordText (recHead m xss.length)) [(5, .d (.str (ordText (recHead m xss.length)))), (24, .d (.vals 1 (textss xss))), (25, .d (.int .i64 xss.length)), (26, .d (.int .i64 0))] (by omega) (by omega) rfl rfl rfl rfl
          rw [List.drop_zero] at g2
          have e : recHead m xss.length = [[65, 84], decV m, decV xss.length] := rfl
          rw [← e] at q3
          have oo : okOrders xss = (seek (noOrder xss) xss.length 0).isNone := by
            unfold okOrders
            simp [h3, h4]
          rw [oo]
          simp only [Int.toNat_natCast]
          generalize ordText (recHead m xss.length) = hd at *
          cases hr : seek (noOrder xss) xss.length 0 with
          | some j =>
            simp only [hr] at he
            simp [-List.getD_eq_getElem?_getD, -List.map_map, evBody, evCode, evOps, evOper, evOp, opd, Env.get, Env.put, Env.keep, zipEnv, V.ok, V.sto, V.cells, D.cells, V.isAgg, binD, binInt, binStr, shInt, unD, eqOf, asI, leave, resOf, mapO, fzV, tupOf, view, view1, isData, hand, flatV, flatD, allD, mkAgg, mkVal, beq_lit, IntKind.bits, htake_self, htake_push, hget_hpush_self, hset_push, rowOf_self, okIn, lowIn, lowIn1, fzC_d, fzC_row, f15, p, p2, tl, h1, h2, h3', h4', q1, q2, q3, he, g1 j hr]
          | none =>
            simp only [hr] at he
            simp [-List.getD_eq_getElem?_getD, -List.map_map, evBody, evCode, evOps, evOper, evOp, opd, Env.get, Env.put, Env.keep, zipEnv, V.ok, V.sto, V.cells, D.cells, V.isAgg, binD, binInt, binStr, shInt, unD, eqOf, asI, leave, resOf, mapO, fzV, tupOf, view, view1, isData, hand, flatV, flatD, allD, mkAgg, mkVal, beq_lit, IntKind.bits, htake_self, htake_push, hget_hpush_self, hset_push, rowOf_self, okIn, lowIn, lowIn1, fzC_d, fzC_row, f15, p, p2, tl, h1, h2, h2', h3', h4', q1, q2, q3, he, g2 hr]
        · have h4' : ¬ (xss.length : Int) ≤ 60 := by omega
          have h3' : (1 : Int) ≤ (xss.length : Int) := by omega
          have oo : okOrders xss = false := by unfold okOrders; simp [h4]
          simp [-List.getD_eq_getElem?_getD, -List.map_map, evBody, evCode, evOps, evOper, evOp, opd, Env.get, Env.put, Env.keep, zipEnv, V.ok, V.sto, V.cells, D.cells, V.isAgg, binD, binInt, binStr, shInt, unD, eqOf, asI, leave, resOf, mapO, fzV, tupOf, view, view1, isData, hand, flatV, flatD, allD, mkAgg, mkVal, beq_lit, IntKind.bits, htake_self, htake_push, hget_hpush_self, hset_push, rowOf_self, okIn, lowIn, lowIn1, fzC_d, fzC_row, f15, p, p2, tl, h1, h2, h3', h4', oo]
      · have h3' : ¬ (1 : Int) ≤ (xss.length : Int) := by omega
        have oo : okOrders xss = false := by unfold okOrders; simp [h3]
        simp [-List.getD_eq_getElem?_getD, -List.map_map, evBody, evCode, evOps, evOper, evOp, opd, Env.get, Env.put, Env.keep, zipEnv, V.ok, V.sto, V.cells, D.cells, V.isAgg, binD, binInt, binStr, shInt, unD, eqOf, asI, leave, resOf, mapO, fzV, tupOf, view, view1, isData, hand, flatV, flatD, allD, mkAgg, mkVal, beq_lit, IntKind.bits, htake_self, htake_push, hget_hpush_self, hset_push, rowOf_self, okIn, lowIn, lowIn1, fzC_d, fzC_row, f15, p, p2, tl, h1, h2, h3', oo]
    · simp [-List.getD_eq_getElem?_getD, -List.map_map, evBody, evCode, evOps, evOper, evOp, opd, Env.get, Env.put, Env.keep, zipEnv, V.ok, V.sto, V.cells, D.cells, V.isAgg, binD, binInt, binStr, shInt, unD, eqOf, asI, leave, resOf, mapO, fzV, tupOf, view, view1, isData, hand, flatV, flatD, allD, mkAgg, mkVal, beq_lit, IntKind.bits, htake_self, htake_push, hget_hpush_self, hset_push, rowOf_self, okIn, lowIn, lowIn1, fzC_d, fzC_row, f15, p, h1, h2]
  · simp [-List.getD_eq_getElem?_getD, -List.map_map, evBody, evCode, evOps, evOper, evOp, opd, Env.get, Env.put, Env.keep, zipEnv, V.ok, V.sto, V.cells, D.cells, V.isAgg, binD, binInt, binStr, shInt, unD, eqOf, asI, leave, resOf, mapO, fzV, tupOf, view, view1, isData, hand, flatV, flatD, allD, mkAgg, mkVal, beq_lit, IntKind.bits, htake_self, htake_push, hget_hpush_self, hset_push, rowOf_self, okIn, lowIn, lowIn1, fzC_d, fzC_row, f15, p, h1]
end Go.Proofs.YtjdmiodinhlchaaDoor.Code
/- Files written anew: the reference and the code under test. -/
namespace Go.Proofs.YtjdmiodinhlchaaDoor.Code
open Go Go.Ev Go.Proofs
set_option maxRecDepth 100000
set_option maxHeartbeats 1000000
set_option linter.unusedSimpArgs false
set_option linter.unusedVariables false
theorem okTexts_len {xs : List Txt} (h : okTexts xs = true) : ∀ x ∈ xs, x.length ≤ 40 := by
  unfold okTexts at h
  rw [Bool.and_eq_true, Option.isNone_iff_eq_none] at h
  intro x hx
  obtain ⟨i, hi, rfl⟩ := List.getElem_of_mem hx
  have := seek_none h.1 i (by omega) (by omega)
  unfold long at this
  simpa [List.getD_eq_getElem?_getD, hi] using this
theorem chunks_ok (w k : Txt) (xs : List Txt) (hw : w.length ≤ 40) (hk : k.length ≤ 40) (hx : ∀ x ∈ xs, x.length ≤ 40) : ∀ (f i : Nat), ∀ x ∈ chunks w k xs f i, okOrder x
  | 0, _, x, h => by simp [chunks] at h
  | f + 1, i, x, h => by
    rw [chunks] at h
    split at h
    · rcases List.mem_cons.1 h with rfl | h
      · refine ⟨fun y hy => ?_, by simp, by simp; omega⟩
        rcases List.mem_cons.1 hy with rfl | hy
        · exact hw
        · rcases List.mem_cons.1 hy with rfl | hy
          · exact hk
          · exact hx y (List.mem_of_mem_take (List.mem_of_mem_drop hy))
      · exact chunks_ok w k xs hw hk hx f (i + 6) x h
    · simp at h
theorem chunks_pos (w k : Txt) (xs : List Txt) (h : xs ≠ []) : 1 ≤ (chunks w k xs xs.length 0).length := by
  cases xs with
  | nil => exact absurd rfl h
  | cons x r => simp [chunks]
theorem decZ_len40 (z : Int) (h : -1000000000 ≤ z ∧ z ≤ 1000000000) : (decZ z).length ≤ 40 := by
  unfold decZ
  split
  · rw [List.length_cons]
    have := decV_len10 11 z.natAbs (by omega)
    omega
  · have := decV_len10 11 z.toNat (by omega)
    omega
theorem make_ok {e : En} (h : enOk e = true) : 1 ≤ (makeV e).length ∧ (makeV e).length ≤ 17 ∧ ∀ x ∈ makeV e, okOrder x := by
  obtain ⟨h1, h2, h3⟩ := enOk_small h
  have hc := enOk_cf h (by omega)
  obtain ⟨⟨c1, c2, c3, c4, c5, c6⟩, _⟩ := hc
  have em : ∀ {α : Type} {l : List α}, (!l.isEmpty) = true → l ≠ [] := fun {α l} h => by cases l <;> simp_all
  have hu := h
  unfold enOk keyV at hu
  simp only [Bool.and_eq_true, decide_eq_true_eq] at hu
  obtain ⟨⟨⟨k1, k2⟩, _⟩, kd⟩ := hu
  have kl : e.key.length ≤ 40 := by omega
  have okd : ∀ z : Int, -1000000000 ≤ z ∧ z ≤ 1000000000 → (decZ z).length ≤ 40 := decZ_len40
  have hb : 1 ≤ (bodyV e).length ∧ (bodyV e).length ≤ 16 ∧ ∀ x ∈ bodyV e, okOrder x := by
    unfold bodyV
    unfold kindV at kd
    split at kd
    · rename_i k
      rw [if_pos k]
      simp only [Bool.and_eq_true, decide_eq_true_eq] at kd
      refine ⟨by simp, by simp, fun x hx => ?_⟩
      simp only [List.mem_singleton] at hx
      subst hx
      refine ⟨fun y hy => ?_, by simp, by simp⟩
      simp only [List.mem_cons, List.not_mem_nil, or_false] at hy
      rcases hy with rfl | rfl | rfl
      · simp
      · exact kl
      · exact kd.1.1.1
    · rename_i n1
      split at kd
      · rename_i k
        rw [if_neg n1, if_pos k]
        simp only [Bool.and_eq_true] at kd
        exact ⟨chunks_pos _ _ _ (em kd.1.1.1.2), Nat.le_trans (chunks_len _ _ _ _ _) h1, chunks_ok _ _ _ (by simp) kl (okTexts_len kd.1.1.2) _ _⟩
      · rename_i n2
        split at kd
        · rename_i k
          rw [if_neg n1, if_neg n2, if_pos k]
          simp only [Bool.and_eq_true, setV] at kd
          exact ⟨chunks_pos _ _ _ (em kd.1.1.1.2), Nat.le_trans (chunks_len _ _ _ _ _) h1, chunks_ok _ _ _ (by simp) kl (okTexts_len kd.1.1.2.2) _ _⟩
        · rename_i n3
          split at kd
          · rename_i k
            rw [if_neg n1, if_neg n2, if_neg n3, if_pos k]
            simp only [Bool.and_eq_true, scoresV] at kd
            have hne := em kd.1.1.2
            refine ⟨by rw [List.length_map]; cases hs : e.scores with | nil => exact absurd hs hne | cons a r => simp, by simpa using h2, fun x hx => ?_⟩
            obtain ⟨y, hy, rfl⟩ := List.mem_map.1 hx
            obtain ⟨i, hi, rfl⟩ := List.getElem_of_mem hy
            have hb := anyF_false (by simpa using kd.1.2.1) i (by omega) (by omega)
            have ci := c2 i hi
            have ge : e.scores.getD i ([], 0) = e.scores[i] := by simp [List.getD_eq_getElem?_getD, hi]
            unfold badSc at hb
            simp only [Bool.or_eq_false_iff] at hb
            have hl := hb.1.1.1
            rw [ge] at hl ci
            refine ⟨fun z hz => ?_, by simp [zadd], by simp [zadd]⟩
            simp only [zadd, List.mem_cons, List.not_mem_nil, or_false] at hz
            rcases hz with rfl | rfl | rfl | rfl
            · simp
            · exact kl
            · exact okd _ ci
            · have := of_decide_eq_false hl; omega
          · rename_i n4
            split at kd
            · rename_i k
              rw [if_neg n1, if_neg n2, if_neg n3, if_neg n4, if_pos k]
              simp only [Bool.and_eq_true, fieldsV] at kd
              have hne := em kd.1.2
              refine ⟨by rw [List.length_map]; cases hs : e.fields with | nil => exact absurd hs hne | cons a r => simp, by simpa using h3, fun x hx => ?_⟩
              obtain ⟨y, hy, rfl⟩ := List.mem_map.1 hx
              obtain ⟨i, hi, rfl⟩ := List.getElem_of_mem hy
              have hb := anyF_false (by simpa using kd.2.1) i (by omega) (by omega)
              have ge : e.fields.getD i ([], []) = e.fields[i] := by simp [List.getD_eq_getElem?_getD, hi]
              unfold badPr at hb
              simp only [Bool.or_eq_false_iff] at hb
              rw [ge] at hb
              refine ⟨fun z hz => ?_, by simp [hsetV], by simp [hsetV]⟩
              simp only [hsetV, List.mem_cons, List.not_mem_nil, or_false] at hz
              rcases hz with rfl | rfl | rfl | rfl
              · simp
              · exact kl
              · have := of_decide_eq_false hb.1.1; omega
              · have := of_decide_eq_false hb.1.2; omega
            · simp at kd
  have ht : (tillO e).length ≤ 1 ∧ ∀ x ∈ tillO e, okOrder x := by
    unfold tillO
    split
    · simp
    · refine ⟨by simp, fun x hx => ?_⟩
      simp only [List.mem_singleton] at hx
      subst hx
      refine ⟨fun y hy => ?_, by simp, by simp⟩
      simp only [List.mem_cons, List.not_mem_nil, or_false] at hy
      rcases hy with rfl | rfl | rfl
      · simp
      · exact kl
      · exact okd _ (by omega)
  unfold makeV
  refine ⟨by rw [List.length_append]; omega, by rw [List.length_append]; omega, fun x hx => ?_⟩
  rcases List.mem_append.1 hx with hx | hx
  · exact hb.2.2 x hx
  · exact ht.2 x hx
/-- A record, and the records of entries. -/
def recT (now : Nat) (xss : List (List Txt)) : Txt := ordText (recHead now xss.length) ++ ordTexts xss
def recs (now : Nat) (es : List En) : Txt := (es.map fun e => recT now (makeV e)).flatten
theorem recs_snoc (now : Nat) (es : List En) (e : En) : recs now (es ++ [e]) = recs now es ++ recT now (makeV e) := by simp [recs]
theorem ordTexts_len : ∀ (xss : List (List Txt)), (∀ x ∈ xss, okOrder x) → (ordTexts xss).length ≤ 800 * xss.length
  | [], _ => by simp [ordTexts]
  | x :: r, h => by
    have h1 := ordText_len x (h x (by simp))
    have h2 := ordTexts_len r fun y hy => h y (by simp [hy])
    simp only [ordTexts, List.length_append, List.length_cons]
    omega
theorem recT_len (now : Nat) (hn : now ≤ 1000000) (xss : List (List Txt)) (h1 : xss.length ≤ 60) (h : ∀ x ∈ xss, okOrder x) : 1 ≤ (recT now xss).length ∧ (recT now xss).length ≤ 800 * (xss.length + 1) := by
  have a := ordTexts_len xss h
  have b := ordText_len _ (recHead_ok now xss.length hn h1)
  unfold recT
  rw [List.length_append]
  refine ⟨?_, by omega⟩
  have : 1 ≤ (ordText (recHead now xss.length)).length := by simp [ordText]
  omega
theorem recs_len (now : Nat) (hn : now ≤ 1000000) : ∀ (es : List En), (∀ e ∈ es, enOk e = true) → es.length ≤ (recs now es).length ∧ (recs now es).length ≤ 14400 * es.length
  | [], _ => by simp [recs]
  | e :: r, h => by
    obtain ⟨m1, m2, m3⟩ := make_ok (h e (by simp))
    obtain ⟨a1, a2⟩ := recT_len now hn (makeV e) (by omega) m3
    obtain ⟨b1, b2⟩ := recs_len now hn r fun y hy => h y (by simp [hy])
    simp only [recs, List.map_cons, List.flatten_cons, List.length_append, List.length_cons] at *
    omega
theorem okOrders_of {xss : List (List Txt)} (h1 : 1 ≤ xss.length) (h2 : xss.length ≤ 60) (h : ∀ x ∈ xss, okOrder x) : okOrders xss = true := by
  unfold okOrders
  rw [Bool.and_eq_true, Bool.and_eq_true, decide_eq_true_eq, decide_eq_true_eq, Option.isNone_iff_eq_none]
  refine ⟨?_, h1, h2⟩
  cases hs : seek (noOrder xss) xss.length 0 with
  | none => rfl
  | some j =>
    exfalso
    obtain ⟨_, k2, k3, _⟩ := seek_some hs
    unfold noOrder at k3
    have hj : j < xss.length := by omega
    have : okArgs (xss.getD j []) = true := (okArgs_iff _).2 (h _ (getD_in hj))
    rw [this] at k3
    simp at k3
theorem recV_is (now : Nat) (hn : now ≤ 1000000) {xss : List (List Txt)} (h1 : 1 ≤ xss.length) (h2 : xss.length ≤ 60) (h : ∀ x ∈ xss, okOrder x) : recV now xss = recT now xss := by
  unfold recV recT
  rw [if_pos ⟨by omega, by omega, okOrders_of h1 h2 h⟩]
  rfl
/-- What an order that does nothing is. -/
def sizeO : List (List Txt) := [[[68, 66, 83, 73, 90, 69]]]
theorem sizeO_ok : ∀ x ∈ sizeO, okOrder x := by
  intro x hx
  simp only [sizeO, List.mem_singleton] at hx
  subst hx
  exact ⟨by simp, by simp, by simp⟩
/-- The file of a base. -/
def fileV (b : Ba) : Txt := if baseOk b = true then (if b.ents.length = 0 then recT b.now.toNat sizeO else recs b.now.toNat b.ents) else []
theorem baseOk_in {b : Ba} (h : baseOk b = true) : 0 ≤ b.now ∧ b.now ≤ 1000000 ∧ b.ents.length ≤ 12 ∧ ∀ e ∈ b.ents, enOk e = true := by
  unfold baseOk at h
  simp only [Bool.and_eq_true, Bool.not_eq_true', decide_eq_true_eq] at h
  refine ⟨h.2.1.1, h.2.1.2, h.2.2, fun e he => ?_⟩
  obtain ⟨i, hi, rfl⟩ := List.getElem_of_mem he
  have hb := anyF_false h.1 i (by omega) (by omega)
  unfold badEn badE at hb
  simp only [Bool.or_eq_false_iff, Bool.not_eq_false'] at hb
  have := hb.1.1
  simpa [List.getD_eq_getElem?_getD, hi] using this
theorem sizeO_D : D.vals 1 [D.vals 1 [D.str [68, 66, 83, 73, 90, 69]]] = .vals 1 (textss sizeO) := rfl
theorem take_snoc {α : Type} (xs : List α) (i : Nat) (d : α) (h : i < xs.length) : xs.take (i + 1) = xs.take i ++ [xs.getD i d] := by
  rw [List.take_add_one]
  simp [List.getD_eq_getElem?_getD, h]
theorem p_5 (b : Ba) (hf : BaFit b) : pureCall (ev R) 5 [.d (baD b)] = some (.d (.str (fileV b))) := pureCall_eq fun H => by
  refine ev_fn (fn := f5) rfl rfl ?_
  have p0 := p_10 b hf
  unfold fileV
  by_cases hk : baseOk b = true
  · rw [if_pos hk]
    rw [hk] at p0
    obtain ⟨b1, b2, b3, b4⟩ := baseOk_in hk
    obtain ⟨now, hnow⟩ : ∃ n : Nat, (n : Int) = b.now := ⟨b.now.toNat, by omega⟩
    have hn : now ≤ 1000000 := by omega
    have en : b.now.toNat = now := by omega
    rw [en]
    have pz := pureCall_eq (cl := ev R) fun H => e_11 H now hn sizeO (by simp [sizeO]) sizeO_ok
    rw [hnow, ← sizeO_D] at pz
    obtain ⟨o, e1, X1, he, rfl, rfl, g3, g1⟩ := (loop_keep (F := evCode (ev R) R.glob (hlen H) evLoop f5l0) (lv := [1, 3, 4]) b.ents.length
      (fun i e X => X = ap H [.row 0 2 [.d (baD b)]] ∧ e.get 1 = .ptr (hlen H) 0 0 0 ∧ e.get 3 = .d (.str (recs now (b.ents.take i))) ∧ e.get 4 = .d (.int .i64 i))
      (fun o e X => o = .exit 0 ∧ X = ap H [.row 0 2 [.d (baD b)]] ∧ e.get 3 = .d (.str (recs now b.ents)) ∧ e.get 1 = .ptr (hlen H) 0 0 0)
      (by
        rintro e X ⟨rfl, g1, g3, g4⟩
        rw [List.take_length] at g3
        simp [-List.getD_eq_getElem?_getD, -List.map_map, evBody, evCode, evOps, evOper, evOp, opd, Env.get, Env.put, Env.keep, zipEnv, V.ok, V.sto, binD, binInt, binStr, shInt, unD, eqOf, asI, leave, resOf, mapO, fzV, tupOf, view, view1, isData, hand, flatV, flatD, allD, mkAgg, mkVal, beq_lit, IntKind.bits, okIn, lowIn, lowIn1, lowT, fzC_d, ap0, ap_get, ap_get0, ap_set, ap_set0, ap_len, ap_take, ap_takeN, ap_nlt, ap_nlt0, ap_blt, ap_blt0, ap_bltR, ap_blt00, ap_ble, ap_ble0, ap_bleN, ap_bleR, rowOf, hload, hstore, hget, hset, reCell, src, allD_d', allD_app, ap_fzC, hand1, frzE, List.singleton_append, List.nil_append, List.cons_append, ap_ap, vc_agg, vc_dagg, va_agg, va_dagg, dc_agg, vc_str, va_str, dc_str, vc_int, va_int, dc_int, vc_bool, va_bool, dc_bool, vc_vals, va_vals, dc_vals, vc_nilp, va_nilp, dc_nilp, vc_rptr, va_rptr, dc_rptr, vc_fnd, va_fnd, dc_fnd, vc_nilfn, va_nilfn, dc_nilfn, vc_iface, va_iface, dc_iface, vc_niface, va_niface, dc_niface, vc_mval, va_mval, dc_mval, vc_slc, va_slc, vc_ptr, va_ptr, vc_fnv, va_fnv, vc_mref, va_mref, vc_nils, va_nils, vc_und, va_und, scD_cells, scD_vcells, scD_agg, scD_fold, prD_cells, prD_vcells, prD_agg, prD_fold, enD_cells, enD_vcells, enD_agg, enD_fold, baD_cells, baD_vcells, baD_agg, baD_fold, htake_self, gives_some, Round, Fin2, step_normal, step_exit, step_ret, fzC_ap, fzC_ap0, mapO_fz_app, mapO_d, fz_d, List.take_of_length_le, f5l0, g1, g3, g4])
      (by
        rintro i e X hi ⟨rfl, g1, g3, g4⟩
        have c : (i : Int) < (b.ents.length : Int) := by omega
        have w1 : IntKind.i64.wrap ((i : Int) + 1) = ((i + 1 : Nat) : Int) := by rw [IntWalk.i64_in _ (by omega)]; rfl
        have g := ents_get b.ents i hi
        have ok := b4 _ (getD_in (d := default) hi)
        obtain ⟨m1, m2, m3⟩ := make_ok ok
        have p1 := pureCall_eq (cl := ev R) fun H => e_12 H (b.ents.getD i default) ok (by have := (enOk_small ok).1; omega)
        have p2 := pureCall_eq (cl := ev R) fun H => e_11 H now hn (makeV (b.ents.getD i default)) (by omega) m3
        rw [hnow] at p2
        have rr : ordText (recHead now (makeV (b.ents.getD i default)).length) ++ ordTexts (makeV (b.ents.getD i default)) = recT now (makeV (b.ents.getD i default)) := rfl
        rw [rr] at p2
        have l1 := (recs_len now hn (b.ents.take i) fun e he => b4 e (List.mem_of_mem_take he)).2
        have l2 := (recT_len now hn _ (by omega) m3).2
        have sr : (recs now (b.ents.take i)).length + (recT now (makeV (b.ents.getD i default))).length ≤ strRoom := by
          have : (b.ents.take i).length ≤ 12 := by rw [List.length_take]; omega
          unfold strRoom; omega
        have sn : recs now (b.ents.take i) ++ recT now (makeV (b.ents.getD i default)) = recs now (b.ents.take (i + 1)) := by rw [take_snoc _ _ default hi, recs_snoc]
        simp [-List.getD_eq_getElem?_getD, -List.map_map, evBody, evCode, evOps, evOper, evOp, opd, Env.get, Env.put, Env.keep, zipEnv, V.ok, V.sto, binD, binInt, binStr, shInt, unD, eqOf, asI, leave, resOf, mapO, fzV, tupOf, view, view1, isData, hand, flatV, flatD, allD, mkAgg, mkVal, beq_lit, IntKind.bits, okIn, lowIn, lowIn1, lowT, fzC_d, ap0, ap_get, ap_get0, ap_set, ap_set0, ap_len, ap_take, ap_takeN, ap_nlt, ap_nlt0, ap_blt, ap_blt0, ap_bltR, ap_blt00, ap_ble, ap_ble0, ap_bleN, ap_bleR, rowOf, hload, hstore, hget, hset, reCell, src, allD_d', allD_app, ap_fzC, hand1, frzE, List.singleton_append, List.nil_append, List.cons_append, ap_ap, vc_agg, vc_dagg, va_agg, va_dagg, dc_agg, vc_str, va_str, dc_str, vc_int, va_int, dc_int, vc_bool, va_bool, dc_bool, vc_vals, va_vals, dc_vals, vc_nilp, va_nilp, dc_nilp, vc_rptr, va_rptr, dc_rptr, vc_fnd, va_fnd, dc_fnd, vc_nilfn, va_nilfn, dc_nilfn, vc_iface, va_iface, dc_iface, vc_niface, va_niface, dc_niface, vc_mval, va_mval, dc_mval, vc_slc, va_slc, vc_ptr, va_ptr, vc_fnv, va_fnv, vc_mref, va_mref, vc_nils, va_nils, vc_und, va_und, scD_cells, scD_vcells, scD_agg, scD_fold, prD_cells, prD_vcells, prD_agg, prD_fold, enD_cells, enD_vcells, enD_agg, enD_fold, baD_cells, baD_vcells, baD_agg, baD_fold, htake_self, gives_some, Round, Fin2, step_normal, step_exit, step_ret, fzC_ap, fzC_ap0, mapO_fz_app, mapO_d, fz_d, List.take_of_length_le, f5l0, g1, g3, g4, c, hi, w1, g, p1, p2, sr, sn])
      b.ents.length 0 [(1, .ptr (hlen H) 0 0 0), (3, .d (.str [])), (4, .d (.int .i64 0))] (ap H [.row 0 2 [.d (baD b)]]) (by omega) ⟨rfl, rfl, rfl, rfl⟩).out
    have l3 := (recs_len now hn b.ents b4).1
    by_cases h0 : b.ents.length = 0
    · have : b.ents = [] := List.eq_nil_of_length_eq_zero h0
      have hr : recs now b.ents = [] := by rw [this]; rfl
      rw [hr] at g3
      have h0 := eq_true h0
      have rr : ordText (recHead now sizeO.length) ++ ordTexts sizeO = recT now sizeO := rfl
      rw [rr] at pz
      simp [-List.getD_eq_getElem?_getD, -List.map_map, evBody, evCode, evOps, evOper, evOp, opd, Env.get, Env.put, Env.keep, zipEnv, V.ok, V.sto, binD, binInt, binStr, shInt, unD, eqOf, asI, leave, resOf, mapO, fzV, tupOf, view, view1, isData, hand, flatV, flatD, allD, mkAgg, mkVal, beq_lit, IntKind.bits, okIn, lowIn, lowIn1, lowT, fzC_d, ap0, ap_get, ap_get0, ap_set, ap_set0, ap_len, ap_take, ap_takeN, ap_nlt, ap_nlt0, ap_blt, ap_blt0, ap_bltR, ap_blt00, ap_ble, ap_ble0, ap_bleN, ap_bleR, rowOf, hload, hstore, hget, hset, reCell, src, allD_d', allD_app, ap_fzC, hand1, frzE, List.singleton_append, List.nil_append, List.cons_append, ap_ap, vc_agg, vc_dagg, va_agg, va_dagg, dc_agg, vc_str, va_str, dc_str, vc_int, va_int, dc_int, vc_bool, va_bool, dc_bool, vc_vals, va_vals, dc_vals, vc_nilp, va_nilp, dc_nilp, vc_rptr, va_rptr, dc_rptr, vc_fnd, va_fnd, dc_fnd, vc_nilfn, va_nilfn, dc_nilfn, vc_iface, va_iface, dc_iface, vc_niface, va_niface, dc_niface, vc_mval, va_mval, dc_mval, vc_slc, va_slc, vc_ptr, va_ptr, vc_fnv, va_fnv, vc_mref, va_mref, vc_nils, va_nils, vc_und, va_und, scD_cells, scD_vcells, scD_agg, scD_fold, prD_cells, prD_vcells, prD_agg, prD_fold, enD_cells, enD_vcells, enD_agg, enD_fold, baD_cells, baD_vcells, baD_agg, baD_fold, htake_self, gives_some, Round, Fin2, step_normal, step_exit, step_ret, fzC_ap, fzC_ap0, mapO_fz_app, mapO_d, fz_d, List.take_of_length_le, f5, p0, he, g1, g3, pz, h0]
    · have hr : ¬ recs now b.ents = [] := fun h => by rw [h, List.length_nil] at l3; omega
      simp [-List.getD_eq_getElem?_getD, -List.map_map, evBody, evCode, evOps, evOper, evOp, opd, Env.get, Env.put, Env.keep, zipEnv, V.ok, V.sto, binD, binInt, binStr, shInt, unD, eqOf, asI, leave, resOf, mapO, fzV, tupOf, view, view1, isData, hand, flatV, flatD, allD, mkAgg, mkVal, beq_lit, IntKind.bits, okIn, lowIn, lowIn1, lowT, fzC_d, ap0, ap_get, ap_get0, ap_set, ap_set0, ap_len, ap_take, ap_takeN, ap_nlt, ap_nlt0, ap_blt, ap_blt0, ap_bltR, ap_blt00, ap_ble, ap_ble0, ap_bleN, ap_bleR, rowOf, hload, hstore, hget, hset, reCell, src, allD_d', allD_app, ap_fzC, hand1, frzE, List.singleton_append, List.nil_append, List.cons_append, ap_ap, vc_agg, vc_dagg, va_agg, va_dagg, dc_agg, vc_str, va_str, dc_str, vc_int, va_int, dc_int, vc_bool, va_bool, dc_bool, vc_vals, va_vals, dc_vals, vc_nilp, va_nilp, dc_nilp, vc_rptr, va_rptr, dc_rptr, vc_fnd, va_fnd, dc_fnd, vc_nilfn, va_nilfn, dc_nilfn, vc_iface, va_iface, dc_iface, vc_niface, va_niface, dc_niface, vc_mval, va_mval, dc_mval, vc_slc, va_slc, vc_ptr, va_ptr, vc_fnv, va_fnv, vc_mref, va_mref, vc_nils, va_nils, vc_und, va_und, scD_cells, scD_vcells, scD_agg, scD_fold, prD_cells, prD_vcells, prD_agg, prD_fold, enD_cells, enD_vcells, enD_agg, enD_fold, baD_cells, baD_vcells, baD_agg, baD_fold, htake_self, gives_some, Round, Fin2, step_normal, step_exit, step_ret, fzC_ap, fzC_ap0, mapO_fz_app, mapO_d, fz_d, List.take_of_length_le, f5, p0, he, g1, g3, hr, h0]
  · rw [if_neg hk]
    rw [Bool.not_eq_true] at hk
    rw [hk] at p0
    simp [-List.getD_eq_getElem?_getD, -List.map_map, evBody, evCode, evOps, evOper, evOp, opd, Env.get, Env.put, Env.keep, zipEnv, V.ok, V.sto, binD, binInt, binStr, shInt, unD, eqOf, asI, leave, resOf, mapO, fzV, tupOf, view, view1, isData, hand, flatV, flatD, allD, mkAgg, mkVal, beq_lit, IntKind.bits, okIn, lowIn, lowIn1, lowT, fzC_d, ap0, ap_get, ap_get0, ap_set, ap_set0, ap_len, ap_take, ap_takeN, ap_nlt, ap_nlt0, ap_blt, ap_blt0, ap_bltR, ap_blt00, ap_ble, ap_ble0, ap_bleN, ap_bleR, rowOf, hload, hstore, hget, hset, reCell, src, allD_d', allD_app, ap_fzC, hand1, frzE, List.singleton_append, List.nil_append, List.cons_append, ap_ap, vc_agg, vc_dagg, va_agg, va_dagg, dc_agg, vc_str, va_str, dc_str, vc_int, va_int, dc_int, vc_bool, va_bool, dc_bool, vc_vals, va_vals, dc_vals, vc_nilp, va_nilp, dc_nilp, vc_rptr, va_rptr, dc_rptr, vc_fnd, va_fnd, dc_fnd, vc_nilfn, va_nilfn, dc_nilfn, vc_iface, va_iface, dc_iface, vc_niface, va_niface, dc_niface, vc_mval, va_mval, dc_mval, vc_slc, va_slc, vc_ptr, va_ptr, vc_fnv, va_fnv, vc_mref, va_mref, vc_nils, va_nils, vc_und, va_und, scD_cells, scD_vcells, scD_agg, scD_fold, prD_cells, prD_vcells, prD_agg, prD_fold, enD_cells, enD_vcells, enD_agg, enD_fold, baD_cells, baD_vcells, baD_agg, baD_fold, htake_self, gives_some, Round, Fin2, step_normal, step_exit, step_ret, fzC_ap, fzC_ap0, mapO_fz_app, mapO_d, fz_d, List.take_of_length_le, f5, p0]
theorem p_7 (b : Ba) (hf : BaFit b) : pureCall (ev R) 7 [.d (baD b)] = some (.d (.str (fileV b))) := pureCall_eq fun H => by
  refine ev_fn (fn := f7) rfl rfl ?_
  have p0 := p_14 b hf
  unfold fileV
  by_cases hk : baseOk b = true
  · rw [if_pos hk]
    rw [hk] at p0
    obtain ⟨b1, b2, b3, b4⟩ := baseOk_in hk
    obtain ⟨now, hnow⟩ : ∃ n : Nat, (n : Int) = b.now := ⟨b.now.toNat, by omega⟩
    have hn : now ≤ 1000000 := by omega
    have en : b.now.toNat = now := by omega
    rw [en]
    have pz := pureCall_eq (cl := ev R) fun H => e_15 H now (by omega) sizeO (by simp [sizeO]) (fun i => by cases i <;> simp [sizeO])
    rw [recV_is now hn (by simp [sizeO]) (by simp [sizeO]) sizeO_ok, hnow, ← sizeO_D] at pz
    by_cases h0 : b.ents.length = 0
    · have h0 := eq_true h0
      have h1 : b.ents = [] := List.eq_nil_of_length_eq_zero (of_eq_true h0)
      simp [-List.getD_eq_getElem?_getD, -List.map_map, evBody, evCode, evOps, evOper, evOp, opd, Env.get, Env.put, Env.keep, zipEnv, V.ok, V.sto, binD, binInt, binStr, shInt, unD, eqOf, asI, leave, resOf, mapO, fzV, tupOf, view, view1, isData, hand, flatV, flatD, allD, mkAgg, mkVal, beq_lit, IntKind.bits, okIn, lowIn, lowIn1, lowT, fzC_d, ap0, ap_get, ap_get0, ap_set, ap_set0, ap_len, ap_take, ap_takeN, ap_nlt, ap_nlt0, ap_blt, ap_blt0, ap_bltR, ap_blt00, ap_ble, ap_ble0, ap_bleN, ap_bleR, rowOf, hload, hstore, hget, hset, reCell, src, allD_d', allD_app, ap_fzC, hand1, frzE, List.singleton_append, List.nil_append, List.cons_append, ap_ap, vc_agg, vc_dagg, va_agg, va_dagg, dc_agg, vc_str, va_str, dc_str, vc_int, va_int, dc_int, vc_bool, va_bool, dc_bool, vc_vals, va_vals, dc_vals, vc_nilp, va_nilp, dc_nilp, vc_rptr, va_rptr, dc_rptr, vc_fnd, va_fnd, dc_fnd, vc_nilfn, va_nilfn, dc_nilfn, vc_iface, va_iface, dc_iface, vc_niface, va_niface, dc_niface, vc_mval, va_mval, dc_mval, vc_slc, va_slc, vc_ptr, va_ptr, vc_fnv, va_fnv, vc_mref, va_mref, vc_nils, va_nils, vc_und, va_und, scD_cells, scD_vcells, scD_agg, scD_fold, prD_cells, prD_vcells, prD_agg, prD_fold, enD_cells, enD_vcells, enD_agg, enD_fold, baD_cells, baD_vcells, baD_agg, baD_fold, htake_self, gives_some, Round, Fin2, step_normal, step_exit, step_ret, fzC_ap, fzC_ap0, mapO_fz_app, mapO_d, fz_d, List.take_of_length_le, f7, p0, pz, h0]
    · obtain ⟨o, e1, X1, he, rfl, tk, g3⟩ := (loop_keep (F := evCode (ev R) R.glob (hlen H) evLoop f7l0) (lv := [1, 3, 19, 20, 21]) b.ents.length
        (fun i e X => X = ap H [.row 0 2 [.d (baD b)]] ∧ e.get 1 = .ptr (hlen H) 0 0 0 ∧ e.get 3 = .d (.str (recs now (b.ents.take i))) ∧ e.get 19 = .d (entsD b.ents) ∧ e.get 20 = .d (.int .i64 b.ents.length) ∧ e.get 21 = .d (.int .i64 i))
        (fun o e X => o = .exit 0 ∧ htake X (hlen H) = H ∧ e.get 3 = .d (.str (recs now b.ents)))
        (by
          rintro e X ⟨rfl, g1, g3, ga, gb, gc⟩
          rw [List.take_length] at g3
          simp [-List.getD_eq_getElem?_getD, -List.map_map, evBody, evCode, evOps, evOper, evOp, opd, Env.get, Env.put, Env.keep, zipEnv, V.ok, V.sto, binD, binInt, binStr, shInt, unD, eqOf, asI, leave, resOf, mapO, fzV, tupOf, view, view1, isData, hand, flatV, flatD, allD, mkAgg, mkVal, beq_lit, IntKind.bits, okIn, lowIn, lowIn1, lowT, fzC_d, ap0, ap_get, ap_get0, ap_set, ap_set0, ap_len, ap_take, ap_takeN, ap_nlt, ap_nlt0, ap_blt, ap_blt0, ap_bltR, ap_blt00, ap_ble, ap_ble0, ap_bleN, ap_bleR, rowOf, hload, hstore, hget, hset, reCell, src, allD_d', allD_app, ap_fzC, hand1, frzE, List.singleton_append, List.nil_append, List.cons_append, ap_ap, vc_agg, vc_dagg, va_agg, va_dagg, dc_agg, vc_str, va_str, dc_str, vc_int, va_int, dc_int, vc_bool, va_bool, dc_bool, vc_vals, va_vals, dc_vals, vc_nilp, va_nilp, dc_nilp, vc_rptr, va_rptr, dc_rptr, vc_fnd, va_fnd, dc_fnd, vc_nilfn, va_nilfn, dc_nilfn, vc_iface, va_iface, dc_iface, vc_niface, va_niface, dc_niface, vc_mval, va_mval, dc_mval, vc_slc, va_slc, vc_ptr, va_ptr, vc_fnv, va_fnv, vc_mref, va_mref, vc_nils, va_nils, vc_und, va_und, scD_cells, scD_vcells, scD_agg, scD_fold, prD_cells, prD_vcells, prD_agg, prD_fold, enD_cells, enD_vcells, enD_agg, enD_fold, baD_cells, baD_vcells, baD_agg, baD_fold, htake_self, gives_some, Round, Fin2, step_normal, step_exit, step_ret, fzC_ap, fzC_ap0, mapO_fz_app, mapO_d, fz_d, List.take_of_length_le, f7l0, g1, g3, ga, gb, gc])
        (by
          rintro i e X hi ⟨rfl, g1, g3, ga, gb, gc⟩
          have c : (i : Int) < (b.ents.length : Int) := by omega
          have w1 : IntKind.i64.wrap ((i : Int) + 1) = ((i + 1 : Nat) : Int) := by rw [IntWalk.i64_in _ (by omega)]; rfl
          have g := ents_get b.ents i hi
          have ok := b4 _ (getD_in (d := default) hi)
          obtain ⟨m1, m2, m3⟩ := make_ok ok
          have p1 := p_16 (b.ents.getD i default) (hf.each _ (getD_in hi))
          have ov : ordersV (b.ents.getD i default) = makeV (b.ents.getD i default) := by unfold ordersV; rw [if_pos ok]
          rw [ov] at p1
          have p2 := pureCall_eq (cl := ev R) fun H => e_15 H now (by omega) (makeV (b.ents.getD i default)) (by omega) (fun k => by
            by_cases hk : k < (makeV (b.ents.getD i default)).length
            · have := (m3 _ (getD_in (d := []) hk)).2.2; omega
            · rw [List.getD_eq_getElem?_getD, List.getElem?_eq_none (by omega)]; simp)
          rw [recV_is now hn m1 (by omega) m3, hnow] at p2
          have l1 := (recs_len now hn (b.ents.take i) fun e he => b4 e (List.mem_of_mem_take he)).2
          have l2 := (recT_len now hn _ (by omega) m3).2
          have sr : (recs now (b.ents.take i)).length + (recT now (makeV (b.ents.getD i default))).length ≤ strRoom := by
            have : (b.ents.take i).length ≤ 12 := by rw [List.length_take]; omega
            unfold strRoom; omega
          have sn : recs now (b.ents.take i) ++ recT now (makeV (b.ents.getD i default)) = recs now (b.ents.take (i + 1)) := by rw [take_snoc _ _ default hi, recs_snoc]
          simp [-List.getD_eq_getElem?_getD, -List.map_map, evBody, evCode, evOps, evOper, evOp, opd, Env.get, Env.put, Env.keep, zipEnv, V.ok, V.sto, binD, binInt, binStr, shInt, unD, eqOf, asI, leave, resOf, mapO, fzV, tupOf, view, view1, isData, hand, flatV, flatD, allD, mkAgg, mkVal, beq_lit, IntKind.bits, okIn, lowIn, lowIn1, lowT, fzC_d, ap0, ap_get, ap_get0, ap_set, ap_set0, ap_len, ap_take, ap_takeN, ap_nlt, ap_nlt0, ap_blt, ap_blt0, ap_bltR, ap_blt00, ap_ble, ap_ble0, ap_bleN, ap_bleR, rowOf, hload, hstore, hget, hset, reCell, src, allD_d', allD_app, ap_fzC, hand1, frzE, List.singleton_append, List.nil_append, List.cons_append, ap_ap, vc_agg, vc_dagg, va_agg, va_dagg, dc_agg, vc_str, va_str, dc_str, vc_int, va_int, dc_int, vc_bool, va_bool, dc_bool, vc_vals, va_vals, dc_vals, vc_nilp, va_nilp, dc_nilp, vc_rptr, va_rptr, dc_rptr, vc_fnd, va_fnd, dc_fnd, vc_nilfn, va_nilfn, dc_nilfn, vc_iface, va_iface, dc_iface, vc_niface, va_niface, dc_niface, vc_mval, va_mval, dc_mval, vc_slc, va_slc, vc_ptr, va_ptr, vc_fnv, va_fnv, vc_mref, va_mref, vc_nils, va_nils, vc_und, va_und, scD_cells, scD_vcells, scD_agg, scD_fold, prD_cells, prD_vcells, prD_agg, prD_fold, enD_cells, enD_vcells, enD_agg, enD_fold, baD_cells, baD_vcells, baD_agg, baD_fold, htake_self, gives_some, Round, Fin2, step_normal, step_exit, step_ret, fzC_ap, fzC_ap0, mapO_fz_app, mapO_d, fz_d, List.take_of_length_le, f7l0, g1, g3, ga, gb, gc, c, hi, w1, g, p1, p2, sr, sn])
        b.ents.length 0 [(1, .ptr (hlen H) 0 0 0), (3, .d (.str [])), (19, .d (entsD b.ents)), (20, .d (.int .i64 b.ents.length)), (21, .d (.int .i64 0))] (ap H [.row 0 2 [.d (baD b)]]) (by omega) ⟨rfl, rfl, rfl, rfl, rfl, rfl⟩).out
      simp [-List.getD_eq_getElem?_getD, -List.map_map, evBody, evCode, evOps, evOper, evOp, opd, Env.get, Env.put, Env.keep, zipEnv, V.ok, V.sto, binD, binInt, binStr, shInt, unD, eqOf, asI, leave, resOf, mapO, fzV, tupOf, view, view1, isData, hand, flatV, flatD, allD, mkAgg, mkVal, beq_lit, IntKind.bits, okIn, lowIn, lowIn1, lowT, fzC_d, ap0, ap_get, ap_get0, ap_set, ap_set0, ap_len, ap_take, ap_takeN, ap_nlt, ap_nlt0, ap_blt, ap_blt0, ap_bltR, ap_blt00, ap_ble, ap_ble0, ap_bleN, ap_bleR, rowOf, hload, hstore, hget, hset, reCell, src, allD_d', allD_app, ap_fzC, hand1, frzE, List.singleton_append, List.nil_append, List.cons_append, ap_ap, vc_agg, vc_dagg, va_agg, va_dagg, dc_agg, vc_str, va_str, dc_str, vc_int, va_int, dc_int, vc_bool, va_bool, dc_bool, vc_vals, va_vals, dc_vals, vc_nilp, va_nilp, dc_nilp, vc_rptr, va_rptr, dc_rptr, vc_fnd, va_fnd, dc_fnd, vc_nilfn, va_nilfn, dc_nilfn, vc_iface, va_iface, dc_iface, vc_niface, va_niface, dc_niface, vc_mval, va_mval, dc_mval, vc_slc, va_slc, vc_ptr, va_ptr, vc_fnv, va_fnv, vc_mref, va_mref, vc_nils, va_nils, vc_und, va_und, scD_cells, scD_vcells, scD_agg, scD_fold, prD_cells, prD_vcells, prD_agg, prD_fold, enD_cells, enD_vcells, enD_agg, enD_fold, baD_cells, baD_vcells, baD_agg, baD_fold, htake_self, gives_some, Round, Fin2, step_normal, step_exit, step_ret, fzC_ap, fzC_ap0, mapO_fz_app, mapO_d, fz_d, List.take_of_length_le, f7, p0, he, g3, tk, h0]
  · rw [if_neg hk]
    rw [Bool.not_eq_true] at hk
    rw [hk] at p0
    simp [-List.getD_eq_getElem?_getD, -List.map_map, evBody, evCode, evOps, evOper, evOp, opd, Env.get, Env.put, Env.keep, zipEnv, V.ok, V.sto, binD, binInt, binStr, shInt, unD, eqOf, asI, leave, resOf, mapO, fzV, tupOf, view, view1, isData, hand, flatV, flatD, allD, mkAgg, mkVal, beq_lit, IntKind.bits, okIn, lowIn, lowIn1, lowT, fzC_d, ap0, ap_get, ap_get0, ap_set, ap_set0, ap_len, ap_take, ap_takeN, ap_nlt, ap_nlt0, ap_blt, ap_blt0, ap_bltR, ap_blt00, ap_ble, ap_ble0, ap_bleN, ap_bleR, rowOf, hload, hstore, hget, hset, reCell, src, allD_d', allD_app, ap_fzC, hand1, frzE, List.singleton_append, List.nil_append, List.cons_append, ap_ap, vc_agg, vc_dagg, va_agg, va_dagg, dc_agg, vc_str, va_str, dc_str, vc_int, va_int, dc_int, vc_bool, va_bool, dc_bool, vc_vals, va_vals, dc_vals, vc_nilp, va_nilp, dc_nilp, vc_rptr, va_rptr, dc_rptr, vc_fnd, va_fnd, dc_fnd, vc_nilfn, va_nilfn, dc_nilfn, vc_iface, va_iface, dc_iface, vc_niface, va_niface, dc_niface, vc_mval, va_mval, dc_mval, vc_slc, va_slc, vc_ptr, va_ptr, vc_fnv, va_fnv, vc_mref, va_mref, vc_nils, va_nils, vc_und, va_und, scD_cells, scD_vcells, scD_agg, scD_fold, prD_cells, prD_vcells, prD_agg, prD_fold, enD_cells, enD_vcells, enD_agg, enD_fold, baD_cells, baD_vcells, baD_agg, baD_fold, htake_self, gives_some, Round, Fin2, step_normal, step_exit, step_ret, fzC_ap, fzC_ap0, mapO_fz_app, mapO_d, fz_d, List.take_of_length_le, f7, p0]
end Go.Proofs.YtjdmiodinhlchaaDoor.Code
/- What FnExactFileOf answers. -/
namespace Go.Proofs.YtjdmiodinhlchaaDoor.Code
open Go Go.Ev Go.Proofs
set_option maxRecDepth 100000
set_option maxHeartbeats 1000000
set_option linter.unusedSimpArgs false
set_option linter.unusedVariables false
theorem e_3 (H : Hp) (b : Ba) (hf : BaFit b) : ev R 3 [.d (baD b)] H = some (.d (.bool true), H) := by
  refine ev_fn (fn := f3) rfl rfl ?_
  have p0 := p_4 b hf 1048576 (by omega) (by omega)
  obtain ⟨k1, k2⟩ := szEs_in b.ents 1048576 (by omega) (by omega)
  by_cases c : szEs b.ents 1048576 < 0
  · rw [if_pos c] at p0
    simp [-List.getD_eq_getElem?_getD, -List.map_map, evBody, evCode, evOps, evOper, evOp, opd, Env.get, Env.put, Env.keep, zipEnv, V.ok, V.sto, binD, binInt, binStr, shInt, unD, eqOf, asI, leave, resOf, mapO, fzV, tupOf, view, view1, isData, hand, flatV, flatD, allD, mkAgg, mkVal, beq_lit, IntKind.bits, okIn, lowIn, lowIn1, lowT, fzC_d, ap0, ap_get, ap_get0, ap_set, ap_set0, ap_len, ap_take, ap_takeN, ap_nlt, ap_nlt0, ap_blt, ap_blt0, ap_bltR, ap_blt00, ap_ble, ap_ble0, ap_bleN, ap_bleR, rowOf, hload, hstore, hget, hset, reCell, src, allD_d', allD_app, ap_fzC, hand1, frzE, List.singleton_append, List.nil_append, List.cons_append, ap_ap, vc_agg, vc_dagg, va_agg, va_dagg, dc_agg, vc_str, va_str, dc_str, vc_int, va_int, dc_int, vc_bool, va_bool, dc_bool, vc_vals, va_vals, dc_vals, vc_nilp, va_nilp, dc_nilp, vc_rptr, va_rptr, dc_rptr, vc_fnd, va_fnd, dc_fnd, vc_nilfn, va_nilfn, dc_nilfn, vc_iface, va_iface, dc_iface, vc_niface, va_niface, dc_niface, vc_mval, va_mval, dc_mval, vc_slc, va_slc, vc_ptr, va_ptr, vc_fnv, va_fnv, vc_mref, va_mref, vc_nils, va_nils, vc_und, va_und, scD_cells, scD_vcells, scD_agg, scD_fold, prD_cells, prD_vcells, prD_agg, prD_fold, enD_cells, enD_vcells, enD_agg, enD_fold, baD_cells, baD_vcells, baD_agg, baD_fold, htake_self, gives_some, Round, Fin2, step_normal, step_exit, step_ret, fzC_ap, fzC_ap0, mapO_fz_app, mapO_d, fz_d, List.take_of_length_le, f3, p0]
  · rw [if_neg c] at p0
    obtain ⟨k3, k4⟩ := k2 (by omega)
    have p1 := p_6 b (by omega) k4
    have p2 := p_5 b hf
    have p3 := p_7 b hf
    have p4 := p_8_same b hf
    generalize szEs b.ents 1048576 = z at *
    simp [-List.getD_eq_getElem?_getD, -List.map_map, evBody, evCode, evOps, evOper, evOp, opd, Env.get, Env.put, Env.keep, zipEnv, V.ok, V.sto, binD, binInt, binStr, shInt, unD, eqOf, asI, leave, resOf, mapO, fzV, tupOf, view, view1, isData, hand, flatV, flatD, allD, mkAgg, mkVal, beq_lit, IntKind.bits, okIn, lowIn, lowIn1, lowT, fzC_d, ap0, ap_get, ap_get0, ap_set, ap_set0, ap_len, ap_take, ap_takeN, ap_nlt, ap_nlt0, ap_blt, ap_blt0, ap_bltR, ap_blt00, ap_ble, ap_ble0, ap_bleN, ap_bleR, rowOf, hload, hstore, hget, hset, reCell, src, allD_d', allD_app, ap_fzC, hand1, frzE, List.singleton_append, List.nil_append, List.cons_append, ap_ap, vc_agg, vc_dagg, va_agg, va_dagg, dc_agg, vc_str, va_str, dc_str, vc_int, va_int, dc_int, vc_bool, va_bool, dc_bool, vc_vals, va_vals, dc_vals, vc_nilp, va_nilp, dc_nilp, vc_rptr, va_rptr, dc_rptr, vc_fnd, va_fnd, dc_fnd, vc_nilfn, va_nilfn, dc_nilfn, vc_iface, va_iface, dc_iface, vc_niface, va_niface, dc_niface, vc_mval, va_mval, dc_mval, vc_slc, va_slc, vc_ptr, va_ptr, vc_fnv, va_fnv, vc_mref, va_mref, vc_nils, va_nils, vc_und, va_und, scD_cells, scD_vcells, scD_agg, scD_fold, prD_cells, prD_vcells, prD_agg, prD_fold, enD_cells, enD_vcells, enD_agg, enD_fold, baD_cells, baD_vcells, baD_agg, baD_fold, htake_self, gives_some, Round, Fin2, step_normal, step_exit, step_ret, fzC_ap, fzC_ap0, mapO_fz_app, mapO_d, fz_d, List.take_of_length_le, f3, p0, c, p1, p2, p3, p4]
/-- A base's type. -/
def scTy : Ty := .fld .str (.fld (.int .i64) .fin)
def prTy : Ty := .fld .str (.fld .str .fin)
def enTy : Ty := .fld .str (.fld (.int .i64) (.fld (.int .i64) (.fld .str (.fld (.slice .str) (.fld (.slice scTy) (.fld (.slice prTy) .fin))))))
def baTy : Ty := .fld (.int .i64) (.fld (.slice enTy) .fin)
theorem maxLen_le : maxLen ≤ 9223372036854775807 := by decide
theorem wf_i64 {n : Int} (h : (Lit.int .i64 n).wf = true) : In64 n := by
  have := h
  simp [Lit.wf] at this
  exact this
theorem strs_shape : ∀ (xss : List (List D)), (∀ xs ∈ xss, Shape .str xs) → ∃ ss : List Txt, xss.map Ty.str.toD = ss.map D.str ∧ ∀ s ∈ ss, s.length ≤ maxLen
  | [], _ => ⟨[], rfl, fun s h => by simp at h⟩
  | x :: r, h => by
    obtain ⟨s, rfl, hs⟩ := h x (by simp)
    obtain ⟨ss, h1, h2⟩ := strs_shape r fun xs hx => h xs (by simp [hx])
    refine ⟨s :: ss, by rw [List.map_cons, List.map_cons, h1]; rfl, fun y hy => ?_⟩
    rcases List.mem_cons.1 hy with rfl | hy
    · exact hs
    · exact h2 y hy
theorem scs_shape : ∀ (xss : List (List D)), (∀ xs ∈ xss, Shape scTy xs) → ∃ ss : List Sc, xss.map scTy.toD = ss.map scD ∧ ∀ s ∈ ss, s.1.length ≤ maxLen
  | [], _ => ⟨[], rfl, fun s h => by simp at h⟩
  | x :: r, h => by
    obtain ⟨a, b, rfl, ⟨s, rfl, hs⟩, c, d, rfl, ⟨n, rfl, hn⟩, rfl⟩ := h x (by simp)
    obtain ⟨ss, h1, h2⟩ := scs_shape r fun xs hx => h xs (by simp [hx])
    refine ⟨(s, n) :: ss, by rw [List.map_cons, List.map_cons, h1]; rfl, fun y hy => ?_⟩
    rcases List.mem_cons.1 hy with rfl | hy
    · exact hs
    · exact h2 y hy
theorem prs_shape : ∀ (xss : List (List D)), (∀ xs ∈ xss, Shape prTy xs) → ∃ ss : List Pr, xss.map prTy.toD = ss.map prD ∧ ∀ s ∈ ss, s.1.length ≤ maxLen ∧ s.2.length ≤ maxLen
  | [], _ => ⟨[], rfl, fun s h => by simp at h⟩
  | x :: r, h => by
    obtain ⟨a, b, rfl, ⟨s, rfl, hs⟩, c, d, rfl, ⟨n, rfl, hn⟩, rfl⟩ := h x (by simp)
    obtain ⟨ss, h1, h2⟩ := prs_shape r fun xs hx => h xs (by simp [hx])
    refine ⟨(s, n) :: ss, by rw [List.map_cons, List.map_cons, h1]; rfl, fun y hy => ?_⟩
    rcases List.mem_cons.1 hy with rfl | hy
    · exact ⟨hs, hn⟩
    · exact h2 y hy
theorem getD_all {α : Type} {p : α → Prop} {d : α} {xs : List α} (h : ∀ x ∈ xs, p x) (hd : p d) (i : Nat) : p (xs.getD i d) := by
  rw [List.getD_eq_getElem?_getD]
  by_cases hi : i < xs.length
  · rw [List.getElem?_eq_getElem hi]
    exact h _ (List.getElem_mem hi)
  · rw [List.getElem?_eq_none (by omega)]
    exact hd
theorem en_shape {ds : List D} (h : Shape enTy ds) : ∃ e : En, enTy.toD ds = enD e ∧ EnFit e := by
  obtain ⟨_, _, rfl, ⟨key, rfl, h1⟩, _, _, rfl, ⟨till, rfl, h2⟩, _, _, rfl, ⟨kind, rfl, h3⟩, _, _, rfl, ⟨text, rfl, h4⟩, _, _, rfl, ⟨l1, rfl, h5, k5⟩, _, _, rfl, ⟨l2, rfl, h6, k6⟩, _, _, rfl, ⟨l3, rfl, h7, k7⟩, rfl⟩ := h
  obtain ⟨ss, e1, f1⟩ := strs_shape l1 k5
  obtain ⟨cs, e2, f2⟩ := scs_shape l2 k6
  obtain ⟨ps, e3, f3⟩ := prs_shape l3 k7
  have m := maxLen_le
  have g1 : ss.length = l1.length := by have := congrArg List.length e1; simpa using this.symm
  have g2 : cs.length = l2.length := by have := congrArg List.length e2; simpa using this.symm
  have g3 : ps.length = l3.length := by have := congrArg List.length e3; simpa using this.symm
  refine ⟨⟨key, till, kind, text, ss, cs, ps⟩, ?_, ⟨by show key.length ≤ _; omega, by show text.length ≤ _; omega, by show ss.length ≤ _; omega, fun i => ?_, by show cs.length ≤ _; omega, fun i => ?_, by show ps.length ≤ _; omega, fun i => ?_, wf_i64 h2, wf_i64 h3⟩⟩
  · show D.agg _ = D.agg _
    simp only [txts, scs, prs]
    rw [← e1, ← e2, ← e3]
    rfl
  · exact getD_all (p := fun x : Txt => x.length ≤ 9223372036854775807) (fun s hs => by have := f1 s hs; omega) (by simp) i
  · exact getD_all (p := fun x : Sc => x.1.length ≤ 9223372036854775807) (fun s hs => by have := f2 s hs; omega) (by simp) i
  · exact getD_all (p := fun x : Pr => x.1.length ≤ 9223372036854775807 ∧ x.2.length ≤ 9223372036854775807) (fun s hs => by have := f3 s hs; omega) (by simp) i
theorem ens_shape : ∀ (xss : List (List D)), (∀ xs ∈ xss, Shape enTy xs) → ∃ es : List En, xss.map enTy.toD = es.map enD ∧ ∀ e ∈ es, EnFit e
  | [], _ => ⟨[], rfl, fun s h => by simp at h⟩
  | x :: r, h => by
    obtain ⟨e, he, hf⟩ := en_shape (h x (by simp))
    obtain ⟨es, h1, h2⟩ := ens_shape r fun xs hx => h xs (by simp [hx])
    refine ⟨e :: es, by rw [List.map_cons, List.map_cons, h1, he], fun y hy => ?_⟩
    rcases List.mem_cons.1 hy with rfl | hy
    · exact hf
    · exact h2 y hy
theorem ba_shape {ds : List D} (h : Shape baTy ds) : ∃ b : Ba, baTy.toD ds = baD b ∧ BaFit b := by
  obtain ⟨_, _, rfl, ⟨now, rfl, h1⟩, _, _, rfl, ⟨l, rfl, h2, k2⟩, rfl⟩ := h
  obtain ⟨es, e1, f1⟩ := ens_shape l k2
  have m := maxLen_le
  have g1 : es.length = l.length := by have := congrArg List.length e1; simpa using this.symm
  refine ⟨⟨now, es⟩, ?_, ⟨wf_i64 h1, by show es.length ≤ _; omega, f1⟩⟩
  show D.agg _ = D.agg _
  simp only [entsD]
  rw [← e1]
  rfl
namespace fnExactFileOf
theorem answers (ds : List D) (v : Value) (w : World) (h : Shape baTy ds ∧ RD w (fun _ => False) (baTy.toD ds) v) (hG : GR globD w (fun _ => False)) : Calls Tryd.prog 3 #[v] w fun e w' => e = .returned (.bool true) ∧ RowKit.Below w.heap.size w w' := by
  obtain ⟨b, he, hf⟩ := ba_shape h.1
  refine calls_bool prg_ok (xs := [baD b]) (e_3 [] b hf) hG rfl fun j hj => ?_
  match j, hj with
  | 0, _ => rw [he] at h; exact h.2
end fnExactFileOf
end Go.Proofs.YtjdmiodinhlchaaDoor.Code

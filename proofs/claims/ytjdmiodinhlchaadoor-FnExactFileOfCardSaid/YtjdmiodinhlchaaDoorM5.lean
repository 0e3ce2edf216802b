/- Lemmas (several texts in one). -/
import Derived.Test.YtjdmiodinhlchaaDoorM4
/- Rows that are being filled. -/
namespace Go.Proofs.YtjdmiodinhlchaaDoor.Code
open Go Go.Ev Go.Proofs
set_option maxRecDepth 100000
set_option linter.unusedSimpArgs false
set_option linter.unusedVariables false
/-- A row that is being filled with data. -/
def fillD (z : V) (ds : List D) (i : Nat) : List V := (ds.take i).map V.d ++ List.replicate (ds.length - i) z
theorem fillD_zero (z : V) (ds : List D) : fillD z ds 0 = List.replicate ds.length z := by simp [fillD]
theorem fillD_all (z : V) (ds : List D) : fillD z ds ds.length = ds.map V.d := by simp [fillD]
theorem fillD_get (z : V) (ds : List D) (i : Nat) (hi : i < ds.length) : (fillD z ds i)[i]? = some z := by
  unfold fillD
  rw [List.getElem?_append_right (by simp; omega)]
  have : i - ((ds.take i).map V.d).length = 0 := by simp; omega
  rw [this, List.getElem?_replicate, if_pos (by omega)]
theorem fillD_set (z : V) (ds : List D) (i : Nat) (hi : i < ds.length) : (fillD z ds i).set i (V.d (ds.getD i .nilp)) = fillD z ds (i + 1) := by
  unfold fillD
  have h1 : ((ds.take i).map V.d).length = i := by simp; omega
  rw [List.set_append_right _ _ (by omega), h1, Nat.sub_self]
  obtain ⟨m, hm⟩ : ∃ m, ds.length - i = m + 1 := ⟨ds.length - i - 1, by omega⟩
  have h2 : ds.length - (i + 1) = m := by omega
  rw [hm, h2, List.replicate_succ, List.set_cons_zero]
  have h3 : ds.take (i + 1) = ds.take i ++ [ds.getD i .nilp] := by
    rw [List.take_add_one]
    simp [List.getD_eq_getElem?_getD, hi]
  rw [h3]
  simp
section
variable (H : Hp) (a b c d : Ev.Obj)
theorem get2_0 : hget (hpush (hpush H a) b) (hlen H) = some a := by rw [hget_hpush_lt _ (by rw [hlen_hpush]; omega), hget_hpush_self]
theorem get2_1 : hget (hpush (hpush H a) b) (hlen H + 1) = some b := by rw [← hlen_hpush H a, hget_hpush_self]
theorem get3_0 : hget (hpush (hpush (hpush H a) b) c) (hlen H) = some a := by rw [hget_hpush_lt _ (by simp only [hlen_hpush]; omega), get2_0]
theorem get3_1 : hget (hpush (hpush (hpush H a) b) c) (hlen H + 1) = some b := by rw [hget_hpush_lt _ (by simp only [hlen_hpush]; omega), get2_1]
theorem get3_2 : hget (hpush (hpush (hpush H a) b) c) (hlen H + 1 + 1) = some c := by rw [← hlen_hpush H a, ← hlen_hpush (hpush H a) b, hget_hpush_self]
theorem set3_1 : hset (hpush (hpush (hpush H a) b) c) (hlen H + 1) d = hpush (hpush (hpush H a) d) c := by
  rw [hset_push_lt (by simp only [hlen_hpush]; omega), ← hlen_hpush H a, hset_push]
theorem set3_2 : hset (hpush (hpush (hpush H a) b) c) (hlen H + 1 + 1) d = hpush (hpush (hpush H a) b) d := by
  rw [← hlen_hpush H a, ← hlen_hpush (hpush H a) b, hset_push]
theorem take3 : htake (hpush (hpush (hpush H a) b) c) (hlen H) = H := by simp [htake, hpush, hlen]
end
end Go.Proofs.YtjdmiodinhlchaaDoor.Code
/- The program's types as data. -/
namespace Go.Proofs.YtjdmiodinhlchaaDoor.Code
open Go Go.Ev Go.Proofs
set_option maxRecDepth 100000
set_option linter.unusedSimpArgs false
set_option linter.unusedVariables false
abbrev Sc := Txt × Int
abbrev Pr := Txt × Txt
def scD (x : Sc) : D := .agg [.str x.1, .int .i64 x.2]
def prD (x : Pr) : D := .agg [.str x.1, .str x.2]
abbrev scs (xs : List Sc) : D := .vals 2 (xs.map scD)
abbrev prs (xs : List Pr) : D := .vals 2 (xs.map prD)
/-- An entry. -/
structure En where
  key : Txt
  till : Int
  kind : Int
  text : Txt
  list : List Txt
  scores : List Sc
  fields : List Pr
def enD (e : En) : D := .agg [.str e.key, .int .i64 e.till, .int .i64 e.kind, .str e.text, txts e.list, scs e.scores, prs e.fields]
def In64 (n : Int) : Prop := -9223372036854775808 ≤ n ∧ n ≤ 9223372036854775807
/-- Each list, and each text, as long as they may be. -/
structure EnFit (e : En) : Prop where
  key : e.key.length ≤ 9223372036854775807
  text : e.text.length ≤ 9223372036854775807
  list : e.list.length ≤ 9223372036854775807
  lists : ∀ i, (e.list.getD i []).length ≤ 9223372036854775807
  scores : e.scores.length ≤ 9223372036854775807
  scoress : ∀ i, ((e.scores.getD i ([], 0)).1).length ≤ 9223372036854775807
  fields : e.fields.length ≤ 9223372036854775807
  fieldss : ∀ i, ((e.fields.getD i ([], [])).1).length ≤ 9223372036854775807 ∧ ((e.fields.getD i ([], [])).2).length ≤ 9223372036854775807
  till : In64 e.till
  kind : In64 e.kind
/-- A base. -/
structure Ba where
  now : Int
  ents : List En
abbrev entsD (es : List En) : D := .vals 7 (es.map enD)
def baD (b : Ba) : D := .agg [.int .i64 b.now, entsD b.ents]
/-- A reply. -/
inductive Re where
  | mk (kind num : Int) (text : Txt) (texts : List Txt) (many : List Re)
def Re.kind : Re → Int | .mk k _ _ _ _ => k
def Re.num : Re → Int | .mk _ n _ _ _ => n
def Re.text : Re → Txt | .mk _ _ t _ _ => t
def Re.texts : Re → List Txt | .mk _ _ _ l _ => l
def Re.many : Re → List Re | .mk _ _ _ _ m => m
def reD : Re → D
  | .mk k n t l m => .agg [.int .i64 k, .int .i64 n, .str t, txts l, .vals 5 (m.attach.map fun x => reD x.1)]
termination_by r => SizeOf.sizeOf r
decreasing_by
  have := List.sizeOf_lt_of_mem x.2
  simp only [Re.mk.sizeOf_spec]
  omega
theorem reD_mk (k n : Int) (t : Txt) (l : List Txt) (m : List Re) : reD (.mk k n t l m) = .agg [.int .i64 k, .int .i64 n, .str t, txts l, .vals 5 (m.map reD)] := by
  rw [reD.eq_1]
  simp
/-! ### Whole elements and their cells -/
theorem scD_cells (x : Sc) : (scD x).cells = [.str x.1, .int .i64 x.2] := rfl
theorem scD_vcells (x : Sc) : (V.d (scD x)).cells = [.d (.str x.1), .d (.int .i64 x.2)] := rfl
theorem scD_agg (x : Sc) : (V.d (scD x)).isAgg = true := rfl
theorem scD_fold (a : Txt) (n : Int) : D.agg [.str a, .int .i64 n] = scD (a, n) := rfl
theorem prD_cells (x : Pr) : (prD x).cells = [.str x.1, .str x.2] := rfl
theorem prD_vcells (x : Pr) : (V.d (prD x)).cells = [.d (.str x.1), .d (.str x.2)] := rfl
theorem prD_agg (x : Pr) : (V.d (prD x)).isAgg = true := rfl
theorem prD_fold (a b : Txt) : D.agg [.str a, .str b] = prD (a, b) := rfl
theorem enD_cells (e : En) : (enD e).cells = [.str e.key, .int .i64 e.till, .int .i64 e.kind, .str e.text, txts e.list, scs e.scores, prs e.fields] := rfl
theorem enD_vcells (e : En) : (V.d (enD e)).cells = [.d (.str e.key), .d (.int .i64 e.till), .d (.int .i64 e.kind), .d (.str e.text), .d (txts e.list), .d (scs e.scores), .d (prs e.fields)] := rfl
theorem enD_agg (e : En) : (V.d (enD e)).isAgg = true := rfl
theorem enD_fold (k : Txt) (t d : Int) (x : Txt) (l : List Txt) (s : List Sc) (f : List Pr) : D.agg [.str k, .int .i64 t, .int .i64 d, .str x, .vals 1 (l.map D.str), scs s, prs f] = enD ⟨k, t, d, x, l, s, f⟩ := rfl
theorem baD_cells (b : Ba) : (baD b).cells = [.int .i64 b.now, entsD b.ents] := rfl
theorem baD_vcells (b : Ba) : (V.d (baD b)).cells = [.d (.int .i64 b.now), .d (entsD b.ents)] := rfl
theorem baD_agg (b : Ba) : (V.d (baD b)).isAgg = true := rfl
theorem baD_fold (n : Int) (es : List En) : D.agg [.int .i64 n, entsD es] = baD ⟨n, es⟩ := rfl
instance : Inhabited En := ⟨⟨[], 0, 0, [], [], [], []⟩⟩
theorem ents_len (es : List En) : (es.map enD).length = es.length := by simp
theorem ents_get (es : List En) (i : Nat) (hi : i < es.length) : (es.map enD).getD i .nilp = enD (es.getD i default) := by
  simp [List.getD_eq_getElem?_getD, hi]
theorem getD_in {α : Type} {xs : List α} {i : Nat} {d : α} (hi : i < xs.length) : xs.getD i d ∈ xs := by
  rw [List.getD_eq_getElem?_getD, List.getElem?_eq_getElem hi]
  exact List.getElem_mem hi
structure BaFit (b : Ba) : Prop where
  now : In64 b.now
  len : b.ents.length ≤ 9223372036854775807
  each : ∀ e ∈ b.ents, EnFit e
end Go.Proofs.YtjdmiodinhlchaaDoor.Code
/- Entries and bases copied: frozen at once. -/
namespace Go.Proofs.YtjdmiodinhlchaaDoor.Code
open Go Go.Ev Go.Proofs
set_option maxRecDepth 100000
set_option linter.unusedSimpArgs false
set_option linter.unusedVariables false
theorem scs_get' (xs : List Sc) (i : Nat) (hi : i < xs.length) : (xs.map scD).getD i .nilp = scD (xs.getD i ([], 0)) := by
  simp [List.getD_eq_getElem?_getD, hi]
theorem prs_get' (xs : List Pr) (i : Nat) (hi : i < xs.length) : (xs.map prD).getD i .nilp = prD (xs.getD i ([], [])) := by
  simp [List.getD_eq_getElem?_getD, hi]
theorem p_57 (x : Sc) : pureCall (ev R) 57 [.d (scD x)] = some (.d (scD x)) := pureCall_eq fun H => by
  refine ev_fn (fn := f57) rfl rfl ?_
  simp [-List.getD_eq_getElem?_getD, -List.map_map, evBody, evCode, evOps, evOper, evOp, opd, Env.get, Env.put, Env.keep, zipEnv, V.ok, V.sto, binD, binInt, binStr, shInt, unD, eqOf, asI, leave, resOf, mapO, fzV, tupOf, view, view1, isData, hand, flatV, flatD, allD, mkAgg, mkVal, beq_lit, IntKind.bits, okIn, lowIn, lowIn1, lowT, fzC_d, ap0, ap_get, ap_get0, ap_set, ap_set0, ap_len, ap_take, ap_takeN, ap_nlt, ap_nlt0, ap_blt, ap_blt0, ap_bltR, ap_blt00, ap_ble, ap_ble0, ap_bleN, ap_bleR, rowOf, hload, hstore, hget, hset, reCell, src, allD_d', allD_app, ap_fzC, hand1, frzE, List.singleton_append, List.nil_append, List.cons_append, ap_ap, vc_agg, vc_dagg, va_agg, va_dagg, dc_agg, vc_str, va_str, dc_str, vc_int, va_int, dc_int, vc_bool, va_bool, dc_bool, vc_vals, va_vals, dc_vals, vc_nilp, va_nilp, dc_nilp, vc_rptr, va_rptr, dc_rptr, vc_fnd, va_fnd, dc_fnd, vc_nilfn, va_nilfn, dc_nilfn, vc_iface, va_iface, dc_iface, vc_niface, va_niface, dc_niface, vc_mval, va_mval, dc_mval, vc_slc, va_slc, vc_ptr, va_ptr, vc_fnv, va_fnv, vc_mref, va_mref, vc_nils, va_nils, vc_und, va_und, scD_cells, scD_vcells, scD_agg, scD_fold, prD_cells, prD_vcells, prD_agg, prD_fold, enD_cells, enD_vcells, enD_agg, enD_fold, baD_cells, baD_vcells, baD_agg, baD_fold, htake_self, gives_some, Round, Fin2, step_normal, step_exit, step_ret, fzC_ap, fzC_ap0, mapO_fz_app, mapO_d, fz_d, List.take_of_length_le, f57]
theorem p_58 (x : Pr) : pureCall (ev R) 58 [.d (prD x)] = some (.d (prD x)) := pureCall_eq fun H => by
  refine ev_fn (fn := f58) rfl rfl ?_
  simp [-List.getD_eq_getElem?_getD, -List.map_map, evBody, evCode, evOps, evOper, evOp, opd, Env.get, Env.put, Env.keep, zipEnv, V.ok, V.sto, binD, binInt, binStr, shInt, unD, eqOf, asI, leave, resOf, mapO, fzV, tupOf, view, view1, isData, hand, flatV, flatD, allD, mkAgg, mkVal, beq_lit, IntKind.bits, okIn, lowIn, lowIn1, lowT, fzC_d, ap0, ap_get, ap_get0, ap_set, ap_set0, ap_len, ap_take, ap_takeN, ap_nlt, ap_nlt0, ap_blt, ap_blt0, ap_bltR, ap_blt00, ap_ble, ap_ble0, ap_bleN, ap_bleR, rowOf, hload, hstore, hget, hset, reCell, src, allD_d', allD_app, ap_fzC, hand1, frzE, List.singleton_append, List.nil_append, List.cons_append, ap_ap, vc_agg, vc_dagg, va_agg, va_dagg, dc_agg, vc_str, va_str, dc_str, vc_int, va_int, dc_int, vc_bool, va_bool, dc_bool, vc_vals, va_vals, dc_vals, vc_nilp, va_nilp, dc_nilp, vc_rptr, va_rptr, dc_rptr, vc_fnd, va_fnd, dc_fnd, vc_nilfn, va_nilfn, dc_nilfn, vc_iface, va_iface, dc_iface, vc_niface, va_niface, dc_niface, vc_mval, va_mval, dc_mval, vc_slc, va_slc, vc_ptr, va_ptr, vc_fnv, va_fnv, vc_mref, va_mref, vc_nils, va_nils, vc_und, va_und, scD_cells, scD_vcells, scD_agg, scD_fold, prD_cells, prD_vcells, prD_agg, prD_fold, enD_cells, enD_vcells, enD_agg, enD_fold, baD_cells, baD_vcells, baD_agg, baD_fold, htake_self, gives_some, Round, Fin2, step_normal, step_exit, step_ret, fzC_ap, fzC_ap0, mapO_fz_app, mapO_d, fz_d, List.take_of_length_le, f58]
theorem e_41 (H : Hp) (xs : List Sc) (hx : (xs.length : Int) * 24 ≤ 140737488355328) : ev R 41 [.d (scs xs)] H = some (.d (scs xs), H) := by
  refine ev_fn (fn := f41) rfl rfl ?_
  unfold scs
  have fz := fillD_zero (.d (scD ([], 0))) (xs.map scD)
  have fa := fillD_all (.d (scD ([], 0))) (xs.map scD)
  rw [List.length_map] at fz fa
  obtain ⟨o, e', X', he, rfl, rfl, g3⟩ := (loop_keep (F := evCode (ev R) R.glob (hlen H) evLoop f41l0) (lv := [0, 3, 4]) xs.length
    (fun i e X => X = ap H [.row 0 2 (fillD (.d (scD ([], 0))) (xs.map scD) i)] ∧ e.get 0 = .d (.vals 2 (xs.map scD)) ∧ e.get 3 = .slc (hlen H) 0 0 xs.length ∧ e.get 4 = .d (.int .i64 i))
    (fun o e X => o = .exit 0 ∧ X = ap H [.row 0 2 ((xs.map scD).map V.d)] ∧ e.get 3 = .slc (hlen H) 0 0 xs.length)
    (by
      rintro e X ⟨rfl, g0, g3, g4⟩
      simp [-List.getD_eq_getElem?_getD, -List.map_map, evBody, evCode, evOps, evOper, evOp, opd, Env.get, Env.put, Env.keep, zipEnv, V.ok, V.sto, binD, binInt, binStr, shInt, unD, eqOf, asI, leave, resOf, mapO, fzV, tupOf, view, view1, isData, hand, flatV, flatD, allD, mkAgg, mkVal, beq_lit, IntKind.bits, okIn, lowIn, lowIn1, lowT, fzC_d, ap0, ap_get, ap_get0, ap_set, ap_set0, ap_len, ap_take, ap_takeN, ap_nlt, ap_nlt0, ap_blt, ap_blt0, ap_bltR, ap_blt00, ap_ble, ap_ble0, ap_bleN, ap_bleR, rowOf, hload, hstore, hget, hset, reCell, src, allD_d', allD_app, ap_fzC, hand1, frzE, List.singleton_append, List.nil_append, List.cons_append, ap_ap, vc_agg, vc_dagg, va_agg, va_dagg, dc_agg, vc_str, va_str, dc_str, vc_int, va_int, dc_int, vc_bool, va_bool, dc_bool, vc_vals, va_vals, dc_vals, vc_nilp, va_nilp, dc_nilp, vc_rptr, va_rptr, dc_rptr, vc_fnd, va_fnd, dc_fnd, vc_nilfn, va_nilfn, dc_nilfn, vc_iface, va_iface, dc_iface, vc_niface, va_niface, dc_niface, vc_mval, va_mval, dc_mval, vc_slc, va_slc, vc_ptr, va_ptr, vc_fnv, va_fnv, vc_mref, va_mref, vc_nils, va_nils, vc_und, va_und, scD_cells, scD_vcells, scD_agg, scD_fold, prD_cells, prD_vcells, prD_agg, prD_fold, enD_cells, enD_vcells, enD_agg, enD_fold, baD_cells, baD_vcells, baD_agg, baD_fold, htake_self, gives_some, Round, Fin2, step_normal, step_exit, step_ret, fzC_ap, fzC_ap0, mapO_fz_app, mapO_d, fz_d, List.take_of_length_le, f41l0, g0, g3, g4, fa])
    (by
      rintro i e X hi ⟨rfl, g0, g3, g4⟩
      have c : (i : Int) < (xs.length : Int) := by omega
      have hi' : i < (xs.map scD).length := by simpa using hi
      have g := scs_get' xs i hi
      have p := p_57 (xs.getD i ([], 0))
      have fg := fillD_get (.d (scD ([], 0))) (xs.map scD) i hi'
      have fs := fillD_set (.d (scD ([], 0))) (xs.map scD) i hi'
      rw [g] at fs
      have w1 : IntKind.i64.wrap ((i : Int) + 1) = ((i + 1 : Nat) : Int) := by rw [IntWalk.i64_in _ (by omega)]; rfl
      simp [-List.getD_eq_getElem?_getD, -List.map_map, evBody, evCode, evOps, evOper, evOp, opd, Env.get, Env.put, Env.keep, zipEnv, V.ok, V.sto, binD, binInt, binStr, shInt, unD, eqOf, asI, leave, resOf, mapO, fzV, tupOf, view, view1, isData, hand, flatV, flatD, allD, mkAgg, mkVal, beq_lit, IntKind.bits, okIn, lowIn, lowIn1, lowT, fzC_d, ap0, ap_get, ap_get0, ap_set, ap_set0, ap_len, ap_take, ap_takeN, ap_nlt, ap_nlt0, ap_blt, ap_blt0, ap_bltR, ap_blt00, ap_ble, ap_ble0, ap_bleN, ap_bleR, rowOf, hload, hstore, hget, hset, reCell, src, allD_d', allD_app, ap_fzC, hand1, frzE, List.singleton_append, List.nil_append, List.cons_append, ap_ap, vc_agg, vc_dagg, va_agg, va_dagg, dc_agg, vc_str, va_str, dc_str, vc_int, va_int, dc_int, vc_bool, va_bool, dc_bool, vc_vals, va_vals, dc_vals, vc_nilp, va_nilp, dc_nilp, vc_rptr, va_rptr, dc_rptr, vc_fnd, va_fnd, dc_fnd, vc_nilfn, va_nilfn, dc_nilfn, vc_iface, va_iface, dc_iface, vc_niface, va_niface, dc_niface, vc_mval, va_mval, dc_mval, vc_slc, va_slc, vc_ptr, va_ptr, vc_fnv, va_fnv, vc_mref, va_mref, vc_nils, va_nils, vc_und, va_und, scD_cells, scD_vcells, scD_agg, scD_fold, prD_cells, prD_vcells, prD_agg, prD_fold, enD_cells, enD_vcells, enD_agg, enD_fold, baD_cells, baD_vcells, baD_agg, baD_fold, htake_self, gives_some, Round, Fin2, step_normal, step_exit, step_ret, fzC_ap, fzC_ap0, mapO_fz_app, mapO_d, fz_d, List.take_of_length_le, f41l0, g0, g3, g4, c, hi, g, p, fg, fs, w1])
    xs.length 0 [(0, .d (.vals 2 (xs.map scD))), (3, .slc (hlen H) 0 0 xs.length), (4, .d (.int .i64 0))] (ap H [.row 0 2 (fillD (.d (scD ([], 0))) (xs.map scD) 0)]) (by omega) ⟨rfl, rfl, rfl, rfl⟩).out
  simp [-List.getD_eq_getElem?_getD, -List.map_map, evBody, evCode, evOps, evOper, evOp, opd, Env.get, Env.put, Env.keep, zipEnv, V.ok, V.sto, binD, binInt, binStr, shInt, unD, eqOf, asI, leave, resOf, mapO, fzV, tupOf, view, view1, isData, hand, flatV, flatD, allD, mkAgg, mkVal, beq_lit, IntKind.bits, okIn, lowIn, lowIn1, lowT, fzC_d, ap0, ap_get, ap_get0, ap_set, ap_set0, ap_len, ap_take, ap_takeN, ap_nlt, ap_nlt0, ap_blt, ap_blt0, ap_bltR, ap_blt00, ap_ble, ap_ble0, ap_bleN, ap_bleR, rowOf, hload, hstore, hget, hset, reCell, src, allD_d', allD_app, ap_fzC, hand1, frzE, List.singleton_append, List.nil_append, List.cons_append, ap_ap, vc_agg, vc_dagg, va_agg, va_dagg, dc_agg, vc_str, va_str, dc_str, vc_int, va_int, dc_int, vc_bool, va_bool, dc_bool, vc_vals, va_vals, dc_vals, vc_nilp, va_nilp, dc_nilp, vc_rptr, va_rptr, dc_rptr, vc_fnd, va_fnd, dc_fnd, vc_nilfn, va_nilfn, dc_nilfn, vc_iface, va_iface, dc_iface, vc_niface, va_niface, dc_niface, vc_mval, va_mval, dc_mval, vc_slc, va_slc, vc_ptr, va_ptr, vc_fnv, va_fnv, vc_mref, va_mref, vc_nils, va_nils, vc_und, va_und, scD_cells, scD_vcells, scD_agg, scD_fold, prD_cells, prD_vcells, prD_agg, prD_fold, enD_cells, enD_vcells, enD_agg, enD_fold, baD_cells, baD_vcells, baD_agg, baD_fold, htake_self, gives_some, Round, Fin2, step_normal, step_exit, step_ret, fzC_ap, fzC_ap0, mapO_fz_app, mapO_d, fz_d, List.take_of_length_le, f41, hx, ← fz, room, he, g3]
theorem e_42 (H : Hp) (xs : List Pr) (hx : (xs.length : Int) * 32 ≤ 140737488355328) : ev R 42 [.d (prs xs)] H = some (.d (prs xs), H) := by
  refine ev_fn (fn := f42) rfl rfl ?_
  unfold prs
  have fz := fillD_zero (.d (prD ([], []))) (xs.map prD)
  have fa := fillD_all (.d (prD ([], []))) (xs.map prD)
  rw [List.length_map] at fz fa
  obtain ⟨o, e', X', he, rfl, rfl, g3⟩ := (loop_keep (F := evCode (ev R) R.glob (hlen H) evLoop f42l0) (lv := [0, 3, 4]) xs.length
    (fun i e X => X = ap H [.row 0 2 (fillD (.d (prD ([], []))) (xs.map prD) i)] ∧ e.get 0 = .d (.vals 2 (xs.map prD)) ∧ e.get 3 = .slc (hlen H) 0 0 xs.length ∧ e.get 4 = .d (.int .i64 i))
    (fun o e X => o = .exit 0 ∧ X = ap H [.row 0 2 ((xs.map prD).map V.d)] ∧ e.get 3 = .slc (hlen H) 0 0 xs.length)
    (by
      rintro e X ⟨rfl, g0, g3, g4⟩
      simp [-List.getD_eq_getElem?_getD, -List.map_map, evBody, evCode, evOps, evOper, evOp, opd, Env.get, Env.put, Env.keep, zipEnv, V.ok, V.sto, binD, binInt, binStr, shInt, unD, eqOf, asI, leave, resOf, mapO, fzV, tupOf, view, view1, isData, hand, flatV, flatD, allD, mkAgg, mkVal, beq_lit, IntKind.bits, okIn, lowIn, lowIn1, lowT, fzC_d, ap0, ap_get, ap_get0, ap_set, ap_set0, ap_len, ap_take, ap_takeN, ap_nlt, ap_nlt0, ap_blt, ap_blt0, ap_bltR, ap_blt00, ap_ble, ap_ble0, ap_bleN, ap_bleR, rowOf, hload, hstore, hget, hset, reCell, src, allD_d', allD_app, ap_fzC, hand1, frzE, List.singleton_append, List.nil_append, List.cons_append, ap_ap, vc_agg, vc_dagg, va_agg, va_dagg, dc_agg, vc_str, va_str, dc_str, vc_int, va_int, dc_int, vc_bool, va_bool, dc_bool, vc_vals, va_vals, dc_vals, vc_nilp, va_nilp, dc_nilp, vc_rptr, va_rptr, dc_rptr, vc_fnd, va_fnd, dc_fnd, vc_nilfn, va_nilfn, dc_nilfn, vc_iface, va_iface, dc_iface, vc_niface, va_niface, dc_niface, vc_mval, va_mval, dc_mval, vc_slc, va_slc, vc_ptr, va_ptr, vc_fnv, va_fnv, vc_mref, va_mref, vc_nils, va_nils, vc_und, va_und, scD_cells, scD_vcells, scD_agg, scD_fold, prD_cells, prD_vcells, prD_agg, prD_fold, enD_cells, enD_vcells, enD_agg, enD_fold, baD_cells, baD_vcells, baD_agg, baD_fold, htake_self, gives_some, Round, Fin2, step_normal, step_exit, step_ret, fzC_ap, fzC_ap0, mapO_fz_app, mapO_d, fz_d, List.take_of_length_le, f42l0, g0, g3, g4, fa])
    (by
      rintro i e X hi ⟨rfl, g0, g3, g4⟩
      have c : (i : Int) < (xs.length : Int) := by omega
      have hi' : i < (xs.map prD).length := by simpa using hi
      have g := prs_get' xs i hi
      have p := p_58 (xs.getD i ([], []))
      have fg := fillD_get (.d (prD ([], []))) (xs.map prD) i hi'
      have fs := fillD_set (.d (prD ([], []))) (xs.map prD) i hi'
      rw [g] at fs
      have w1 : IntKind.i64.wrap ((i : Int) + 1) = ((i + 1 : Nat) : Int) := by rw [IntWalk.i64_in _ (by omega)]; rfl
      simp [-List.getD_eq_getElem?_getD, -List.map_map, evBody, evCode, evOps, evOper, evOp, opd, Env.get, Env.put, Env.keep, zipEnv, V.ok, V.sto, binD, binInt, binStr, shInt, unD, eqOf, asI, leave, resOf, mapO, fzV, tupOf, view, view1, isData, hand, flatV, flatD, allD, mkAgg, mkVal, beq_lit, IntKind.bits, okIn, lowIn, lowIn1, lowT, fzC_d, ap0, ap_get, ap_get0, ap_set, ap_set0, ap_len, ap_take, ap_takeN, ap_nlt, ap_nlt0, ap_blt, ap_blt0, ap_bltR, ap_blt00, ap_ble, ap_ble0, ap_bleN, ap_bleR, rowOf, hload, hstore, hget, hset, reCell, src, allD_d', allD_app, ap_fzC, hand1, frzE, List.singleton_append, List.nil_append, List.cons_append, ap_ap, vc_agg, vc_dagg, va_agg, va_dagg, dc_agg, vc_str, va_str, dc_str, vc_int, va_int, dc_int, vc_bool, va_bool, dc_bool, vc_vals, va_vals, dc_vals, vc_nilp, va_nilp, dc_nilp, vc_rptr, va_rptr, dc_rptr, vc_fnd, va_fnd, dc_fnd, vc_nilfn, va_nilfn, dc_nilfn, vc_iface, va_iface, dc_iface, vc_niface, va_niface, dc_niface, vc_mval, va_mval, dc_mval, vc_slc, va_slc, vc_ptr, va_ptr, vc_fnv, va_fnv, vc_mref, va_mref, vc_nils, va_nils, vc_und, va_und, scD_cells, scD_vcells, scD_agg, scD_fold, prD_cells, prD_vcells, prD_agg, prD_fold, enD_cells, enD_vcells, enD_agg, enD_fold, baD_cells, baD_vcells, baD_agg, baD_fold, htake_self, gives_some, Round, Fin2, step_normal, step_exit, step_ret, fzC_ap, fzC_ap0, mapO_fz_app, mapO_d, fz_d, List.take_of_length_le, f42l0, g0, g3, g4, c, hi, g, p, fg, fs, w1])
    xs.length 0 [(0, .d (.vals 2 (xs.map prD))), (3, .slc (hlen H) 0 0 xs.length), (4, .d (.int .i64 0))] (ap H [.row 0 2 (fillD (.d (prD ([], []))) (xs.map prD) 0)]) (by omega) ⟨rfl, rfl, rfl, rfl⟩).out
  simp [-List.getD_eq_getElem?_getD, -List.map_map, evBody, evCode, evOps, evOper, evOp, opd, Env.get, Env.put, Env.keep, zipEnv, V.ok, V.sto, binD, binInt, binStr, shInt, unD, eqOf, asI, leave, resOf, mapO, fzV, tupOf, view, view1, isData, hand, flatV, flatD, allD, mkAgg, mkVal, beq_lit, IntKind.bits, okIn, lowIn, lowIn1, lowT, fzC_d, ap0, ap_get, ap_get0, ap_set, ap_set0, ap_len, ap_take, ap_takeN, ap_nlt, ap_nlt0, ap_blt, ap_blt0, ap_bltR, ap_blt00, ap_ble, ap_ble0, ap_bleN, ap_bleR, rowOf, hload, hstore, hget, hset, reCell, src, allD_d', allD_app, ap_fzC, hand1, frzE, List.singleton_append, List.nil_append, List.cons_append, ap_ap, vc_agg, vc_dagg, va_agg, va_dagg, dc_agg, vc_str, va_str, dc_str, vc_int, va_int, dc_int, vc_bool, va_bool, dc_bool, vc_vals, va_vals, dc_vals, vc_nilp, va_nilp, dc_nilp, vc_rptr, va_rptr, dc_rptr, vc_fnd, va_fnd, dc_fnd, vc_nilfn, va_nilfn, dc_nilfn, vc_iface, va_iface, dc_iface, vc_niface, va_niface, dc_niface, vc_mval, va_mval, dc_mval, vc_slc, va_slc, vc_ptr, va_ptr, vc_fnv, va_fnv, vc_mref, va_mref, vc_nils, va_nils, vc_und, va_und, scD_cells, scD_vcells, scD_agg, scD_fold, prD_cells, prD_vcells, prD_agg, prD_fold, enD_cells, enD_vcells, enD_agg, enD_fold, baD_cells, baD_vcells, baD_agg, baD_fold, htake_self, gives_some, Round, Fin2, step_normal, step_exit, step_ret, fzC_ap, fzC_ap0, mapO_fz_app, mapO_d, fz_d, List.take_of_length_le, f42, hx, ← fz, room, he, g3]
/-- As great as a law lets it be. -/
structure Small (e : En) : Prop where
  list : e.list.length ≤ 1048576
  scores : e.scores.length ≤ 1048576
  fields : e.fields.length ≤ 1048576
theorem p_24 (e : En) (h : Small e) : pureCall (ev R) 24 [.d (enD e)] = some (.d (enD e)) := pureCall_eq fun H => by
  refine ev_fn (fn := f24) rfl rfl ?_
  have p1 := pureCall_eq (cl := ev R) fun H => e_40 H e.list (by have := h.list; omega)
  have p2 := pureCall_eq (cl := ev R) fun H => e_41 H e.scores (by have := h.scores; omega)
  have p3 := pureCall_eq (cl := ev R) fun H => e_42 H e.fields (by have := h.fields; omega)
  simp [-List.getD_eq_getElem?_getD, -List.map_map, evBody, evCode, evOps, evOper, evOp, opd, Env.get, Env.put, Env.keep, zipEnv, V.ok, V.sto, binD, binInt, binStr, shInt, unD, eqOf, asI, leave, resOf, mapO, fzV, tupOf, view, view1, isData, hand, flatV, flatD, allD, mkAgg, mkVal, beq_lit, IntKind.bits, okIn, lowIn, lowIn1, lowT, fzC_d, ap0, ap_get, ap_get0, ap_set, ap_set0, ap_len, ap_take, ap_takeN, ap_nlt, ap_nlt0, ap_blt, ap_blt0, ap_bltR, ap_blt00, ap_ble, ap_ble0, ap_bleN, ap_bleR, rowOf, hload, hstore, hget, hset, reCell, src, allD_d', allD_app, ap_fzC, hand1, frzE, List.singleton_append, List.nil_append, List.cons_append, ap_ap, vc_agg, vc_dagg, va_agg, va_dagg, dc_agg, vc_str, va_str, dc_str, vc_int, va_int, dc_int, vc_bool, va_bool, dc_bool, vc_vals, va_vals, dc_vals, vc_nilp, va_nilp, dc_nilp, vc_rptr, va_rptr, dc_rptr, vc_fnd, va_fnd, dc_fnd, vc_nilfn, va_nilfn, dc_nilfn, vc_iface, va_iface, dc_iface, vc_niface, va_niface, dc_niface, vc_mval, va_mval, dc_mval, vc_slc, va_slc, vc_ptr, va_ptr, vc_fnv, va_fnv, vc_mref, va_mref, vc_nils, va_nils, vc_und, va_und, scD_cells, scD_vcells, scD_agg, scD_fold, prD_cells, prD_vcells, prD_agg, prD_fold, enD_cells, enD_vcells, enD_agg, enD_fold, baD_cells, baD_vcells, baD_agg, baD_fold, htake_self, gives_some, Round, Fin2, step_normal, step_exit, step_ret, fzC_ap, fzC_ap0, mapO_fz_app, mapO_d, fz_d, List.take_of_length_le, f24, p1, p2, p3]
theorem e_13 (H : Hp) (xs : List En) (hx : (xs.length : Int) * 120 ≤ 140737488355328) (hs : ∀ e ∈ xs, Small e) : ev R 13 [.d (entsD xs)] H = some (.d (entsD xs), H) := by
  refine ev_fn (fn := f13) rfl rfl ?_
  unfold entsD
  have fz := fillD_zero (.agg [.d (.str []), .d (.int .i64 0), .d (.int .i64 0), .d (.str []), .nils 1, .nils 2, .nils 2]) (xs.map enD)
  have fa := fillD_all (.agg [.d (.str []), .d (.int .i64 0), .d (.int .i64 0), .d (.str []), .nils 1, .nils 2, .nils 2]) (xs.map enD)
  rw [List.length_map] at fz fa
  obtain ⟨o, e', X', he, rfl, rfl, g3⟩ := (loop_keep (F := evCode (ev R) R.glob (hlen H) evLoop f13l0) (lv := [0, 3, 4]) xs.length
    (fun i e X => X = ap H [.row 0 7 (fillD (.agg [.d (.str []), .d (.int .i64 0), .d (.int .i64 0), .d (.str []), .nils 1, .nils 2, .nils 2]) (xs.map enD) i)] ∧ e.get 0 = .d (.vals 7 (xs.map enD)) ∧ e.get 3 = .slc (hlen H) 0 0 xs.length ∧ e.get 4 = .d (.int .i64 i))
    (fun o e X => o = .exit 0 ∧ X = ap H [.row 0 7 ((xs.map enD).map V.d)] ∧ e.get 3 = .slc (hlen H) 0 0 xs.length)
    (by
      rintro e X ⟨rfl, g0, g3, g4⟩
      simp [-List.getD_eq_getElem?_getD, -List.map_map, evBody, evCode, evOps, evOper, evOp, opd, Env.get, Env.put, Env.keep, zipEnv, V.ok, V.sto, binD, binInt, binStr, shInt, unD, eqOf, asI, leave, resOf, mapO, fzV, tupOf, view, view1, isData, hand, flatV, flatD, allD, mkAgg, mkVal, beq_lit, IntKind.bits, okIn, lowIn, lowIn1, lowT, fzC_d, ap0, ap_get, ap_get0, ap_set, ap_set0, ap_len, ap_take, ap_takeN, ap_nlt, ap_nlt0, ap_blt, ap_blt0, ap_bltR, ap_blt00, ap_ble, ap_ble0, ap_bleN, ap_bleR, rowOf, hload, hstore, hget, hset, reCell, src, allD_d', allD_app, ap_fzC, hand1, frzE, List.singleton_append, List.nil_append, List.cons_append, ap_ap, vc_agg, vc_dagg, va_agg, va_dagg, dc_agg, vc_str, va_str, dc_str, vc_int, va_int, dc_int, vc_bool, va_bool, dc_bool, vc_vals, va_vals, dc_vals, vc_nilp, va_nilp, dc_nilp, vc_rptr, va_rptr, dc_rptr, vc_fnd, va_fnd, dc_fnd, vc_nilfn, va_nilfn, dc_nilfn, vc_iface, va_iface, dc_iface, vc_niface, va_niface, dc_niface, vc_mval, va_mval, dc_mval, vc_slc, va_slc, vc_ptr, va_ptr, vc_fnv, va_fnv, vc_mref, va_mref, vc_nils, va_nils, vc_und, va_und, scD_cells, scD_vcells, scD_agg, scD_fold, prD_cells, prD_vcells, prD_agg, prD_fold, enD_cells, enD_vcells, enD_agg, enD_fold, baD_cells, baD_vcells, baD_agg, baD_fold, htake_self, gives_some, Round, Fin2, step_normal, step_exit, step_ret, fzC_ap, fzC_ap0, mapO_fz_app, mapO_d, fz_d, List.take_of_length_le, f13l0, g0, g3, g4, fa])
    (by
      rintro i e X hi ⟨rfl, g0, g3, g4⟩
      have c : (i : Int) < (xs.length : Int) := by omega
      have hi' : i < (xs.map enD).length := by simpa using hi
      have g := ents_get xs i hi
      have p := p_24 (xs.getD i default) (hs _ (getD_in hi))
      have fg := fillD_get (.agg [.d (.str []), .d (.int .i64 0), .d (.int .i64 0), .d (.str []), .nils 1, .nils 2, .nils 2]) (xs.map enD) i hi'
      have fs := fillD_set (.agg [.d (.str []), .d (.int .i64 0), .d (.int .i64 0), .d (.str []), .nils 1, .nils 2, .nils 2]) (xs.map enD) i hi'
      rw [g] at fs
      have w1 : IntKind.i64.wrap ((i : Int) + 1) = ((i + 1 : Nat) : Int) := by rw [IntWalk.i64_in _ (by omega)]; rfl
      simp [-List.getD_eq_getElem?_getD, -List.map_map, evBody, evCode, evOps, evOper, evOp, opd, Env.get, Env.put, Env.keep, zipEnv, V.ok, V.sto, binD, binInt, binStr, shInt, unD, eqOf, asI, leave, resOf, mapO, fzV, tupOf, view, view1, isData, hand, flatV, flatD, allD, mkAgg, mkVal, beq_lit, IntKind.bits, okIn, lowIn, lowIn1, lowT, fzC_d, ap0, ap_get, ap_get0, ap_set, ap_set0, ap_len, ap_take, ap_takeN, ap_nlt, ap_nlt0, ap_blt, ap_blt0, ap_bltR, ap_blt00, ap_ble, ap_ble0, ap_bleN, ap_bleR, rowOf, hload, hstore, hget, hset, reCell, src, allD_d', allD_app, ap_fzC, hand1, frzE, List.singleton_append, List.nil_append, List.cons_append, ap_ap, vc_agg, vc_dagg, va_agg, va_dagg, dc_agg, vc_str, va_str, dc_str, vc_int, va_int, dc_int, vc_bool, va_bool, dc_bool, vc_vals, va_vals, dc_vals, vc_nilp, va_nilp, dc_nilp, vc_rptr, va_rptr, dc_rptr, vc_fnd, va_fnd, dc_fnd, vc_nilfn, va_nilfn, dc_nilfn, vc_iface, va_iface, dc_iface, vc_niface, va_niface, dc_niface, vc_mval, va_mval, dc_mval, vc_slc, va_slc, vc_ptr, va_ptr, vc_fnv, va_fnv, vc_mref, va_mref, vc_nils, va_nils, vc_und, va_und, scD_cells, scD_vcells, scD_agg, scD_fold, prD_cells, prD_vcells, prD_agg, prD_fold, enD_cells, enD_vcells, enD_agg, enD_fold, baD_cells, baD_vcells, baD_agg, baD_fold, htake_self, gives_some, Round, Fin2, step_normal, step_exit, step_ret, fzC_ap, fzC_ap0, mapO_fz_app, mapO_d, fz_d, List.take_of_length_le, f13l0, g0, g3, g4, c, hi, g, p, fg, fs, w1])
    xs.length 0 [(0, .d (.vals 7 (xs.map enD))), (3, .slc (hlen H) 0 0 xs.length), (4, .d (.int .i64 0))] (ap H [.row 0 7 (fillD (.agg [.d (.str []), .d (.int .i64 0), .d (.int .i64 0), .d (.str []), .nils 1, .nils 2, .nils 2]) (xs.map enD) 0)]) (by omega) ⟨rfl, rfl, rfl, rfl⟩).out
  simp [-List.getD_eq_getElem?_getD, -List.map_map, evBody, evCode, evOps, evOper, evOp, opd, Env.get, Env.put, Env.keep, zipEnv, V.ok, V.sto, binD, binInt, binStr, shInt, unD, eqOf, asI, leave, resOf, mapO, fzV, tupOf, view, view1, isData, hand, flatV, flatD, allD, mkAgg, mkVal, beq_lit, IntKind.bits, okIn, lowIn, lowIn1, lowT, fzC_d, ap0, ap_get, ap_get0, ap_set, ap_set0, ap_len, ap_take, ap_takeN, ap_nlt, ap_nlt0, ap_blt, ap_blt0, ap_bltR, ap_blt00, ap_ble, ap_ble0, ap_bleN, ap_bleR, rowOf, hload, hstore, hget, hset, reCell, src, allD_d', allD_app, ap_fzC, hand1, frzE, List.singleton_append, List.nil_append, List.cons_append, ap_ap, vc_agg, vc_dagg, va_agg, va_dagg, dc_agg, vc_str, va_str, dc_str, vc_int, va_int, dc_int, vc_bool, va_bool, dc_bool, vc_vals, va_vals, dc_vals, vc_nilp, va_nilp, dc_nilp, vc_rptr, va_rptr, dc_rptr, vc_fnd, va_fnd, dc_fnd, vc_nilfn, va_nilfn, dc_nilfn, vc_iface, va_iface, dc_iface, vc_niface, va_niface, dc_niface, vc_mval, va_mval, dc_mval, vc_slc, va_slc, vc_ptr, va_ptr, vc_fnv, va_fnv, vc_mref, va_mref, vc_nils, va_nils, vc_und, va_und, scD_cells, scD_vcells, scD_agg, scD_fold, prD_cells, prD_vcells, prD_agg, prD_fold, enD_cells, enD_vcells, enD_agg, enD_fold, baD_cells, baD_vcells, baD_agg, baD_fold, htake_self, gives_some, Round, Fin2, step_normal, step_exit, step_ret, fzC_ap, fzC_ap0, mapO_fz_app, mapO_d, fz_d, List.take_of_length_le, f13, hx, ← fz, room, he, g3]
theorem p_6 (b : Ba) (hx : b.ents.length ≤ 1048576) (hs : ∀ e ∈ b.ents, Small e) : pureCall (ev R) 6 [.d (baD b)] = some (.d (baD b)) := pureCall_eq fun H => by
  refine ev_fn (fn := f6) rfl rfl ?_
  have p1 := pureCall_eq (cl := ev R) fun H => e_13 H b.ents (by omega) hs
  simp [-List.getD_eq_getElem?_getD, -List.map_map, evBody, evCode, evOps, evOper, evOp, opd, Env.get, Env.put, Env.keep, zipEnv, V.ok, V.sto, binD, binInt, binStr, shInt, unD, eqOf, asI, leave, resOf, mapO, fzV, tupOf, view, view1, isData, hand, flatV, flatD, allD, mkAgg, mkVal, beq_lit, IntKind.bits, okIn, lowIn, lowIn1, lowT, fzC_d, ap0, ap_get, ap_get0, ap_set, ap_set0, ap_len, ap_take, ap_takeN, ap_nlt, ap_nlt0, ap_blt, ap_blt0, ap_bltR, ap_blt00, ap_ble, ap_ble0, ap_bleN, ap_bleR, rowOf, hload, hstore, hget, hset, reCell, src, allD_d', allD_app, ap_fzC, hand1, frzE, List.singleton_append, List.nil_append, List.cons_append, ap_ap, vc_agg, vc_dagg, va_agg, va_dagg, dc_agg, vc_str, va_str, dc_str, vc_int, va_int, dc_int, vc_bool, va_bool, dc_bool, vc_vals, va_vals, dc_vals, vc_nilp, va_nilp, dc_nilp, vc_rptr, va_rptr, dc_rptr, vc_fnd, va_fnd, dc_fnd, vc_nilfn, va_nilfn, dc_nilfn, vc_iface, va_iface, dc_iface, vc_niface, va_niface, dc_niface, vc_mval, va_mval, dc_mval, vc_slc, va_slc, vc_ptr, va_ptr, vc_fnv, va_fnv, vc_mref, va_mref, vc_nils, va_nils, vc_und, va_und, scD_cells, scD_vcells, scD_agg, scD_fold, prD_cells, prD_vcells, prD_agg, prD_fold, enD_cells, enD_vcells, enD_agg, enD_fold, baD_cells, baD_vcells, baD_agg, baD_fold, htake_self, gives_some, Round, Fin2, step_normal, step_exit, step_ret, fzC_ap, fzC_ap0, mapO_fz_app, mapO_d, fz_d, List.take_of_length_le, f6, p1]
end Go.Proofs.YtjdmiodinhlchaaDoor.Code
/- What FnExactListAt answers. -/
namespace Go.Proofs.YtjdmiodinhlchaaDoor.Code
open Go Go.Ev Go.Proofs
set_option maxRecDepth 100000
set_option linter.unusedSimpArgs false
set_option linter.unusedVariables false
theorem e_51_same (H : Hp) (xs : List Txt) (hx : xs.length ≤ 9223372036854775807) : ev R 51 [.d (txts xs), .d (txts xs)] H = some (.d (.bool true), H) := by
  refine ev_fn (fn := f51) rfl rfl ?_
  obtain ⟨e', he, h1⟩ := l_51 (hlen H) xs hx xs rfl H xs.length 0 [(0, .d (txts xs)), (1, .d (txts xs)), (5, .d (.int .i64 0))] (by omega) rfl rfl rfl
  have hr : seek (differ xs xs) xs.length 0 = none := by
    cases hr : seek (differ xs xs) xs.length 0 with
    | none => rfl
    | some j =>
      have := (seek_some hr).2.2.1
      simp [differ] at this
  simp only [hr] at he
  simp [-List.getD_eq_getElem?_getD, -List.map_map, evBody, evCode, evOps, evOper, evOp, opd, Env.get, Env.put, Env.keep, zipEnv, V.ok, V.sto, V.cells, D.cells, V.isAgg, binD, binInt, binStr, shInt, unD, eqOf, asI, leave, resOf, mapO, fzV, tupOf, view, view1, isData, hand, flatV, flatD, allD, mkAgg, mkVal, beq_lit, IntKind.bits, htake_self, htake_push, hget_hpush_self, hset_push, rowOf_self, okIn, lowIn, lowIn1, fzC_d, fzC_row, f51, he]
/-- What is left of a sum, the texts' letters taken off one after another; -1 if too little. -/
def spend (xs : List Txt) : Nat → Nat → Int → Int
  | 0, _, l => l
  | n + 1, i, l => if l - (xs.getD i []).length < 0 then -1 else spend xs n (i + 1) (l - (xs.getD i []).length)
theorem l_31 (n0 : Nat) (xs : List Txt) (hx : xs.length ≤ 9223372036854775807) (hs : ∀ i, (xs.getD i []).length ≤ 9223372036854775807) (H : Hp) : ∀ (n i : Nat) (l : Int) (e : Env), i + n = xs.length → 0 ≤ l → l ≤ 1048576 → e.get 0 = .d (txts xs) → e.get 1 = .d (.int .i64 l) → e.get 5 = .d (.int .i64 i) →
    ∃ e', evLoop (evCode (ev R) R.glob n0 evLoop f31l0) [0, 1, 5] ⟨e, H⟩ = some ((if spend xs n i l < 0 then .ret else .exit 0), ⟨e', H⟩) ∧
      (spend xs n i l < 0 → e'.get 4 = .d (.int .i64 (-1))) ∧ (¬ spend xs n i l < 0 → e'.get 1 = .d (.int .i64 (spend xs n i l)))
  | 0, i, l, e, hn, hl, hl2, h0, h1, h5 => by
    have c : ¬ (i : Int) < (xs.length : Int) := by omega
    have c' : ¬ i < xs.length := by omega
    have c2 : ¬ l < 0 := by omega
    rw [evLoop_eq]
    refine ⟨?_, ?_, ?_, ?_⟩
    rotate_left
    · simp [-List.getD_eq_getElem?_getD, -List.map_map, evBody, evCode, evOps, evOper, evOp, opd, Env.get, Env.put, Env.keep, zipEnv, V.ok, V.sto, V.cells, D.cells, V.isAgg, binD, binInt, binStr, shInt, unD, eqOf, asI, leave, resOf, mapO, fzV, tupOf, view, view1, isData, hand, flatV, flatD, allD, mkAgg, mkVal, beq_lit, IntKind.bits, htake_self, htake_push, hget_hpush_self, hset_push, rowOf_self, okIn, lowIn, lowIn1, fzC_d, fzC_row, f31l0, h0, h1, h5, txts, c, c', spend, c2]
      rfl
    · intro hj; exact absurd hj c2
    · intro _
      simp [-List.getD_eq_getElem?_getD, -List.map_map, evBody, evCode, evOps, evOper, evOp, opd, Env.get, Env.put, Env.keep, zipEnv, V.ok, V.sto, V.cells, D.cells, V.isAgg, binD, binInt, binStr, shInt, unD, eqOf, asI, leave, resOf, mapO, fzV, tupOf, view, view1, isData, hand, flatV, flatD, allD, mkAgg, mkVal, beq_lit, IntKind.bits, htake_self, htake_push, hget_hpush_self, hset_push, rowOf_self, okIn, lowIn, lowIn1, fzC_d, fzC_row, h1, spend]
  | n + 1, i, l, e, hn, hl, hl2, h0, h1, h5 => by
    have c : (i : Int) < (xs.length : Int) := by omega
    have c' : i < xs.length := by omega
    have g := txts_get xs i c'
    have hsi := hs i
    have w1 : IntKind.i64.wrap ((i : Int) + 1) = ((i + 1 : Nat) : Int) := by rw [IntWalk.i64_in _ (by omega)]; rfl
    have w2 : IntKind.i64.wrap (l - ((xs.getD i []).length : Int)) = l - (xs.getD i []).length := IntWalk.i64_in _ (by omega)
    have ih := l_31 n0 xs hx hs H n (i + 1) (l - (xs.getD i []).length)
    rw [evLoop_eq]
    generalize evLoop (evCode (ev R) R.glob n0 evLoop f31l0) [0, 1, 5] = F at ih ⊢
    by_cases hb : l - ((xs.getD i []).length : Int) < 0
    · have hs1 : spend xs (n + 1) i l = -1 := by simp only [spend, hb, if_true]
      rw [hs1]
      refine ⟨?_, ?_, ?_, ?_⟩
      rotate_left
      · simp [-List.getD_eq_getElem?_getD, -List.map_map, evBody, evCode, evOps, evOper, evOp, opd, Env.get, Env.put, Env.keep, zipEnv, V.ok, V.sto, V.cells, D.cells, V.isAgg, binD, binInt, binStr, shInt, unD, eqOf, asI, leave, resOf, mapO, fzV, tupOf, view, view1, isData, hand, flatV, flatD, allD, mkAgg, mkVal, beq_lit, IntKind.bits, htake_self, htake_push, hget_hpush_self, hset_push, rowOf_self, okIn, lowIn, lowIn1, fzC_d, fzC_row, f31l0, h0, h1, h5, txts, c, c', g, w2, hb]
        rfl
      · intro hj; simp [-List.getD_eq_getElem?_getD, -List.map_map, evBody, evCode, evOps, evOper, evOp, opd, Env.get, Env.put, Env.keep, zipEnv, V.ok, V.sto, V.cells, D.cells, V.isAgg, binD, binInt, binStr, shInt, unD, eqOf, asI, leave, resOf, mapO, fzV, tupOf, view, view1, isData, hand, flatV, flatD, allD, mkAgg, mkVal, beq_lit, IntKind.bits, htake_self, htake_push, hget_hpush_self, hset_push, rowOf_self, okIn, lowIn, lowIn1, fzC_d, fzC_row]
      · intro hj; omega
    · have hs1 : spend xs (n + 1) i l = spend xs n (i + 1) (l - (xs.getD i []).length) := by simp only [spend, hb, if_false]
      rw [hs1]
      generalize hz : spend xs n (i + 1) (l - (xs.getD i []).length) = z at ih ⊢
      simp [-List.getD_eq_getElem?_getD, -List.map_map, evBody, evCode, evOps, evOper, evOp, opd, Env.get, Env.put, Env.keep, zipEnv, V.ok, V.sto, V.cells, D.cells, V.isAgg, binD, binInt, binStr, shInt, unD, eqOf, asI, leave, resOf, mapO, fzV, tupOf, view, view1, isData, hand, flatV, flatD, allD, mkAgg, mkVal, beq_lit, IntKind.bits, htake_self, htake_push, hget_hpush_self, hset_push, rowOf_self, okIn, lowIn, lowIn1, fzC_d, fzC_row, f31l0, h0, h1, h5, txts, c, c', g, w1, w2, hb]
      have ih' := ih [(5, .d (.int .i64 ((i + 1 : Nat) : Int))), (17, .d (.int .i64 ((i + 1 : Nat) : Int))), (16, .d (.int .i64 i)), (0, .d (txts xs)), (1, .d (.int .i64 (l - (xs.getD i []).length))), (5, .d (.int .i64 i))] (by omega) (by omega) (by omega) rfl rfl rfl
      simpa [-List.getD_eq_getElem?_getD, -List.map_map] using ih'
def left (xs : List Txt) : Int := if 1048576 - (xs.length : Int) < 0 then -1 else (if spend xs xs.length 0 (1048576 - xs.length) < 0 then -1 else spend xs xs.length 0 (1048576 - xs.length))
theorem e_31 (H : Hp) (xs : List Txt) (hx : xs.length ≤ 9223372036854775807) (hs : ∀ i, (xs.getD i []).length ≤ 9223372036854775807) : ev R 31 [.d (txts xs), .d (.int .i64 1048576)] H = some (.d (.int .i64 (left xs)), H) := by
  refine ev_fn (fn := f31) rfl rfl ?_
  have w : IntKind.i64.wrap (1048576 - (xs.length : Int)) = 1048576 - xs.length := IntWalk.i64_in _ (by omega)
  unfold left
  by_cases hb : 1048576 - (xs.length : Int) < 0
  · simp [-List.getD_eq_getElem?_getD, -List.map_map, evBody, evCode, evOps, evOper, evOp, opd, Env.get, Env.put, Env.keep, zipEnv, V.ok, V.sto, V.cells, D.cells, V.isAgg, binD, binInt, binStr, shInt, unD, eqOf, asI, leave, resOf, mapO, fzV, tupOf, view, view1, isData, hand, flatV, flatD, allD, mkAgg, mkVal, beq_lit, IntKind.bits, htake_self, htake_push, hget_hpush_self, hset_push, rowOf_self, okIn, lowIn, lowIn1, fzC_d, fzC_row, f31, txts, w, hb]
  · obtain ⟨e', he, h1, h2⟩ := l_31 (hlen H) xs hx hs H xs.length 0 (1048576 - xs.length) [(0, .d (txts xs)), (1, .d (.int .i64 (1048576 - xs.length))), (5, .d (.int .i64 0))] (by omega) (by omega) (by omega) rfl rfl rfl
    generalize spend xs xs.length 0 (1048576 - xs.length) = z at he h1 h2 ⊢
    by_cases hz : z < 0
    · simp only [hz, if_true] at he
      simp [-List.getD_eq_getElem?_getD, -List.map_map, evBody, evCode, evOps, evOper, evOp, opd, Env.get, Env.put, Env.keep, zipEnv, V.ok, V.sto, V.cells, D.cells, V.isAgg, binD, binInt, binStr, shInt, unD, eqOf, asI, leave, resOf, mapO, fzV, tupOf, view, view1, isData, hand, flatV, flatD, allD, mkAgg, mkVal, beq_lit, IntKind.bits, htake_self, htake_push, hget_hpush_self, hset_push, rowOf_self, okIn, lowIn, lowIn1, fzC_d, fzC_row, f31, txts, w, hb, he, h1 hz, hz]
    · simp only [hz, if_false] at he
      simp [-List.getD_eq_getElem?_getD, -List.map_map, evBody, evCode, evOps, evOper, evOp, opd, Env.get, Env.put, Env.keep, zipEnv, V.ok, V.sto, V.cells, D.cells, V.isAgg, binD, binInt, binStr, shInt, unD, eqOf, asI, leave, resOf, mapO, fzV, tupOf, view, view1, isData, hand, flatV, flatD, allD, mkAgg, mkVal, beq_lit, IntKind.bits, htake_self, htake_push, hget_hpush_self, hset_push, rowOf_self, okIn, lowIn, lowIn1, fzC_d, fzC_row, f31, txts, w, hb, he, h2 hz, hz]
namespace fnExactListAt
end fnExactListAt
end Go.Proofs.YtjdmiodinhlchaaDoor.Code
/- The reader that draws: a row of a slice of bytes and a place. -/
namespace Go.Proofs.YtjdmiodinhlchaaDoor.Code
open Go Go.Ev Go.Proofs
set_option maxRecDepth 100000
set_option linter.unusedSimpArgs false
set_option linter.unusedVariables false
abbrev bytesD (bs : List Int) : D := .vals 1 (bs.map (.int .u8))
def rd (bs : List Int) (p : Int) : Ev.Obj := .row 0 2 [.d (.agg [bytesD bs, .int .i64 p])]
theorem rd_row {H : Hp} {r : Nat} {bs : List Int} {p : Int} (h : hget H r = some (rd bs p)) : rowOf H r 0 = some (2, [.d (.agg [bytesD bs, .int .i64 p])]) := by
  simp [rowOf, h, rd]
theorem rd_load0 {H : Hp} {r : Nat} {bs : List Int} {p : Int} (h : hget H r = some (rd bs p)) : hload H r 0 0 0 1 = some [.d (bytesD bs)] := by
  simp [hload, rd_row h, V.cells]
theorem rd_load1 {H : Hp} {r : Nat} {bs : List Int} {p : Int} (h : hget H r = some (rd bs p)) : hload H r 0 0 1 1 = some [.d (.int .i64 p)] := by
  simp [hload, rd_row h, V.cells]
theorem rd_store {H : Hp} {r : Nat} {bs : List Int} {p q : Int} (h : hget H r = some (rd bs p)) : hstore H r 0 0 1 [.d (.int .i64 q)] = some (hset H r (rd bs q)) := by
  simp [hstore, rd_row h, V.cells, reCell, V.isAgg, mkAgg, allD, rd]
theorem htake_hset {H : Hp} {r : Nat} {o : Ev.Obj} : htake (hset H r o) (hlen H) = hset H r o := by
  have := htake_self (hset H r o)
  rwa [hlen_hset] at this
def okBytes (bs : List Int) : Prop := bs.length ≤ 2000 ∧ ∀ i, 0 ≤ bs.getD i 0 ∧ bs.getD i 0 ≤ 255
theorem bytes_get (bs : List Int) (i : Nat) (hi : i < bs.length) : (bs.map (D.int .u8)).getD i .nilp = .int .u8 (bs.getD i 0) := by
  simp [List.getD_eq_getElem?_getD, hi]
theorem xor_in (x y : Int) (hx : 0 ≤ x) (hx2 : x < 9223372036854775808) (hy : 0 ≤ y) (hy2 : y < 9223372036854775808) : ∃ z, bitsOp .xor .i64 x y = some z ∧ 0 ≤ z := by
  obtain ⟨a, rfl⟩ := Int.eq_ofNat_of_zero_le hx
  obtain ⟨b, rfl⟩ := Int.eq_ofNat_of_zero_le hy
  have ha : a < 2 ^ 63 := by omega
  have hb : b < 2 ^ 63 := by omega
  have hlt : a ^^^ b < 2 ^ 63 := Nat.xor_lt_two_pow ha hb
  have e : ((BitVec.ofInt 64 (a : Int) ^^^ BitVec.ofInt 64 (b : Int)).toNat : Int) = ((a ^^^ b : Nat) : Int) := by
    rw [BitVec.ofInt_natCast, BitVec.ofInt_natCast, BitVec.toNat_xor, BitVec.toNat_ofNat, BitVec.toNat_ofNat, Nat.mod_eq_of_lt (by omega), Nat.mod_eq_of_lt (by omega)]
  refine ⟨((a ^^^ b : Nat) : Int), ?_, by omega⟩
  show some (IntKind.i64.wrap ((BitVec.ofInt 64 (a : Int) ^^^ BitVec.ofInt 64 (b : Int)).toNat : Int)) = _
  rw [e, IntWalk.i64_in _ (by omega)]
/-- What is drawn far behind. -/
def farV (bs : List Int) (p : Int) : Int :=
  bs.getD (p.tmod bs.length).toNat 0 * 131 + bs.getD ((p * 7 + 3).tmod bs.length).toNat 0 * 1117 + p * 29 + p.tdiv bs.length * 53
def pickV (bs : List Int) (p n : Int) : Int :=
  if n < 1 then 0 else if bs.length = 0 then 0 else if p < bs.length then (bs.getD p.toNat 0).tmod n else ((bitsOp .xor .i64 (farV bs p) ((farV bs p).tdiv 64)).getD 0).tmod n
theorem pickV_in (bs : List Int) (p n : Int) (hb : okBytes bs) (hp : 0 ≤ p) (hp2 : p ≤ 1000000000000) : 0 ≤ pickV bs p n ∧ (1 ≤ n → pickV bs p n < n) := by
  unfold pickV
  split
  · omega
  · split
    · omega
    · split
      · have := hb.2 p.toNat
        exact ⟨Int.tmod_nonneg _ this.1, fun h => Int.tmod_lt_of_pos _ (by omega)⟩
      · rename_i h1 h2 h3
        have c1 := hb.2 (p.tmod bs.length).toNat
        have c2 := hb.2 ((p * 7 + 3).tmod bs.length).toNat
        have d0 : 0 ≤ p.tdiv bs.length ∧ p.tdiv bs.length ≤ p := by
          rw [Int.tdiv_eq_ediv_of_nonneg hp]
          exact ⟨Int.ediv_nonneg hp (by omega), Int.ediv_le_self _ hp⟩
        have xb : 0 ≤ farV bs p ∧ farV bs p < 9223372036854775807 := by
          unfold farV
          omega
        have t0 : 0 ≤ (farV bs p).tdiv 64 ∧ (farV bs p).tdiv 64 ≤ farV bs p := by
          rw [Int.tdiv_eq_ediv_of_nonneg xb.1]
          omega
        obtain ⟨z, hz1, hz2⟩ := xor_in (farV bs p) ((farV bs p).tdiv 64) xb.1 (by omega) t0.1 (by omega)
        rw [hz1]
        exact ⟨Int.tmod_nonneg _ hz2, fun h => Int.tmod_lt_of_pos _ (by omega)⟩
/-- One of a list, drawn. -/
def ofV (bs : List Int) (p : Int) (xs : List Txt) : Txt := xs.getD (pickV bs p xs.length).toNat []
/-- A text, as often as that. -/
def many (s : Txt) (n : Nat) (out : Txt) : Txt :=
  if h : n = 0 then out else many (s ++ s) (n / 2) (if n % 2 = 1 then out ++ s else out)
termination_by n
decreasing_by omega
def textList : List Txt := [[], [97], [98], [99], [53], [45, 51], [104, 101, 108, 108, 111], [13, 10], [255], many [120] 40 [], [57, 57, 57, 57, 57, 57, 57, 57, 57]]
/-- A text, drawn. -/
def textV (bs : List Int) (p : Int) : Txt := ofV bs p textList
theorem many_len (s : Txt) (n : Nat) (out : Txt) : (many s n out).length = out.length + s.length * n := by
  induction n using Nat.strongRecOn generalizing s out with
  | _ n ih =>
    rw [many]
    split
    · rename_i h; subst h; simp
    · rw [ih (n / 2) (by omega)]
      have hodd : s.length * n = s.length * (n / 2) * 2 + s.length * (n % 2) := by
        rw [Nat.mul_assoc, ← Nat.mul_add]
        congr 1
        omega
      have hd : (s ++ s).length * (n / 2) = s.length * (n / 2) * 2 := by rw [List.length_append, Nat.add_mul]; omega
      rw [hd]
      split
      · rename_i h; rw [h] at hodd; rw [List.length_append]; omega
      · rename_i h; have : n % 2 = 0 := by omega
        rw [this] at hodd; omega
theorem ofV_all (bs : List Int) (p : Int) (xs : List Txt) (m : Nat) (h : ∀ x ∈ xs, x.length ≤ m) : (ofV bs p xs).length ≤ m := by
  unfold ofV
  by_cases hi : (pickV bs p xs.length).toNat < xs.length
  · rw [List.getD_eq_getElem?_getD, List.getElem?_eq_getElem hi]
    exact h _ (List.getElem_mem hi)
  · rw [List.getD_eq_getElem?_getD, List.getElem?_eq_none (by omega)]
    exact Nat.zero_le _
theorem textV_len (bs : List Int) (p : Int) : (textV bs p).length ≤ 40 := by
  refine ofV_all bs p textList 40 fun x hx => ?_
  have hm := many_len [120] 40 []
  simp only [textList, List.mem_cons, List.not_mem_nil, or_false] at hx
  rcases hx with rfl | rfl | rfl | rfl | rfl | rfl | rfl | rfl | rfl | rfl | rfl <;> first | (rw [hm]; simp) | simp
/-- The bytes that the reader reads. -/
def opened (bs : List Int) : List Int := bs.take 2000
theorem opened_ok (bs : List Int) (h : ∀ i, 0 ≤ bs.getD i 0 ∧ bs.getD i 0 ≤ 255) : okBytes (opened bs) := by
  refine ⟨by simp [opened]; omega, fun i => ?_⟩
  by_cases hi : i < 2000
  · have : (opened bs).getD i 0 = bs.getD i 0 := by simp [opened, List.getD_eq_getElem?_getD, List.getElem?_take, hi]
    rw [this]; exact h i
  · have : (opened bs).getD i 0 = 0 := by simp [opened, List.getD_eq_getElem?_getD, List.getElem?_take, hi]
    rw [this]; omega
/-- The texts that a bit is looked for in. -/
def bitTexts (t : Txt) : List Txt := [[], [255], [0, 1], [255, 254], [0], t]
end Go.Proofs.YtjdmiodinhlchaaDoor.Code
/- Numbers written out, in the draws. -/
namespace Go.Proofs.YtjdmiodinhlchaaDoor.Code
open Go Go.Ev Go.Proofs
set_option maxRecDepth 100000
set_option linter.unusedSimpArgs false
set_option linter.unusedVariables false
def decV (n : Nat) : Txt := if h : n < 10 then [UInt8.ofNat (48 + n)] else decV (n / 10) ++ [UInt8.ofNat (48 + n % 10)]
termination_by n
decreasing_by omega
theorem decV_len (n : Nat) : (decV n).length ≤ n + 1 := by
  induction n using Nat.strongRecOn with
  | _ n ih =>
    rw [decV]
    split
    · simp
    · have := ih (n / 10) (by omega)
      rw [List.length_append]
      simp only [List.length_singleton]
      omega
theorem e_22 (n : Nat) : ∀ (H : Hp), n ≤ 1000000000 → ev R 22 [.d (.int .i64 n)] H = some (.d (.str (decV n)), H) := by
  induction n using Nat.strongRecOn with
  | _ n ih =>
    intro H hn
    refine ev_fn (fn := f22) rfl rfl ?_
    have c1 : ¬ (n : Int) < -9223372036854775807 := by omega
    have c2 : ¬ (n : Int) < 0 := by omega
    by_cases c3 : n < 10
    · have c3' : (n : Int) < 10 := by omega
      have w1 : IntKind.i64.wrap (48 + (n : Int)) = 48 + n := IntWalk.i64_in _ (by omega)
      have w2 : IntKind.u8.wrap (48 + (n : Int)) = 48 + n := IntWalk.u8_in _ (by omega)
      have t : (48 + (n : Int)).toNat = 48 + n := by omega
      rw [decV, dif_pos c3]
      simp [-List.getD_eq_getElem?_getD, -List.map_map, evBody, evCode, evOps, evOper, evOp, opd, Env.get, Env.put, Env.keep, zipEnv, V.ok, V.sto, V.cells, D.cells, V.isAgg, binD, binInt, binStr, shInt, unD, eqOf, asI, leave, resOf, mapO, fzV, tupOf, view, view1, isData, hand, flatV, flatD, allD, mkAgg, mkVal, beq_lit, IntKind.bits, htake_self, htake_push, hget_hpush_self, hset_push, rowOf_self, okIn, lowIn, lowIn1, fzC_d, fzC_row, f22, c1, c2, c3, c3', w1, w2, t, src, strOf]
    · have c3' : ¬ (n : Int) < 10 := by omega
      have q : pureCall (ev R) 22 [.d (.int .i64 ((n / 10 : Nat) : Int))] = some (.d (.str (decV (n / 10)))) := pureCall_eq fun H => ih (n / 10) (by omega) H (by omega)
      obtain ⟨k, hk⟩ : ∃ k : Int, ((n / 10 : Nat) : Int) = k := ⟨_, rfl⟩
      obtain ⟨d, hd⟩ : ∃ d : Int, (n : Int).tmod 10 = d := ⟨_, rfl⟩
      have hd' : d = ((n % 10 : Nat) : Int) := by rw [← hd, Int.tmod_eq_emod_of_nonneg (by omega)]; omega
      rw [hk] at q
      have w0 : IntKind.i64.wrap ((n : Int).tdiv 10) = k := by rw [Int.tdiv_eq_ediv_of_nonneg (by omega), IntWalk.i64_in _ (by omega)]; omega
      have w0' : IntKind.i64.wrap ((n : Int) / 10) = k := by rw [IntWalk.i64_in _ (by omega)]; omega
      have hd2 : (n : Int) % 10 = d := by omega
      have w1 : IntKind.i64.wrap (48 + d) = 48 + d := IntWalk.i64_in _ (by omega)
      have w2 : IntKind.u8.wrap (48 + d) = 48 + d := IntWalk.u8_in _ (by omega)
      have t : (48 + d).toNat = 48 + n % 10 := by omega
      have hl := decV_len (n / 10)
      have l : (decV (n / 10)).length + 1 ≤ strRoom := by unfold strRoom; omega
      rw [decV, dif_neg c3]
      simp [-List.getD_eq_getElem?_getD, -List.map_map, evBody, evCode, evOps, evOper, evOp, opd, Env.get, Env.put, Env.keep, zipEnv, V.ok, V.sto, V.cells, D.cells, V.isAgg, binD, binInt, binStr, shInt, unD, eqOf, asI, leave, resOf, mapO, fzV, tupOf, view, view1, isData, hand, flatV, flatD, allD, mkAgg, mkVal, beq_lit, IntKind.bits, htake_self, htake_push, hget_hpush_self, hset_push, rowOf_self, okIn, lowIn, lowIn1, fzC_d, fzC_row, f22, c1, c2, c3, c3', q, w0, w0', hd, hd2, w1, w2, t, l, src, strOf]
end Go.Proofs.YtjdmiodinhlchaaDoor.Code
/- One bit of a text, in the code under test and in what it is held against. -/
namespace Go.Proofs.YtjdmiodinhlchaaDoor.Code
open Go Go.Ev Go.Proofs
set_option maxRecDepth 100000
set_option linter.unusedSimpArgs false
theorem e_20 (H : Hp) (a b c : Int) : ev R 20 [.d (.int .i64 a), .d (.int .i64 b), .d (.int .i64 c)] H = some (.d (.bool (decide (a ≥ b) && decide (a ≤ c))), H) := by
  refine ev_fn (fn := f20) rfl rfl ?_
  by_cases h1 : a ≥ b <;> by_cases h2 : a ≤ c <;>
  simp [-List.getD_eq_getElem?_getD, -List.map_map, evBody, evCode, evOps, evOper, evOp, opd, Env.get, Env.put, Env.keep, zipEnv, V.ok, V.sto, V.cells, D.cells, V.isAgg, binD, binInt, binStr, shInt, unD, eqOf, asI, leave, resOf, mapO, fzV, fzC, tupOf, htake, hlen, view, view1, isData, hand, flatV, flatD, allD, mkAgg, mkVal, beq_lit, IntKind.bits, f20, h1, h2]
theorem e_25 (H : Hp) (a b c : Int) : ev R 25 [.d (.int .i64 a), .d (.int .i64 b), .d (.int .i64 c)] H = some (.d (.bool (decide (a ≥ b) && decide (a ≤ c))), H) := by
  refine ev_fn (fn := f25) rfl rfl ?_
  by_cases h1 : a ≥ b <;> by_cases h2 : a ≤ c <;>
  simp [-List.getD_eq_getElem?_getD, -List.map_map, evBody, evCode, evOps, evOper, evOp, opd, Env.get, Env.put, Env.keep, zipEnv, V.ok, V.sto, V.cells, D.cells, V.isAgg, binD, binInt, binStr, shInt, unD, eqOf, asI, leave, resOf, mapO, fzV, fzC, tupOf, htake, hlen, view, view1, isData, hand, flatV, flatD, allD, mkAgg, mkVal, beq_lit, IntKind.bits, f25, h1, h2]
theorem p_20 (a b c : Int) : pureCall (ev R) 20 [.d (.int .i64 a), .d (.int .i64 b), .d (.int .i64 c)] = some (.d (.bool (decide (a ≥ b) && decide (a ≤ c)))) := pureCall_eq fun H => e_20 H a b c
theorem p_25 (a b c : Int) : pureCall (ev R) 25 [.d (.int .i64 a), .d (.int .i64 b), .d (.int .i64 c)] = some (.d (.bool (decide (a ≥ b) && decide (a ≤ c)))) := pureCall_eq fun H => e_25 H a b c
theorem and1 (x : Int) (h0 : 0 ≤ x) (h9 : x < 9223372036854775808) : bitsOp .and .i64 x 1 = some (x % 2) := by
  have e : ((BitVec.ofInt 64 x &&& BitVec.ofInt 64 1).toNat : Int) = x % 2 := by
    obtain ⟨n, rfl⟩ := Int.eq_ofNat_of_zero_le h0
    simp
  show some (IntKind.i64.wrap ((BitVec.ofInt 64 x &&& BitVec.ofInt 64 1).toNat : Int)) = _
  rw [e, IntWalk.i64_in _ (by omega)]
def bit (s : List UInt8) (i : Int) : Int := if i / 8 ≥ s.length then 0 else ((s.getD (i / 8).toNat 0).toNat : Int) / (2 ^ (7 - i % 8).toNat) % 2
theorem u8_fits (x : UInt8) : IntKind.i64.wrap (x.toNat : Int) = x.toNat := IntWalk.i64_in _ (by have := x.toNat_lt; omega)
theorem shr_u8 (x : UInt8) (k : Nat) : (x.toNat : Int).fdiv (2 ^ k) = (x.toNat : Int) / 2 ^ k ∧ 0 ≤ (x.toNat : Int) / 2 ^ k ∧ (x.toNat : Int) / 2 ^ k ≤ 255 := by
  have h := x.toNat_lt
  have p : (0 : Int) < 2 ^ k := Int.pow_pos (by omega)
  refine ⟨Int.fdiv_eq_ediv_of_nonneg _ (by omega), Int.ediv_nonneg (by omega) (by omega), ?_⟩
  have := Int.ediv_le_self (a := (x.toNat : Int)) (2 ^ k) (by omega)
  omega
end Go.Proofs.YtjdmiodinhlchaaDoor.Code
/- Entries as data, and how much is left behind one. -/
namespace Go.Proofs.YtjdmiodinhlchaaDoor.Code
open Go Go.Ev Go.Proofs
set_option maxRecDepth 100000
set_option linter.unusedSimpArgs false
set_option linter.unusedVariables false
theorem scs_len (xs : List Sc) : (xs.map scD).length = xs.length := by simp
theorem prs_len (xs : List Pr) : (xs.map prD).length = xs.length := by simp
theorem scs_get (xs : List Sc) (i : Nat) (hi : i < xs.length) : (xs.map scD).getD i .nilp = .agg [.str (xs.getD i ([], 0)).1, .int .i64 (xs.getD i ([], 0)).2] := by
  simp [scD, List.getD_eq_getElem?_getD, hi]
theorem prs_get (xs : List Pr) (i : Nat) (hi : i < xs.length) : (xs.map prD).getD i .nilp = .agg [.str (xs.getD i ([], [])).1, .str (xs.getD i ([], [])).2] := by
  simp [prD, List.getD_eq_getElem?_getD, hi]
/-- What a text leaves. -/
def lessV (s : Txt) (l : Int) : Int := if l - (s.length : Int) < 0 then -1 else l - s.length
theorem lessV_le (s : Txt) (l : Int) (h : 0 ≤ l) : -1 ≤ lessV s l ∧ lessV s l ≤ l := by
  unfold lessV; split <;> omega
theorem e_54 (H : Hp) (x : Txt) (n : Int) (hx : x.length ≤ 9223372036854775807) (l : Int) (hl : 0 ≤ l) (hl2 : l ≤ 1048576) : ev R 54 [.d (.agg [.str x, .int .i64 n]), .d (.int .i64 l)] H = some (.d (.int .i64 (lessV x l)), H) := by
  refine ev_fn (fn := f54) rfl rfl ?_
  have w : IntKind.i64.wrap (l - (x.length : Int)) = l - x.length := IntWalk.i64_in _ (by omega)
  unfold lessV
  by_cases hb : l - (x.length : Int) < 0
  · simp [-List.getD_eq_getElem?_getD, -List.map_map, evBody, evCode, evOps, evOper, evOp, opd, Env.get, Env.put, Env.keep, zipEnv, V.ok, V.sto, V.cells, D.cells, V.isAgg, binD, binInt, binStr, shInt, unD, eqOf, asI, leave, resOf, mapO, fzV, tupOf, view, view1, isData, hand, flatV, flatD, allD, mkAgg, mkVal, beq_lit, IntKind.bits, htake_self, htake_push, hget_hpush_self, hset_push, rowOf_self, okIn, lowIn, lowIn1, fzC_d, fzC_row, f54, hload, w, hb]
  · simp [-List.getD_eq_getElem?_getD, -List.map_map, evBody, evCode, evOps, evOper, evOp, opd, Env.get, Env.put, Env.keep, zipEnv, V.ok, V.sto, V.cells, D.cells, V.isAgg, binD, binInt, binStr, shInt, unD, eqOf, asI, leave, resOf, mapO, fzV, tupOf, view, view1, isData, hand, flatV, flatD, allD, mkAgg, mkVal, beq_lit, IntKind.bits, htake_self, htake_push, hget_hpush_self, hset_push, rowOf_self, okIn, lowIn, lowIn1, fzC_d, fzC_row, f54, hload, w, hb]
theorem e_55 (H : Hp) (x y : Txt) (hx : x.length ≤ 9223372036854775807) (hy : y.length ≤ 9223372036854775807) (l : Int) (hl : 0 ≤ l) (hl2 : l ≤ 1048576) : ev R 55 [.d (.agg [.str x, .str y]), .d (.int .i64 l)] H = some (.d (.int .i64 (if lessV x l < 0 then -1 else lessV y (lessV x l))), H) := by
  refine ev_fn (fn := f55) rfl rfl ?_
  have w : IntKind.i64.wrap (l - (x.length : Int)) = l - x.length := IntWalk.i64_in _ (by omega)
  unfold lessV
  by_cases hb : l - (x.length : Int) < 0
  · simp [-List.getD_eq_getElem?_getD, -List.map_map, evBody, evCode, evOps, evOper, evOp, opd, Env.get, Env.put, Env.keep, zipEnv, V.ok, V.sto, V.cells, D.cells, V.isAgg, binD, binInt, binStr, shInt, unD, eqOf, asI, leave, resOf, mapO, fzV, tupOf, view, view1, isData, hand, flatV, flatD, allD, mkAgg, mkVal, beq_lit, IntKind.bits, htake_self, htake_push, hget_hpush_self, hset_push, rowOf_self, okIn, lowIn, lowIn1, fzC_d, fzC_row, f55, hload, w, hb]
  · have w2 : IntKind.i64.wrap (l - (x.length : Int) - (y.length : Int)) = l - x.length - y.length := IntWalk.i64_in _ (by omega)
    by_cases hc : l - (x.length : Int) - (y.length : Int) < 0
    · simp [-List.getD_eq_getElem?_getD, -List.map_map, evBody, evCode, evOps, evOper, evOp, opd, Env.get, Env.put, Env.keep, zipEnv, V.ok, V.sto, V.cells, D.cells, V.isAgg, binD, binInt, binStr, shInt, unD, eqOf, asI, leave, resOf, mapO, fzV, tupOf, view, view1, isData, hand, flatV, flatD, allD, mkAgg, mkVal, beq_lit, IntKind.bits, htake_self, htake_push, hget_hpush_self, hset_push, rowOf_self, okIn, lowIn, lowIn1, fzC_d, fzC_row, f55, hload, w, w2, hb, hc]
    · simp [-List.getD_eq_getElem?_getD, -List.map_map, evBody, evCode, evOps, evOper, evOp, opd, Env.get, Env.put, Env.keep, zipEnv, V.ok, V.sto, V.cells, D.cells, V.isAgg, binD, binInt, binStr, shInt, unD, eqOf, asI, leave, resOf, mapO, fzV, tupOf, view, view1, isData, hand, flatV, flatD, allD, mkAgg, mkVal, beq_lit, IntKind.bits, htake_self, htake_push, hget_hpush_self, hset_push, rowOf_self, okIn, lowIn, lowIn1, fzC_d, fzC_row, f55, hload, w, w2, hb, hc]
/-- What the elements leave, one behind the other. -/
def spendF (f : Nat → Int → Int) : Nat → Nat → Int → Int
  | 0, _, l => l
  | n + 1, i, l => if f i l < 0 then -1 else spendF f n (i + 1) (f i l)
theorem spendF_le (f : Nat → Int → Int) (hf : ∀ i l, 0 ≤ l → f i l ≤ l) : ∀ (n i : Nat) (l : Int), 0 ≤ l → spendF f n i l ≤ l
  | 0, _, l, _ => Int.le_refl _
  | n + 1, i, l, h => by
    simp only [spendF]
    split
    · omega
    · have h1 := hf i l h
      have := spendF_le f hf n (i + 1) (f i l) (by omega)
      omega
def scF (xs : List Sc) (i : Nat) (l : Int) : Int := lessV (xs.getD i ([], 0)).1 l
def prF (xs : List Pr) (i : Nat) (l : Int) : Int := if lessV (xs.getD i ([], [])).1 l < 0 then -1 else lessV (xs.getD i ([], [])).2 (lessV (xs.getD i ([], [])).1 l)
theorem scF_le (xs : List Sc) (i : Nat) (l : Int) (h : 0 ≤ l) : scF xs i l ≤ l := (lessV_le _ l h).2
theorem prF_le (xs : List Pr) (i : Nat) (l : Int) (h : 0 ≤ l) : prF xs i l ≤ l := by
  unfold prF
  have h1 := lessV_le (xs.getD i ([], [])).1 l h
  split
  · omega
  · have := lessV_le (xs.getD i ([], [])).2 _ (show 0 ≤ lessV (xs.getD i ([], [])).1 l by omega)
    omega
/-- What a list leaves. -/
def leftF (f : Nat → Int → Int) (len : Nat) (l : Int) : Int := if l - (len : Int) < 0 then -1 else (if spendF f len 0 (l - len) < 0 then -1 else spendF f len 0 (l - len))
theorem leftF_le (f : Nat → Int → Int) (hf : ∀ i l, 0 ≤ l → f i l ≤ l) (len : Nat) (l : Int) (h : 0 ≤ l) : leftF f len l ≤ l ∧ (0 ≤ leftF f len l → (len : Int) ≤ l) := by
  unfold leftF
  split
  · omega
  · rename_i c
    have := spendF_le f hf len 0 (l - len) (by omega)
    split <;> omega
theorem l_32 (n0 : Nat) (xs : List Sc) (hx : xs.length ≤ 9223372036854775807) (hf : ∀ i, ((xs.getD i ([], 0)).1).length ≤ 9223372036854775807) (H : Hp) : ∀ (n i : Nat) (l : Int) (e : Env), i + n = xs.length → 0 ≤ l → l ≤ 1048576 → e.get 0 = .d (.vals 2 (xs.map scD)) → e.get 1 = .d (.int .i64 l) → e.get 5 = .d (.int .i64 i) →
    ∃ e', evLoop (evCode (ev R) R.glob n0 evLoop f32l0) [0, 1, 5] ⟨e, H⟩ = some ((if spendF (scF xs) n i l < 0 then .ret else .exit 0), ⟨e', H⟩) ∧
      (spendF (scF xs) n i l < 0 → e'.get 4 = .d (.int .i64 (-1))) ∧ (¬ spendF (scF xs) n i l < 0 → e'.get 1 = .d (.int .i64 (spendF (scF xs) n i l)))
  | 0, i, l, e, hn, hl, hl2, h0, h1, h5 => by
    have c : ¬ (i : Int) < (xs.length : Int) := by omega
    have c' : ¬ i < xs.length := by omega
    have c2 : ¬ l < 0 := by omega
    rw [evLoop_eq]
    refine ⟨?_, ?_, ?_, ?_⟩
    rotate_left
    · simp [-List.getD_eq_getElem?_getD, -List.map_map, evBody, evCode, evOps, evOper, evOp, opd, Env.get, Env.put, Env.keep, zipEnv, V.ok, V.sto, V.cells, D.cells, V.isAgg, binD, binInt, binStr, shInt, unD, eqOf, asI, leave, resOf, mapO, fzV, tupOf, view, view1, isData, hand, flatV, flatD, allD, mkAgg, mkVal, beq_lit, IntKind.bits, htake_self, htake_push, hget_hpush_self, hset_push, rowOf_self, okIn, lowIn, lowIn1, fzC_d, fzC_row, f32l0, h0, h1, h5, c, c', spendF, c2]
      try rfl
    · intro hj; exact absurd hj c2
    · intro _
      simp [-List.getD_eq_getElem?_getD, -List.map_map, evBody, evCode, evOps, evOper, evOp, opd, Env.get, Env.put, Env.keep, zipEnv, V.ok, V.sto, V.cells, D.cells, V.isAgg, binD, binInt, binStr, shInt, unD, eqOf, asI, leave, resOf, mapO, fzV, tupOf, view, view1, isData, hand, flatV, flatD, allD, mkAgg, mkVal, beq_lit, IntKind.bits, htake_self, htake_push, hget_hpush_self, hset_push, rowOf_self, okIn, lowIn, lowIn1, fzC_d, fzC_row, h1, spendF]
  | n + 1, i, l, e, hn, hl, hl2, h0, h1, h5 => by
    have c' : i < xs.length := by omega
    have c : (i : Int) < (xs.length : Int) := by omega
    have g := scs_get xs i c'
    have hfi := hf i
    have w1 : IntKind.i64.wrap ((i : Int) + 1) = ((i + 1 : Nat) : Int) := by rw [IntWalk.i64_in _ (by omega)]; rfl
    have p := pureCall_eq (cl := ev R) fun H => e_54 H (xs.getD i ([], 0)).1 (xs.getD i ([], 0)).2 (hfi) l hl hl2
    have lin := scF_le xs i l hl
    have ih := l_32 n0 xs hx hf H n (i + 1) (scF xs i l)
    simp only [spendF]
    have ef : lessV (xs.getD i ([], 0)).1 l = scF xs i l := rfl
    rw [ef] at p
    obtain ⟨L, hL⟩ : ∃ L, scF xs i l = L := ⟨_, rfl⟩
    simp only [hL] at p lin ih ⊢
    generalize (xs.getD i ([], 0)) = X at *
    rw [evLoop_eq]
    generalize evLoop (evCode (ev R) R.glob n0 evLoop f32l0) [0, 1, 5] = F at ih ⊢
    by_cases hb : L < 0
    · simp only [hb, if_true]
      refine ⟨?_, ?_, ?_, ?_⟩
      rotate_left
      · simp [-List.getD_eq_getElem?_getD, -List.map_map, evBody, evCode, evOps, evOper, evOp, opd, Env.get, Env.put, Env.keep, zipEnv, V.ok, V.sto, V.cells, D.cells, V.isAgg, binD, binInt, binStr, shInt, unD, eqOf, asI, leave, resOf, mapO, fzV, tupOf, view, view1, isData, hand, flatV, flatD, allD, mkAgg, mkVal, beq_lit, IntKind.bits, htake_self, htake_push, hget_hpush_self, hset_push, rowOf_self, okIn, lowIn, lowIn1, fzC_d, fzC_row, f32l0, h0, h1, h5, c, c', g, p, hb]
        try rfl
      · intro hj; simp [-List.getD_eq_getElem?_getD, -List.map_map, evBody, evCode, evOps, evOper, evOp, opd, Env.get, Env.put, Env.keep, zipEnv, V.ok, V.sto, V.cells, D.cells, V.isAgg, binD, binInt, binStr, shInt, unD, eqOf, asI, leave, resOf, mapO, fzV, tupOf, view, view1, isData, hand, flatV, flatD, allD, mkAgg, mkVal, beq_lit, IntKind.bits, htake_self, htake_push, hget_hpush_self, hset_push, rowOf_self, okIn, lowIn, lowIn1, fzC_d, fzC_row]
      · intro hj; omega
    · simp only [hb, if_false]
      generalize spendF (scF xs) n (i + 1) L = z at ih ⊢
      have ih : ∀ e : Env, e.get 0 = .d (.vals 2 (xs.map scD)) → e.get 1 = .d (.int .i64 L) → e.get 5 = .d (.int .i64 (i + 1 : Nat)) → _ := fun e => ih e (by omega) (by omega) (by omega)
      by_cases hz : z < 0
      · simp only [hz, if_true, not_true, false_imp_iff, true_imp_iff, and_true] at ih ⊢
        simp [-List.getD_eq_getElem?_getD, -List.map_map, evBody, evCode, evOps, evOper, evOp, opd, Env.get, Env.put, Env.keep, zipEnv, V.ok, V.sto, V.cells, D.cells, V.isAgg, binD, binInt, binStr, shInt, unD, eqOf, asI, leave, resOf, mapO, fzV, tupOf, view, view1, isData, hand, flatV, flatD, allD, mkAgg, mkVal, beq_lit, IntKind.bits, htake_self, htake_push, hget_hpush_self, hset_push, rowOf_self, okIn, lowIn, lowIn1, fzC_d, fzC_row, f32l0, h0, h1, h5, c, c', g, p, w1, hb]
        all_goals (refine ih _ ?_ ?_ ?_ <;> rfl)
      · simp only [hz, if_false, not_false_iff, false_imp_iff, true_imp_iff, true_and] at ih ⊢
        simp [-List.getD_eq_getElem?_getD, -List.map_map, evBody, evCode, evOps, evOper, evOp, opd, Env.get, Env.put, Env.keep, zipEnv, V.ok, V.sto, V.cells, D.cells, V.isAgg, binD, binInt, binStr, shInt, unD, eqOf, asI, leave, resOf, mapO, fzV, tupOf, view, view1, isData, hand, flatV, flatD, allD, mkAgg, mkVal, beq_lit, IntKind.bits, htake_self, htake_push, hget_hpush_self, hset_push, rowOf_self, okIn, lowIn, lowIn1, fzC_d, fzC_row, f32l0, h0, h1, h5, c, c', g, p, w1, hb]
        all_goals (refine ih _ ?_ ?_ ?_ <;> rfl)
theorem e_32 (H : Hp) (xs : List Sc) (hx : xs.length ≤ 9223372036854775807) (hf : ∀ i, ((xs.getD i ([], 0)).1).length ≤ 9223372036854775807) (l : Int) (hl : 0 ≤ l) (hl2 : l ≤ 1048576) : ev R 32 [.d (.vals 2 (xs.map scD)), .d (.int .i64 l)] H = some (.d (.int .i64 (leftF (scF xs) xs.length l)), H) := by
  refine ev_fn (fn := f32) rfl rfl ?_
  have w : IntKind.i64.wrap (l - (xs.length : Int)) = l - xs.length := IntWalk.i64_in _ (by omega)
  unfold leftF
  by_cases hb : l - (xs.length : Int) < 0
  · simp [-List.getD_eq_getElem?_getD, -List.map_map, evBody, evCode, evOps, evOper, evOp, opd, Env.get, Env.put, Env.keep, zipEnv, V.ok, V.sto, V.cells, D.cells, V.isAgg, binD, binInt, binStr, shInt, unD, eqOf, asI, leave, resOf, mapO, fzV, tupOf, view, view1, isData, hand, flatV, flatD, allD, mkAgg, mkVal, beq_lit, IntKind.bits, htake_self, htake_push, hget_hpush_self, hset_push, rowOf_self, okIn, lowIn, lowIn1, fzC_d, fzC_row, f32, w, hb]
  · obtain ⟨e', he, h1, h2⟩ := l_32 (hlen H) xs hx hf H xs.length 0 (l - xs.length) [(0, .d (.vals 2 (xs.map scD))), (1, .d (.int .i64 (l - xs.length))), (5, .d (.int .i64 0))] (by omega) (by omega) (by omega) rfl rfl rfl
    generalize spendF (scF xs) xs.length 0 (l - xs.length) = z at he h1 h2 ⊢
    by_cases hz : z < 0
    · simp only [hz, if_true] at he
      simp [-List.getD_eq_getElem?_getD, -List.map_map, evBody, evCode, evOps, evOper, evOp, opd, Env.get, Env.put, Env.keep, zipEnv, V.ok, V.sto, V.cells, D.cells, V.isAgg, binD, binInt, binStr, shInt, unD, eqOf, asI, leave, resOf, mapO, fzV, tupOf, view, view1, isData, hand, flatV, flatD, allD, mkAgg, mkVal, beq_lit, IntKind.bits, htake_self, htake_push, hget_hpush_self, hset_push, rowOf_self, okIn, lowIn, lowIn1, fzC_d, fzC_row, f32, w, hb, he, h1 hz, hz]
    · simp only [hz, if_false] at he
      simp [-List.getD_eq_getElem?_getD, -List.map_map, evBody, evCode, evOps, evOper, evOp, opd, Env.get, Env.put, Env.keep, zipEnv, V.ok, V.sto, V.cells, D.cells, V.isAgg, binD, binInt, binStr, shInt, unD, eqOf, asI, leave, resOf, mapO, fzV, tupOf, view, view1, isData, hand, flatV, flatD, allD, mkAgg, mkVal, beq_lit, IntKind.bits, htake_self, htake_push, hget_hpush_self, hset_push, rowOf_self, okIn, lowIn, lowIn1, fzC_d, fzC_row, f32, w, hb, he, h2 hz, hz]
theorem l_33 (n0 : Nat) (xs : List Pr) (hx : xs.length ≤ 9223372036854775807) (hf : ∀ i, ((xs.getD i ([], [])).1).length ≤ 9223372036854775807 ∧ ((xs.getD i ([], [])).2).length ≤ 9223372036854775807) (H : Hp) : ∀ (n i : Nat) (l : Int) (e : Env), i + n = xs.length → 0 ≤ l → l ≤ 1048576 → e.get 0 = .d (.vals 2 (xs.map prD)) → e.get 1 = .d (.int .i64 l) → e.get 5 = .d (.int .i64 i) →
    ∃ e', evLoop (evCode (ev R) R.glob n0 evLoop f33l0) [0, 1, 5] ⟨e, H⟩ = some ((if spendF (prF xs) n i l < 0 then .ret else .exit 0), ⟨e', H⟩) ∧
      (spendF (prF xs) n i l < 0 → e'.get 4 = .d (.int .i64 (-1))) ∧ (¬ spendF (prF xs) n i l < 0 → e'.get 1 = .d (.int .i64 (spendF (prF xs) n i l)))
  | 0, i, l, e, hn, hl, hl2, h0, h1, h5 => by
    have c : ¬ (i : Int) < (xs.length : Int) := by omega
    have c' : ¬ i < xs.length := by omega
    have c2 : ¬ l < 0 := by omega
    rw [evLoop_eq]
    refine ⟨?_, ?_, ?_, ?_⟩
    rotate_left
    · simp [-List.getD_eq_getElem?_getD, -List.map_map, evBody, evCode, evOps, evOper, evOp, opd, Env.get, Env.put, Env.keep, zipEnv, V.ok, V.sto, V.cells, D.cells, V.isAgg, binD, binInt, binStr, shInt, unD, eqOf, asI, leave, resOf, mapO, fzV, tupOf, view, view1, isData, hand, flatV, flatD, allD, mkAgg, mkVal, beq_lit, IntKind.bits, htake_self, htake_push, hget_hpush_self, hset_push, rowOf_self, okIn, lowIn, lowIn1, fzC_d, fzC_row, f33l0, h0, h1, h5, c, c', spendF, c2]
      try rfl
    · intro hj; exact absurd hj c2
    · intro _
      simp [-List.getD_eq_getElem?_getD, -List.map_map, evBody, evCode, evOps, evOper, evOp, opd, Env.get, Env.put, Env.keep, zipEnv, V.ok, V.sto, V.cells, D.cells, V.isAgg, binD, binInt, binStr, shInt, unD, eqOf, asI, leave, resOf, mapO, fzV, tupOf, view, view1, isData, hand, flatV, flatD, allD, mkAgg, mkVal, beq_lit, IntKind.bits, htake_self, htake_push, hget_hpush_self, hset_push, rowOf_self, okIn, lowIn, lowIn1, fzC_d, fzC_row, h1, spendF]
  | n + 1, i, l, e, hn, hl, hl2, h0, h1, h5 => by
    have c' : i < xs.length := by omega
    have c : (i : Int) < (xs.length : Int) := by omega
    have g := prs_get xs i c'
    have hfi := hf i
    have w1 : IntKind.i64.wrap ((i : Int) + 1) = ((i + 1 : Nat) : Int) := by rw [IntWalk.i64_in _ (by omega)]; rfl
    have p := pureCall_eq (cl := ev R) fun H => e_55 H (xs.getD i ([], [])).1 (xs.getD i ([], [])).2 hfi.1 hfi.2 l hl hl2
    have lin := prF_le xs i l hl
    have ih := l_33 n0 xs hx hf H n (i + 1) (prF xs i l)
    simp only [spendF]
    have ef : (if lessV (xs.getD i ([], [])).1 l < 0 then -1 else lessV (xs.getD i ([], [])).2 (lessV (xs.getD i ([], [])).1 l)) = prF xs i l := rfl
    rw [ef] at p
    obtain ⟨L, hL⟩ : ∃ L, prF xs i l = L := ⟨_, rfl⟩
    simp only [hL] at p lin ih ⊢
    generalize (xs.getD i ([], [])) = X at *
    rw [evLoop_eq]
    generalize evLoop (evCode (ev R) R.glob n0 evLoop f33l0) [0, 1, 5] = F at ih ⊢
    by_cases hb : L < 0
    · simp only [hb, if_true]
      refine ⟨?_, ?_, ?_, ?_⟩
      rotate_left
      · simp [-List.getD_eq_getElem?_getD, -List.map_map, evBody, evCode, evOps, evOper, evOp, opd, Env.get, Env.put, Env.keep, zipEnv, V.ok, V.sto, V.cells, D.cells, V.isAgg, binD, binInt, binStr, shInt, unD, eqOf, asI, leave, resOf, mapO, fzV, tupOf, view, view1, isData, hand, flatV, flatD, allD, mkAgg, mkVal, beq_lit, IntKind.bits, htake_self, htake_push, hget_hpush_self, hset_push, rowOf_self, okIn, lowIn, lowIn1, fzC_d, fzC_row, f33l0, h0, h1, h5, c, c', g, p, hb]
        try rfl
      · intro hj; simp [-List.getD_eq_getElem?_getD, -List.map_map, evBody, evCode, evOps, evOper, evOp, opd, Env.get, Env.put, Env.keep, zipEnv, V.ok, V.sto, V.cells, D.cells, V.isAgg, binD, binInt, binStr, shInt, unD, eqOf, asI, leave, resOf, mapO, fzV, tupOf, view, view1, isData, hand, flatV, flatD, allD, mkAgg, mkVal, beq_lit, IntKind.bits, htake_self, htake_push, hget_hpush_self, hset_push, rowOf_self, okIn, lowIn, lowIn1, fzC_d, fzC_row]
      · intro hj; omega
    · simp only [hb, if_false]
      generalize spendF (prF xs) n (i + 1) L = z at ih ⊢
      have ih : ∀ e : Env, e.get 0 = .d (.vals 2 (xs.map prD)) → e.get 1 = .d (.int .i64 L) → e.get 5 = .d (.int .i64 (i + 1 : Nat)) → _ := fun e => ih e (by omega) (by omega) (by omega)
      by_cases hz : z < 0
      · simp only [hz, if_true, not_true, false_imp_iff, true_imp_iff, and_true] at ih ⊢
        simp [-List.getD_eq_getElem?_getD, -List.map_map, evBody, evCode, evOps, evOper, evOp, opd, Env.get, Env.put, Env.keep, zipEnv, V.ok, V.sto, V.cells, D.cells, V.isAgg, binD, binInt, binStr, shInt, unD, eqOf, asI, leave, resOf, mapO, fzV, tupOf, view, view1, isData, hand, flatV, flatD, allD, mkAgg, mkVal, beq_lit, IntKind.bits, htake_self, htake_push, hget_hpush_self, hset_push, rowOf_self, okIn, lowIn, lowIn1, fzC_d, fzC_row, f33l0, h0, h1, h5, c, c', g, p, w1, hb]
        all_goals (refine ih _ ?_ ?_ ?_ <;> rfl)
      · simp only [hz, if_false, not_false_iff, false_imp_iff, true_imp_iff, true_and] at ih ⊢
        simp [-List.getD_eq_getElem?_getD, -List.map_map, evBody, evCode, evOps, evOper, evOp, opd, Env.get, Env.put, Env.keep, zipEnv, V.ok, V.sto, V.cells, D.cells, V.isAgg, binD, binInt, binStr, shInt, unD, eqOf, asI, leave, resOf, mapO, fzV, tupOf, view, view1, isData, hand, flatV, flatD, allD, mkAgg, mkVal, beq_lit, IntKind.bits, htake_self, htake_push, hget_hpush_self, hset_push, rowOf_self, okIn, lowIn, lowIn1, fzC_d, fzC_row, f33l0, h0, h1, h5, c, c', g, p, w1, hb]
        all_goals (refine ih _ ?_ ?_ ?_ <;> rfl)
theorem e_33 (H : Hp) (xs : List Pr) (hx : xs.length ≤ 9223372036854775807) (hf : ∀ i, ((xs.getD i ([], [])).1).length ≤ 9223372036854775807 ∧ ((xs.getD i ([], [])).2).length ≤ 9223372036854775807) (l : Int) (hl : 0 ≤ l) (hl2 : l ≤ 1048576) : ev R 33 [.d (.vals 2 (xs.map prD)), .d (.int .i64 l)] H = some (.d (.int .i64 (leftF (prF xs) xs.length l)), H) := by
  refine ev_fn (fn := f33) rfl rfl ?_
  have w : IntKind.i64.wrap (l - (xs.length : Int)) = l - xs.length := IntWalk.i64_in _ (by omega)
  unfold leftF
  by_cases hb : l - (xs.length : Int) < 0
  · simp [-List.getD_eq_getElem?_getD, -List.map_map, evBody, evCode, evOps, evOper, evOp, opd, Env.get, Env.put, Env.keep, zipEnv, V.ok, V.sto, V.cells, D.cells, V.isAgg, binD, binInt, binStr, shInt, unD, eqOf, asI, leave, resOf, mapO, fzV, tupOf, view, view1, isData, hand, flatV, flatD, allD, mkAgg, mkVal, beq_lit, IntKind.bits, htake_self, htake_push, hget_hpush_self, hset_push, rowOf_self, okIn, lowIn, lowIn1, fzC_d, fzC_row, f33, w, hb]
  · obtain ⟨e', he, h1, h2⟩ := l_33 (hlen H) xs hx hf H xs.length 0 (l - xs.length) [(0, .d (.vals 2 (xs.map prD))), (1, .d (.int .i64 (l - xs.length))), (5, .d (.int .i64 0))] (by omega) (by omega) (by omega) rfl rfl rfl
    generalize spendF (prF xs) xs.length 0 (l - xs.length) = z at he h1 h2 ⊢
    by_cases hz : z < 0
    · simp only [hz, if_true] at he
      simp [-List.getD_eq_getElem?_getD, -List.map_map, evBody, evCode, evOps, evOper, evOp, opd, Env.get, Env.put, Env.keep, zipEnv, V.ok, V.sto, V.cells, D.cells, V.isAgg, binD, binInt, binStr, shInt, unD, eqOf, asI, leave, resOf, mapO, fzV, tupOf, view, view1, isData, hand, flatV, flatD, allD, mkAgg, mkVal, beq_lit, IntKind.bits, htake_self, htake_push, hget_hpush_self, hset_push, rowOf_self, okIn, lowIn, lowIn1, fzC_d, fzC_row, f33, w, hb, he, h1 hz, hz]
    · simp only [hz, if_false] at he
      simp [-List.getD_eq_getElem?_getD, -List.map_map, evBody, evCode, evOps, evOper, evOp, opd, Env.get, Env.put, Env.keep, zipEnv, V.ok, V.sto, V.cells, D.cells, V.isAgg, binD, binInt, binStr, shInt, unD, eqOf, asI, leave, resOf, mapO, fzV, tupOf, view, view1, isData, hand, flatV, flatD, allD, mkAgg, mkVal, beq_lit, IntKind.bits, htake_self, htake_push, hget_hpush_self, hset_push, rowOf_self, okIn, lowIn, lowIn1, fzC_d, fzC_row, f33, w, hb, he, h2 hz, hz]
def leftG (xs : List Txt) (l : Int) : Int := if l - (xs.length : Int) < 0 then -1 else (if spend xs xs.length 0 (l - xs.length) < 0 then -1 else spend xs xs.length 0 (l - xs.length))
theorem e_31g (H : Hp) (xs : List Txt) (hx : xs.length ≤ 9223372036854775807) (hs : ∀ i, (xs.getD i []).length ≤ 9223372036854775807) (l : Int) (hl : 0 ≤ l) (hl2 : l ≤ 1048576) : ev R 31 [.d (txts xs), .d (.int .i64 l)] H = some (.d (.int .i64 (leftG xs l)), H) := by
  refine ev_fn (fn := f31) rfl rfl ?_
  have w : IntKind.i64.wrap (l - (xs.length : Int)) = l - xs.length := IntWalk.i64_in _ (by omega)
  unfold leftG
  by_cases hb : l - (xs.length : Int) < 0
  · simp [-List.getD_eq_getElem?_getD, -List.map_map, evBody, evCode, evOps, evOper, evOp, opd, Env.get, Env.put, Env.keep, zipEnv, V.ok, V.sto, V.cells, D.cells, V.isAgg, binD, binInt, binStr, shInt, unD, eqOf, asI, leave, resOf, mapO, fzV, tupOf, view, view1, isData, hand, flatV, flatD, allD, mkAgg, mkVal, beq_lit, IntKind.bits, htake_self, htake_push, hget_hpush_self, hset_push, rowOf_self, okIn, lowIn, lowIn1, fzC_d, fzC_row, f31, txts, w, hb]
  · obtain ⟨e', he, h1, h2⟩ := l_31 (hlen H) xs hx hs H xs.length 0 (l - xs.length) [(0, .d (txts xs)), (1, .d (.int .i64 (l - xs.length))), (5, .d (.int .i64 0))] (by omega) (by omega) (by omega) rfl rfl rfl
    generalize spend xs xs.length 0 (l - xs.length) = z at he h1 h2 ⊢
    by_cases hz : z < 0
    · simp only [hz, if_true] at he
      simp [-List.getD_eq_getElem?_getD, -List.map_map, evBody, evCode, evOps, evOper, evOp, opd, Env.get, Env.put, Env.keep, zipEnv, V.ok, V.sto, V.cells, D.cells, V.isAgg, binD, binInt, binStr, shInt, unD, eqOf, asI, leave, resOf, mapO, fzV, tupOf, view, view1, isData, hand, flatV, flatD, allD, mkAgg, mkVal, beq_lit, IntKind.bits, htake_self, htake_push, hget_hpush_self, hset_push, rowOf_self, okIn, lowIn, lowIn1, fzC_d, fzC_row, f31, txts, w, hb, he, h1 hz, hz]
    · simp only [hz, if_false] at he
      simp [-List.getD_eq_getElem?_getD, -List.map_map, evBody, evCode, evOps, evOper, evOp, opd, Env.get, Env.put, Env.keep, zipEnv, V.ok, V.sto, V.cells, D.cells, V.isAgg, binD, binInt, binStr, shInt, unD, eqOf, asI, leave, resOf, mapO, fzV, tupOf, view, view1, isData, hand, flatV, flatD, allD, mkAgg, mkVal, beq_lit, IntKind.bits, htake_self, htake_push, hget_hpush_self, hset_push, rowOf_self, okIn, lowIn, lowIn1, fzC_d, fzC_row, f31, txts, w, hb, he, h2 hz, hz]
theorem spend_le (xs : List Txt) : ∀ (n i : Nat) (l : Int), 0 ≤ l → spend xs n i l ≤ l
  | 0, _, l, _ => Int.le_refl _
  | n + 1, i, l, h => by
    simp only [spend]
    split
    · omega
    · have := spend_le xs n (i + 1) (l - (xs.getD i []).length) (by omega)
      omega
theorem leftG_in (xs : List Txt) (l : Int) (h : 0 ≤ leftG xs l) : (xs.length : Int) ≤ l ∧ leftG xs l ≤ l := by
  unfold leftG at h ⊢
  by_cases hb : l - (xs.length : Int) < 0
  · rw [if_pos hb] at h; omega
  · rw [if_neg hb] at h ⊢
    have := spend_le xs xs.length 0 (l - xs.length) (by omega)
    split at h
    · omega
    · rename_i c
      rw [if_neg c]; omega
/-- What an entry leaves. -/
def szE (e : En) (l : Int) : Int :=
  if lessV e.key l < 0 then -1 else
  if lessV e.text (lessV e.key l) < 0 then -1 else
  if leftG e.list (lessV e.text (lessV e.key l)) < 0 then -1 else
  if leftF (scF e.scores) e.scores.length (leftG e.list (lessV e.text (lessV e.key l))) < 0 then -1 else
  if leftF (prF e.fields) e.fields.length (leftF (scF e.scores) e.scores.length (leftG e.list (lessV e.text (lessV e.key l)))) < 0 then -1 else
  leftF (prF e.fields) e.fields.length (leftF (scF e.scores) e.scores.length (leftG e.list (lessV e.text (lessV e.key l))))
theorem e_18 (H : Hp) (e : En) (hf : EnFit e) (l : Int) (hl : 0 ≤ l) (hl2 : l ≤ 1048576) : ev R 18 [.d (enD e), .d (.int .i64 l)] H = some (.d (.int .i64 (szE e l)), H) := by
  refine ev_fn (fn := f18) rfl rfl ?_
  obtain ⟨f1, f2, f3, f4, f5, f6, f7, f8, _, _⟩ := hf
  have w1 : IntKind.i64.wrap (l - (e.key.length : Int)) = l - e.key.length := IntWalk.i64_in _ (by omega)
  unfold szE
  have k1 : (lessV e.key l) = if l - (e.key.length : Int) < 0 then (-1 : Int) else l - (e.key.length : Int) := rfl
  by_cases c1 : l - (e.key.length : Int) < 0
  · rw [if_pos c1] at k1
    rw [k1]
    simp [-List.getD_eq_getElem?_getD, -List.map_map, evBody, evCode, evOps, evOper, evOp, opd, Env.get, Env.put, Env.keep, zipEnv, V.ok, V.sto, V.cells, D.cells, V.isAgg, binD, binInt, binStr, shInt, unD, eqOf, asI, leave, resOf, mapO, fzV, tupOf, view, view1, isData, hand, flatV, flatD, allD, mkAgg, mkVal, beq_lit, IntKind.bits, htake_self, htake_push, hget_hpush_self, hset_push, rowOf_self, okIn, lowIn, lowIn1, fzC_d, fzC_row, f18, enD, hload, w1, c1]
  · rw [if_neg c1] at k1
    have c1' : ¬ lessV e.key l < 0 := by omega
    have l1 : lessV e.key l ≤ 1048576 := by omega
    rw [if_neg c1']
    generalize lessV e.key l = L1 at *
    have w1 : IntKind.i64.wrap (l - (e.key.length : Int)) = L1 := by rw [w1]; omega
    have c1 : ¬ L1 < 0 := by omega
    have w2 : IntKind.i64.wrap (L1 - (e.text.length : Int)) = L1 - e.text.length := IntWalk.i64_in _ (by omega)
    have k2 : (lessV e.text L1) = if L1 - (e.text.length : Int) < 0 then (-1 : Int) else L1 - (e.text.length : Int) := rfl
    by_cases c2 : L1 - (e.text.length : Int) < 0
    · rw [if_pos c2] at k2
      rw [k2]
      simp [-List.getD_eq_getElem?_getD, -List.map_map, evBody, evCode, evOps, evOper, evOp, opd, Env.get, Env.put, Env.keep, zipEnv, V.ok, V.sto, V.cells, D.cells, V.isAgg, binD, binInt, binStr, shInt, unD, eqOf, asI, leave, resOf, mapO, fzV, tupOf, view, view1, isData, hand, flatV, flatD, allD, mkAgg, mkVal, beq_lit, IntKind.bits, htake_self, htake_push, hget_hpush_self, hset_push, rowOf_self, okIn, lowIn, lowIn1, fzC_d, fzC_row, f18, enD, hload, w1, c1, w2, c2]
    · rw [if_neg c2] at k2
      have c2' : ¬ lessV e.text L1 < 0 := by omega
      have l2 : lessV e.text L1 ≤ 1048576 := by omega
      rw [if_neg c2']
      generalize lessV e.text L1 = L2 at *
      have w2 : IntKind.i64.wrap (L1 - (e.text.length : Int)) = L2 := by rw [w2]; omega
      have c2 : ¬ L2 < 0 := by omega
      have p3 := pureCall_eq (cl := ev R) fun H => e_31g H e.list f3 f4 L2 (by omega) l2
      have b3 := leftG_in e.list L2
      generalize leftG e.list L2 = L3 at *
      simp only [txts] at p3
      by_cases c3 : L3 < 0
      · rw [if_pos c3]
        simp [-List.getD_eq_getElem?_getD, -List.map_map, evBody, evCode, evOps, evOper, evOp, opd, Env.get, Env.put, Env.keep, zipEnv, V.ok, V.sto, V.cells, D.cells, V.isAgg, binD, binInt, binStr, shInt, unD, eqOf, asI, leave, resOf, mapO, fzV, tupOf, view, view1, isData, hand, flatV, flatD, allD, mkAgg, mkVal, beq_lit, IntKind.bits, htake_self, htake_push, hget_hpush_self, hset_push, rowOf_self, okIn, lowIn, lowIn1, fzC_d, fzC_row, f18, enD, txts, scs, prs, hload, w1, c1, w2, c2, p3, c3]
      · rw [if_neg c3]
        have b3 := b3 (by omega)
        have p4 := pureCall_eq (cl := ev R) fun H => e_32 H e.scores f5 f6 L3 (by omega) (by omega)
        have b4 := (leftF_le (scF e.scores) (scF_le e.scores) e.scores.length L3 (by omega)).1
        generalize leftF (scF e.scores) e.scores.length L3 = L4 at *
        by_cases c4 : L4 < 0
        · rw [if_pos c4]
          simp [-List.getD_eq_getElem?_getD, -List.map_map, evBody, evCode, evOps, evOper, evOp, opd, Env.get, Env.put, Env.keep, zipEnv, V.ok, V.sto, V.cells, D.cells, V.isAgg, binD, binInt, binStr, shInt, unD, eqOf, asI, leave, resOf, mapO, fzV, tupOf, view, view1, isData, hand, flatV, flatD, allD, mkAgg, mkVal, beq_lit, IntKind.bits, htake_self, htake_push, hget_hpush_self, hset_push, rowOf_self, okIn, lowIn, lowIn1, fzC_d, fzC_row, f18, enD, txts, scs, prs, hload, w1, c1, w2, c2, p3, c3, p4, c4]
        · rw [if_neg c4]
          have p5 := pureCall_eq (cl := ev R) fun H => e_33 H e.fields f7 f8 L4 (by omega) (by omega)
          generalize leftF (prF e.fields) e.fields.length L4 = L5 at *
          by_cases c5 : L5 < 0
          · rw [if_pos c5]
            simp [-List.getD_eq_getElem?_getD, -List.map_map, evBody, evCode, evOps, evOper, evOp, opd, Env.get, Env.put, Env.keep, zipEnv, V.ok, V.sto, V.cells, D.cells, V.isAgg, binD, binInt, binStr, shInt, unD, eqOf, asI, leave, resOf, mapO, fzV, tupOf, view, view1, isData, hand, flatV, flatD, allD, mkAgg, mkVal, beq_lit, IntKind.bits, htake_self, htake_push, hget_hpush_self, hset_push, rowOf_self, okIn, lowIn, lowIn1, fzC_d, fzC_row, f18, enD, txts, scs, prs, hload, w1, c1, w2, c2, p3, c3, p4, c4, p5, c5]
          · rw [if_neg c5]
            simp [-List.getD_eq_getElem?_getD, -List.map_map, evBody, evCode, evOps, evOper, evOp, opd, Env.get, Env.put, Env.keep, zipEnv, V.ok, V.sto, V.cells, D.cells, V.isAgg, binD, binInt, binStr, shInt, unD, eqOf, asI, leave, resOf, mapO, fzV, tupOf, view, view1, isData, hand, flatV, flatD, allD, mkAgg, mkVal, beq_lit, IntKind.bits, htake_self, htake_push, hget_hpush_self, hset_push, rowOf_self, okIn, lowIn, lowIn1, fzC_d, fzC_row, f18, enD, txts, scs, prs, hload, w1, c1, w2, c2, p3, c3, p4, c4, p5, c5]
end Go.Proofs.YtjdmiodinhlchaaDoor.Code
/- Entries compared with themselves. -/
namespace Go.Proofs.YtjdmiodinhlchaaDoor.Code
open Go Go.Ev Go.Proofs
set_option maxRecDepth 100000
set_option linter.unusedSimpArgs false
set_option linter.unusedVariables false
theorem tak2 (H : Hp) (a b : Ev.Obj) : htake (hpush (hpush H a) b) (hlen H) = H := by simp [htake, hpush, hlen]
theorem e_63_same (H : Hp) (x : Txt) (n : Int) : ev R 63 [.d (.agg [.str x, .int .i64 n]), .d (.agg [.str x, .int .i64 n])] H = some (.d (.bool true), H) := by
  refine ev_fn (fn := f63) rfl rfl ?_
  simp [-List.getD_eq_getElem?_getD, -List.map_map, evBody, evCode, evOps, evOper, evOp, opd, Env.get, Env.put, Env.keep, zipEnv, V.ok, V.sto, V.cells, D.cells, V.isAgg, binD, binInt, binStr, shInt, unD, eqOf, asI, leave, resOf, mapO, fzV, tupOf, view, view1, isData, hand, flatV, flatD, allD, mkAgg, mkVal, beq_lit, IntKind.bits, htake_self, htake_push, hget_hpush_self, hset_push, rowOf_self, okIn, lowIn, lowIn1, fzC_d, fzC_row, f63, hlen_hpush, hload, rowOf, get2_0, get2_1, tak2]
theorem e_64_same (H : Hp) (x y : Txt) : ev R 64 [.d (.agg [.str x, .str y]), .d (.agg [.str x, .str y])] H = some (.d (.bool true), H) := by
  refine ev_fn (fn := f64) rfl rfl ?_
  simp [-List.getD_eq_getElem?_getD, -List.map_map, evBody, evCode, evOps, evOper, evOp, opd, Env.get, Env.put, Env.keep, zipEnv, V.ok, V.sto, V.cells, D.cells, V.isAgg, binD, binInt, binStr, shInt, unD, eqOf, asI, leave, resOf, mapO, fzV, tupOf, view, view1, isData, hand, flatV, flatD, allD, mkAgg, mkVal, beq_lit, IntKind.bits, htake_self, htake_push, hget_hpush_self, hset_push, rowOf_self, okIn, lowIn, lowIn1, fzC_d, fzC_row, f64, hlen_hpush, hload, rowOf, get2_0, get2_1, tak2]
theorem l_52 (n0 : Nat) (xs : List Sc) (hx : xs.length ≤ 9223372036854775807) (H : Hp) : ∀ (n i : Nat) (e : Env), i + n = xs.length → e.get 0 = .d (.vals 2 (xs.map scD)) → e.get 1 = .d (.vals 2 (xs.map scD)) → e.get 5 = .d (.int .i64 i) →
    ∃ e', evLoop (evCode (ev R) R.glob n0 evLoop f52l0) [0, 1, 5] ⟨e, H⟩ = some (.exit 0, ⟨e', H⟩)
  | 0, i, e, hn, h0, h1, h5 => by
    have c : ¬ (i : Int) < (xs.length : Int) := by omega
    have c' : ¬ i < xs.length := by omega
    rw [evLoop_eq]
    refine ⟨?_, ?_⟩
    rotate_left
    · simp [-List.getD_eq_getElem?_getD, -List.map_map, evBody, evCode, evOps, evOper, evOp, opd, Env.get, Env.put, Env.keep, zipEnv, V.ok, V.sto, V.cells, D.cells, V.isAgg, binD, binInt, binStr, shInt, unD, eqOf, asI, leave, resOf, mapO, fzV, tupOf, view, view1, isData, hand, flatV, flatD, allD, mkAgg, mkVal, beq_lit, IntKind.bits, htake_self, htake_push, hget_hpush_self, hset_push, rowOf_self, okIn, lowIn, lowIn1, fzC_d, fzC_row, f52l0, h0, h1, h5, c, c']
      try rfl
  | n + 1, i, e, hn, h0, h1, h5 => by
    have c' : i < xs.length := by omega
    have c : (i : Int) < (xs.length : Int) := by omega
    have g := scs_get xs i c'
    have p := pureCall_eq (cl := ev R) fun H => e_63_same H (xs.getD i ([], 0)).1 (xs.getD i ([], 0)).2
    have w1 : IntKind.i64.wrap ((i : Int) + 1) = ((i + 1 : Nat) : Int) := by rw [IntWalk.i64_in _ (by omega)]; rfl
    have ih := l_52 n0 xs hx H n (i + 1)
    generalize (xs.getD i ([], 0)) = X at *
    rw [evLoop_eq]
    generalize evLoop (evCode (ev R) R.glob n0 evLoop f52l0) [0, 1, 5] = F at ih ⊢
    simp [-List.getD_eq_getElem?_getD, -List.map_map, evBody, evCode, evOps, evOper, evOp, opd, Env.get, Env.put, Env.keep, zipEnv, V.ok, V.sto, V.cells, D.cells, V.isAgg, binD, binInt, binStr, shInt, unD, eqOf, asI, leave, resOf, mapO, fzV, tupOf, view, view1, isData, hand, flatV, flatD, allD, mkAgg, mkVal, beq_lit, IntKind.bits, htake_self, htake_push, hget_hpush_self, hset_push, rowOf_self, okIn, lowIn, lowIn1, fzC_d, fzC_row, f52l0, h0, h1, h5, c, c', g, p, w1]
    refine ih _ (by omega) ?_ ?_ ?_ <;> rfl
theorem e_52_same (H : Hp) (xs : List Sc) (hx : xs.length ≤ 9223372036854775807) : ev R 52 [.d (.vals 2 (xs.map scD)), .d (.vals 2 (xs.map scD))] H = some (.d (.bool true), H) := by
  refine ev_fn (fn := f52) rfl rfl ?_
  obtain ⟨e', he⟩ := l_52 (hlen H) xs hx H xs.length 0 [(0, .d (.vals 2 (xs.map scD))), (1, .d (.vals 2 (xs.map scD))), (5, .d (.int .i64 0))] (by omega) rfl rfl rfl
  simp [-List.getD_eq_getElem?_getD, -List.map_map, evBody, evCode, evOps, evOper, evOp, opd, Env.get, Env.put, Env.keep, zipEnv, V.ok, V.sto, V.cells, D.cells, V.isAgg, binD, binInt, binStr, shInt, unD, eqOf, asI, leave, resOf, mapO, fzV, tupOf, view, view1, isData, hand, flatV, flatD, allD, mkAgg, mkVal, beq_lit, IntKind.bits, htake_self, htake_push, hget_hpush_self, hset_push, rowOf_self, okIn, lowIn, lowIn1, fzC_d, fzC_row, f52, he]
theorem l_53 (n0 : Nat) (xs : List Pr) (hx : xs.length ≤ 9223372036854775807) (H : Hp) : ∀ (n i : Nat) (e : Env), i + n = xs.length → e.get 0 = .d (.vals 2 (xs.map prD)) → e.get 1 = .d (.vals 2 (xs.map prD)) → e.get 5 = .d (.int .i64 i) →
    ∃ e', evLoop (evCode (ev R) R.glob n0 evLoop f53l0) [0, 1, 5] ⟨e, H⟩ = some (.exit 0, ⟨e', H⟩)
  | 0, i, e, hn, h0, h1, h5 => by
    have c : ¬ (i : Int) < (xs.length : Int) := by omega
    have c' : ¬ i < xs.length := by omega
    rw [evLoop_eq]
    refine ⟨?_, ?_⟩
    rotate_left
    · simp [-List.getD_eq_getElem?_getD, -List.map_map, evBody, evCode, evOps, evOper, evOp, opd, Env.get, Env.put, Env.keep, zipEnv, V.ok, V.sto, V.cells, D.cells, V.isAgg, binD, binInt, binStr, shInt, unD, eqOf, asI, leave, resOf, mapO, fzV, tupOf, view, view1, isData, hand, flatV, flatD, allD, mkAgg, mkVal, beq_lit, IntKind.bits, htake_self, htake_push, hget_hpush_self, hset_push, rowOf_self, okIn, lowIn, lowIn1, fzC_d, fzC_row, f53l0, h0, h1, h5, c, c']
      try rfl
  | n + 1, i, e, hn, h0, h1, h5 => by
    have c' : i < xs.length := by omega
    have c : (i : Int) < (xs.length : Int) := by omega
    have g := prs_get xs i c'
    have p := pureCall_eq (cl := ev R) fun H => e_64_same H (xs.getD i ([], [])).1 (xs.getD i ([], [])).2
    have w1 : IntKind.i64.wrap ((i : Int) + 1) = ((i + 1 : Nat) : Int) := by rw [IntWalk.i64_in _ (by omega)]; rfl
    have ih := l_53 n0 xs hx H n (i + 1)
    generalize (xs.getD i ([], [])) = X at *
    rw [evLoop_eq]
    generalize evLoop (evCode (ev R) R.glob n0 evLoop f53l0) [0, 1, 5] = F at ih ⊢
    simp [-List.getD_eq_getElem?_getD, -List.map_map, evBody, evCode, evOps, evOper, evOp, opd, Env.get, Env.put, Env.keep, zipEnv, V.ok, V.sto, V.cells, D.cells, V.isAgg, binD, binInt, binStr, shInt, unD, eqOf, asI, leave, resOf, mapO, fzV, tupOf, view, view1, isData, hand, flatV, flatD, allD, mkAgg, mkVal, beq_lit, IntKind.bits, htake_self, htake_push, hget_hpush_self, hset_push, rowOf_self, okIn, lowIn, lowIn1, fzC_d, fzC_row, f53l0, h0, h1, h5, c, c', g, p, w1]
    refine ih _ (by omega) ?_ ?_ ?_ <;> rfl
theorem e_53_same (H : Hp) (xs : List Pr) (hx : xs.length ≤ 9223372036854775807) : ev R 53 [.d (.vals 2 (xs.map prD)), .d (.vals 2 (xs.map prD))] H = some (.d (.bool true), H) := by
  refine ev_fn (fn := f53) rfl rfl ?_
  obtain ⟨e', he⟩ := l_53 (hlen H) xs hx H xs.length 0 [(0, .d (.vals 2 (xs.map prD))), (1, .d (.vals 2 (xs.map prD))), (5, .d (.int .i64 0))] (by omega) rfl rfl rfl
  simp [-List.getD_eq_getElem?_getD, -List.map_map, evBody, evCode, evOps, evOper, evOp, opd, Env.get, Env.put, Env.keep, zipEnv, V.ok, V.sto, V.cells, D.cells, V.isAgg, binD, binInt, binStr, shInt, unD, eqOf, asI, leave, resOf, mapO, fzV, tupOf, view, view1, isData, hand, flatV, flatD, allD, mkAgg, mkVal, beq_lit, IntKind.bits, htake_self, htake_push, hget_hpush_self, hset_push, rowOf_self, okIn, lowIn, lowIn1, fzC_d, fzC_row, f53, he]
theorem e_30_same (H : Hp) (e : En) (hf : EnFit e) : ev R 30 [.d (enD e), .d (enD e)] H = some (.d (.bool true), H) := by
  refine ev_fn (fn := f30) rfl rfl ?_
  have p1 := pureCall_eq (cl := ev R) fun H => e_51_same H e.list hf.list
  have p2 := pureCall_eq (cl := ev R) fun H => e_52_same H e.scores hf.scores
  have p3 := pureCall_eq (cl := ev R) fun H => e_53_same H e.fields hf.fields
  simp only [txts] at p1
  obtain ⟨key, till, kind, text, list, scores, fields⟩ := e
  simp only at *
  unfold enD txts scs prs
  simp only
  generalize list.map D.str = d1 at *
  generalize scores.map scD = d2 at *
  generalize fields.map prD = d3 at *
  simp [-List.getD_eq_getElem?_getD, -List.map_map, evBody, evCode, evOps, evOper, evOp, opd, Env.get, Env.put, Env.keep, zipEnv, V.ok, V.sto, V.cells, D.cells, V.isAgg, binD, binInt, binStr, shInt, unD, eqOf, asI, leave, resOf, mapO, fzV, tupOf, view, view1, isData, hand, flatV, flatD, allD, mkAgg, mkVal, beq_lit, IntKind.bits, htake_self, htake_push, hget_hpush_self, hset_push, rowOf_self, okIn, lowIn, lowIn1, fzC_d, fzC_row, f30, hlen_hpush, hload, rowOf, get2_0, get2_1, tak2, p1, p2, p3]
end Go.Proofs.YtjdmiodinhlchaaDoor.Code
/- Bases: how much is left behind one, bases compared. -/
namespace Go.Proofs.YtjdmiodinhlchaaDoor.Code
open Go Go.Ev Go.Proofs
set_option maxRecDepth 100000
set_option linter.unusedSimpArgs false
set_option linter.unusedVariables false
theorem szE_in (e : En) (l : Int) (hl : 0 ≤ l) (hl2 : l ≤ 1048576) : szE e l ≤ l ∧ (0 ≤ szE e l → Small e) := by
  unfold szE
  have k1 := lessV_le e.key l hl
  generalize lessV e.key l = L1 at *
  by_cases c1 : L1 < 0
  · rw [if_pos c1]; exact ⟨by omega, fun h => by omega⟩
  · rw [if_neg c1]
    have k2 := lessV_le e.text L1 (by omega)
    generalize lessV e.text L1 = L2 at *
    by_cases c2 : L2 < 0
    · rw [if_pos c2]; exact ⟨by omega, fun h => by omega⟩
    · rw [if_neg c2]
      have k3 := leftG_in e.list L2
      generalize leftG e.list L2 = L3 at *
      by_cases c3 : L3 < 0
      · rw [if_pos c3]; exact ⟨by omega, fun h => by omega⟩
      · rw [if_neg c3]
        have k3 := k3 (by omega)
        have k4 := leftF_le (scF e.scores) (scF_le e.scores) e.scores.length L3 (by omega)
        generalize leftF (scF e.scores) e.scores.length L3 = L4 at *
        by_cases c4 : L4 < 0
        · rw [if_pos c4]; exact ⟨by omega, fun h => by omega⟩
        · rw [if_neg c4]
          have k5 := leftF_le (prF e.fields) (prF_le e.fields) e.fields.length L4 (by omega)
          generalize leftF (prF e.fields) e.fields.length L4 = L5 at *
          by_cases c5 : L5 < 0
          · rw [if_pos c5]; exact ⟨by omega, fun h => by omega⟩
          · rw [if_neg c5]
            exact ⟨by omega, fun h => ⟨by omega, by omega, by omega⟩⟩
def szStep (es : List En) (i : Nat) (l : Int) : Int ⊕ Unit := if szE (es.getD i default) l < 0 then .inr () else .inl (szE (es.getD i default) l)
def szEs (es : List En) (l : Int) : Int := if l - (es.length : Int) < 0 then -1 else match runI (szStep es) es.length 0 (l - es.length) with | .inl z => z | .inr _ => -1
theorem szRun_in (es : List En) : ∀ (n i : Nat) (l : Int), 0 ≤ l → l ≤ 1048576 → match runI (szStep es) n i l with | .inl z => 0 ≤ z ∧ z ≤ l ∧ ∀ k, i ≤ k → k < i + n → Small (es.getD k default) | .inr _ => True
  | 0, i, l, h1, h2 => ⟨h1, Int.le_refl _, fun k h3 h4 => by omega⟩
  | n + 1, i, l, h1, h2 => by
    simp only [runI, szStep]
    by_cases c : szE (es.getD i default) l < 0
    · rw [if_pos c]; trivial
    · rw [if_neg c]
      obtain ⟨k1, k2⟩ := szE_in (es.getD i default) l h1 h2
      have ih := szRun_in es n (i + 1) (szE (es.getD i default) l) (by omega) (by omega)
      simp only
      cases h : runI (szStep es) n (i + 1) (szE (es.getD i default) l) with
      | inr _ => trivial
      | inl z =>
        rw [h] at ih
        obtain ⟨m1, m2, m3⟩ := ih
        refine ⟨m1, by omega, fun k h3 h4 => ?_⟩
        by_cases hk : k = i
        · subst hk; exact k2 (by omega)
        · exact m3 k (by omega) (by omega)
theorem szEs_in (es : List En) (l : Int) (hl : 0 ≤ l) (hl2 : l ≤ 1048576) : szEs es l ≤ l ∧ (0 ≤ szEs es l → (es.length : Int) ≤ l ∧ ∀ e ∈ es, Small e) := by
  unfold szEs
  by_cases c : l - (es.length : Int) < 0
  · rw [if_pos c]; exact ⟨by omega, fun h => by omega⟩
  · rw [if_neg c]
    have h := szRun_in es es.length 0 (l - es.length) (by omega) (by omega)
    cases hr : runI (szStep es) es.length 0 (l - es.length) with
    | inr _ => exact ⟨by simp only; omega, fun h => by simp only at h; omega⟩
    | inl z =>
      rw [hr] at h
      refine ⟨by simp only; omega, fun _ => ⟨by omega, fun e he => ?_⟩⟩
      obtain ⟨i, hi, rfl⟩ := List.getElem_of_mem he
      have := h.2.2 i (by omega) (by omega)
      simpa [List.getD_eq_getElem?_getD, hi] using this
theorem e_9 (H : Hp) (es : List En) (hx : es.length ≤ 9223372036854775807) (hf : ∀ e ∈ es, EnFit e) (l : Int) (hl : 0 ≤ l) (hl2 : l ≤ 1048576) : ev R 9 [.d (entsD es), .d (.int .i64 l)] H = some (.d (.int .i64 (szEs es l)), H) := by
  refine ev_fn (fn := f9) rfl rfl ?_
  unfold szEs
  have w0 : IntKind.i64.wrap (l - (es.length : Int)) = l - es.length := IntWalk.i64_in _ (by omega)
  by_cases c0 : l - (es.length : Int) < 0
  · rw [if_pos c0]
    simp [-List.getD_eq_getElem?_getD, -List.map_map, evBody, evCode, evOps, evOper, evOp, opd, Env.get, Env.put, Env.keep, zipEnv, V.ok, V.sto, binD, binInt, binStr, shInt, unD, eqOf, asI, leave, resOf, mapO, fzV, tupOf, view, view1, isData, hand, flatV, flatD, allD, mkAgg, mkVal, beq_lit, IntKind.bits, okIn, lowIn, lowIn1, lowT, fzC_d, ap0, ap_get, ap_get0, ap_set, ap_set0, ap_len, ap_take, ap_takeN, ap_nlt, ap_nlt0, ap_blt, ap_blt0, ap_bltR, ap_blt00, ap_ble, ap_ble0, ap_bleN, ap_bleR, rowOf, hload, hstore, hget, hset, reCell, src, allD_d', allD_app, ap_fzC, hand1, frzE, List.singleton_append, List.nil_append, List.cons_append, ap_ap, vc_agg, vc_dagg, va_agg, va_dagg, dc_agg, vc_str, va_str, dc_str, vc_int, va_int, dc_int, vc_bool, va_bool, dc_bool, vc_vals, va_vals, dc_vals, vc_nilp, va_nilp, dc_nilp, vc_rptr, va_rptr, dc_rptr, vc_fnd, va_fnd, dc_fnd, vc_nilfn, va_nilfn, dc_nilfn, vc_iface, va_iface, dc_iface, vc_niface, va_niface, dc_niface, vc_mval, va_mval, dc_mval, vc_slc, va_slc, vc_ptr, va_ptr, vc_fnv, va_fnv, vc_mref, va_mref, vc_nils, va_nils, vc_und, va_und, scD_cells, scD_vcells, scD_agg, scD_fold, prD_cells, prD_vcells, prD_agg, prD_fold, enD_cells, enD_vcells, enD_agg, enD_fold, baD_cells, baD_vcells, baD_agg, baD_fold, htake_self, gives_some, Round, Fin2, step_normal, step_exit, step_ret, fzC_ap, fzC_ap0, mapO_fz_app, mapO_d, fz_d, List.take_of_length_le, f9, w0, c0]
  · rw [if_neg c0]
    have key := loop_run (F := evCode (ev R) R.glob (hlen H) evLoop f9l0) (lv := [0, 1, 5]) (szStep es) es.length
      (fun i l e X => (0 ≤ l ∧ l ≤ 1048576) ∧ X = H ∧ e.get 0 = .d (entsD es) ∧ e.get 1 = .d (.int .i64 l) ∧ e.get 5 = .d (.int .i64 i))
      (fun l o e X => o = .exit 0 ∧ X = H ∧ e.get 1 = .d (.int .i64 l)) (fun _ o e X => o = .ret ∧ X = H ∧ e.get 4 = .d (.int .i64 (-1)))
      (by
        rintro l e X ⟨⟨h1, h2⟩, rfl, g0, g1, g5⟩
        simp [-List.getD_eq_getElem?_getD, -List.map_map, evBody, evCode, evOps, evOper, evOp, opd, Env.get, Env.put, Env.keep, zipEnv, V.ok, V.sto, binD, binInt, binStr, shInt, unD, eqOf, asI, leave, resOf, mapO, fzV, tupOf, view, view1, isData, hand, flatV, flatD, allD, mkAgg, mkVal, beq_lit, IntKind.bits, okIn, lowIn, lowIn1, lowT, fzC_d, ap0, ap_get, ap_get0, ap_set, ap_set0, ap_len, ap_take, ap_takeN, ap_nlt, ap_nlt0, ap_blt, ap_blt0, ap_bltR, ap_blt00, ap_ble, ap_ble0, ap_bleN, ap_bleR, rowOf, hload, hstore, hget, hset, reCell, src, allD_d', allD_app, ap_fzC, hand1, frzE, List.singleton_append, List.nil_append, List.cons_append, ap_ap, vc_agg, vc_dagg, va_agg, va_dagg, dc_agg, vc_str, va_str, dc_str, vc_int, va_int, dc_int, vc_bool, va_bool, dc_bool, vc_vals, va_vals, dc_vals, vc_nilp, va_nilp, dc_nilp, vc_rptr, va_rptr, dc_rptr, vc_fnd, va_fnd, dc_fnd, vc_nilfn, va_nilfn, dc_nilfn, vc_iface, va_iface, dc_iface, vc_niface, va_niface, dc_niface, vc_mval, va_mval, dc_mval, vc_slc, va_slc, vc_ptr, va_ptr, vc_fnv, va_fnv, vc_mref, va_mref, vc_nils, va_nils, vc_und, va_und, scD_cells, scD_vcells, scD_agg, scD_fold, prD_cells, prD_vcells, prD_agg, prD_fold, enD_cells, enD_vcells, enD_agg, enD_fold, baD_cells, baD_vcells, baD_agg, baD_fold, htake_self, gives_some, Round, Fin2, step_normal, step_exit, step_ret, fzC_ap, fzC_ap0, mapO_fz_app, mapO_d, fz_d, List.take_of_length_le, f9l0, g0, g1, g5])
      (by
        rintro i l e X hi ⟨⟨h1, h2⟩, rfl, g0, g1, g5⟩
        have c : (i : Int) < (es.length : Int) := by omega
        have g := ents_get es i hi
        have p := pureCall_eq (cl := ev R) fun H => e_18 H (es.getD i default) (hf _ (getD_in hi)) l h1 h2
        have k := szE_in (es.getD i default) l h1 h2
        have w1 : IntKind.i64.wrap ((i : Int) + 1) = ((i + 1 : Nat) : Int) := by rw [IntWalk.i64_in _ (by omega)]; rfl
        unfold szStep
        by_cases hb : szE (es.getD i default) l < 0
        · rw [if_pos hb]
          simp [-List.getD_eq_getElem?_getD, -List.map_map, evBody, evCode, evOps, evOper, evOp, opd, Env.get, Env.put, Env.keep, zipEnv, V.ok, V.sto, binD, binInt, binStr, shInt, unD, eqOf, asI, leave, resOf, mapO, fzV, tupOf, view, view1, isData, hand, flatV, flatD, allD, mkAgg, mkVal, beq_lit, IntKind.bits, okIn, lowIn, lowIn1, lowT, fzC_d, ap0, ap_get, ap_get0, ap_set, ap_set0, ap_len, ap_take, ap_takeN, ap_nlt, ap_nlt0, ap_blt, ap_blt0, ap_bltR, ap_blt00, ap_ble, ap_ble0, ap_bleN, ap_bleR, rowOf, hload, hstore, hget, hset, reCell, src, allD_d', allD_app, ap_fzC, hand1, frzE, List.singleton_append, List.nil_append, List.cons_append, ap_ap, vc_agg, vc_dagg, va_agg, va_dagg, dc_agg, vc_str, va_str, dc_str, vc_int, va_int, dc_int, vc_bool, va_bool, dc_bool, vc_vals, va_vals, dc_vals, vc_nilp, va_nilp, dc_nilp, vc_rptr, va_rptr, dc_rptr, vc_fnd, va_fnd, dc_fnd, vc_nilfn, va_nilfn, dc_nilfn, vc_iface, va_iface, dc_iface, vc_niface, va_niface, dc_niface, vc_mval, va_mval, dc_mval, vc_slc, va_slc, vc_ptr, va_ptr, vc_fnv, va_fnv, vc_mref, va_mref, vc_nils, va_nils, vc_und, va_und, scD_cells, scD_vcells, scD_agg, scD_fold, prD_cells, prD_vcells, prD_agg, prD_fold, enD_cells, enD_vcells, enD_agg, enD_fold, baD_cells, baD_vcells, baD_agg, baD_fold, htake_self, gives_some, Round, Fin2, step_normal, step_exit, step_ret, fzC_ap, fzC_ap0, mapO_fz_app, mapO_d, fz_d, List.take_of_length_le, f9l0, g0, g1, g5, c, hi, g, p, hb]
        · rw [if_neg hb]
          have m1 : 0 ≤ szE (es.getD i default) l := by omega
          have m2 : szE (es.getD i default) l ≤ 1048576 := by omega
          simp [-List.getD_eq_getElem?_getD, -List.map_map, evBody, evCode, evOps, evOper, evOp, opd, Env.get, Env.put, Env.keep, zipEnv, V.ok, V.sto, binD, binInt, binStr, shInt, unD, eqOf, asI, leave, resOf, mapO, fzV, tupOf, view, view1, isData, hand, flatV, flatD, allD, mkAgg, mkVal, beq_lit, IntKind.bits, okIn, lowIn, lowIn1, lowT, fzC_d, ap0, ap_get, ap_get0, ap_set, ap_set0, ap_len, ap_take, ap_takeN, ap_nlt, ap_nlt0, ap_blt, ap_blt0, ap_bltR, ap_blt00, ap_ble, ap_ble0, ap_bleN, ap_bleR, rowOf, hload, hstore, hget, hset, reCell, src, allD_d', allD_app, ap_fzC, hand1, frzE, List.singleton_append, List.nil_append, List.cons_append, ap_ap, vc_agg, vc_dagg, va_agg, va_dagg, dc_agg, vc_str, va_str, dc_str, vc_int, va_int, dc_int, vc_bool, va_bool, dc_bool, vc_vals, va_vals, dc_vals, vc_nilp, va_nilp, dc_nilp, vc_rptr, va_rptr, dc_rptr, vc_fnd, va_fnd, dc_fnd, vc_nilfn, va_nilfn, dc_nilfn, vc_iface, va_iface, dc_iface, vc_niface, va_niface, dc_niface, vc_mval, va_mval, dc_mval, vc_slc, va_slc, vc_ptr, va_ptr, vc_fnv, va_fnv, vc_mref, va_mref, vc_nils, va_nils, vc_und, va_und, scD_cells, scD_vcells, scD_agg, scD_fold, prD_cells, prD_vcells, prD_agg, prD_fold, enD_cells, enD_vcells, enD_agg, enD_fold, baD_cells, baD_vcells, baD_agg, baD_fold, htake_self, gives_some, Round, Fin2, step_normal, step_exit, step_ret, fzC_ap, fzC_ap0, mapO_fz_app, mapO_d, fz_d, List.take_of_length_le, f9l0, g0, g1, g5, c, hi, g, p, hb, w1, m1, m2])
      es.length 0 (l - es.length) [(0, .d (entsD es)), (1, .d (.int .i64 (l - es.length))), (5, .d (.int .i64 0))] H (by omega) ⟨⟨by omega, by omega⟩, rfl, rfl, rfl, rfl⟩
    obtain ⟨o, e', X', he, hq⟩ := key.out
    cases hr : runI (szStep es) es.length 0 (l - es.length) with
    | inl z =>
      rw [hr] at hq
      obtain ⟨rfl, rfl, g1⟩ := hq
      simp [-List.getD_eq_getElem?_getD, -List.map_map, evBody, evCode, evOps, evOper, evOp, opd, Env.get, Env.put, Env.keep, zipEnv, V.ok, V.sto, binD, binInt, binStr, shInt, unD, eqOf, asI, leave, resOf, mapO, fzV, tupOf, view, view1, isData, hand, flatV, flatD, allD, mkAgg, mkVal, beq_lit, IntKind.bits, okIn, lowIn, lowIn1, lowT, fzC_d, ap0, ap_get, ap_get0, ap_set, ap_set0, ap_len, ap_take, ap_takeN, ap_nlt, ap_nlt0, ap_blt, ap_blt0, ap_bltR, ap_blt00, ap_ble, ap_ble0, ap_bleN, ap_bleR, rowOf, hload, hstore, hget, hset, reCell, src, allD_d', allD_app, ap_fzC, hand1, frzE, List.singleton_append, List.nil_append, List.cons_append, ap_ap, vc_agg, vc_dagg, va_agg, va_dagg, dc_agg, vc_str, va_str, dc_str, vc_int, va_int, dc_int, vc_bool, va_bool, dc_bool, vc_vals, va_vals, dc_vals, vc_nilp, va_nilp, dc_nilp, vc_rptr, va_rptr, dc_rptr, vc_fnd, va_fnd, dc_fnd, vc_nilfn, va_nilfn, dc_nilfn, vc_iface, va_iface, dc_iface, vc_niface, va_niface, dc_niface, vc_mval, va_mval, dc_mval, vc_slc, va_slc, vc_ptr, va_ptr, vc_fnv, va_fnv, vc_mref, va_mref, vc_nils, va_nils, vc_und, va_und, scD_cells, scD_vcells, scD_agg, scD_fold, prD_cells, prD_vcells, prD_agg, prD_fold, enD_cells, enD_vcells, enD_agg, enD_fold, baD_cells, baD_vcells, baD_agg, baD_fold, htake_self, gives_some, Round, Fin2, step_normal, step_exit, step_ret, fzC_ap, fzC_ap0, mapO_fz_app, mapO_d, fz_d, List.take_of_length_le, f9, w0, c0, he, g1]
    | inr _ =>
      rw [hr] at hq
      obtain ⟨rfl, rfl, g4⟩ := hq
      simp [-List.getD_eq_getElem?_getD, -List.map_map, evBody, evCode, evOps, evOper, evOp, opd, Env.get, Env.put, Env.keep, zipEnv, V.ok, V.sto, binD, binInt, binStr, shInt, unD, eqOf, asI, leave, resOf, mapO, fzV, tupOf, view, view1, isData, hand, flatV, flatD, allD, mkAgg, mkVal, beq_lit, IntKind.bits, okIn, lowIn, lowIn1, lowT, fzC_d, ap0, ap_get, ap_get0, ap_set, ap_set0, ap_len, ap_take, ap_takeN, ap_nlt, ap_nlt0, ap_blt, ap_blt0, ap_bltR, ap_blt00, ap_ble, ap_ble0, ap_bleN, ap_bleR, rowOf, hload, hstore, hget, hset, reCell, src, allD_d', allD_app, ap_fzC, hand1, frzE, List.singleton_append, List.nil_append, List.cons_append, ap_ap, vc_agg, vc_dagg, va_agg, va_dagg, dc_agg, vc_str, va_str, dc_str, vc_int, va_int, dc_int, vc_bool, va_bool, dc_bool, vc_vals, va_vals, dc_vals, vc_nilp, va_nilp, dc_nilp, vc_rptr, va_rptr, dc_rptr, vc_fnd, va_fnd, dc_fnd, vc_nilfn, va_nilfn, dc_nilfn, vc_iface, va_iface, dc_iface, vc_niface, va_niface, dc_niface, vc_mval, va_mval, dc_mval, vc_slc, va_slc, vc_ptr, va_ptr, vc_fnv, va_fnv, vc_mref, va_mref, vc_nils, va_nils, vc_und, va_und, scD_cells, scD_vcells, scD_agg, scD_fold, prD_cells, prD_vcells, prD_agg, prD_fold, enD_cells, enD_vcells, enD_agg, enD_fold, baD_cells, baD_vcells, baD_agg, baD_fold, htake_self, gives_some, Round, Fin2, step_normal, step_exit, step_ret, fzC_ap, fzC_ap0, mapO_fz_app, mapO_d, fz_d, List.take_of_length_le, f9, w0, c0, he, g4]
theorem p_4 (b : Ba) (hf : BaFit b) (l : Int) (hl : 0 ≤ l) (hl2 : l ≤ 1048576) : pureCall (ev R) 4 [.d (baD b), .d (.int .i64 l)] = some (.d (.int .i64 (if szEs b.ents l < 0 then -1 else szEs b.ents l))) := pureCall_eq fun H => by
  refine ev_fn (fn := f4) rfl rfl ?_
  have p1 := pureCall_eq (cl := ev R) fun H => e_9 H b.ents hf.len hf.each l hl hl2
  by_cases c : szEs b.ents l < 0
  · simp [-List.getD_eq_getElem?_getD, -List.map_map, evBody, evCode, evOps, evOper, evOp, opd, Env.get, Env.put, Env.keep, zipEnv, V.ok, V.sto, binD, binInt, binStr, shInt, unD, eqOf, asI, leave, resOf, mapO, fzV, tupOf, view, view1, isData, hand, flatV, flatD, allD, mkAgg, mkVal, beq_lit, IntKind.bits, okIn, lowIn, lowIn1, lowT, fzC_d, ap0, ap_get, ap_get0, ap_set, ap_set0, ap_len, ap_take, ap_takeN, ap_nlt, ap_nlt0, ap_blt, ap_blt0, ap_bltR, ap_blt00, ap_ble, ap_ble0, ap_bleN, ap_bleR, rowOf, hload, hstore, hget, hset, reCell, src, allD_d', allD_app, ap_fzC, hand1, frzE, List.singleton_append, List.nil_append, List.cons_append, ap_ap, vc_agg, vc_dagg, va_agg, va_dagg, dc_agg, vc_str, va_str, dc_str, vc_int, va_int, dc_int, vc_bool, va_bool, dc_bool, vc_vals, va_vals, dc_vals, vc_nilp, va_nilp, dc_nilp, vc_rptr, va_rptr, dc_rptr, vc_fnd, va_fnd, dc_fnd, vc_nilfn, va_nilfn, dc_nilfn, vc_iface, va_iface, dc_iface, vc_niface, va_niface, dc_niface, vc_mval, va_mval, dc_mval, vc_slc, va_slc, vc_ptr, va_ptr, vc_fnv, va_fnv, vc_mref, va_mref, vc_nils, va_nils, vc_und, va_und, scD_cells, scD_vcells, scD_agg, scD_fold, prD_cells, prD_vcells, prD_agg, prD_fold, enD_cells, enD_vcells, enD_agg, enD_fold, baD_cells, baD_vcells, baD_agg, baD_fold, htake_self, gives_some, Round, Fin2, step_normal, step_exit, step_ret, fzC_ap, fzC_ap0, mapO_fz_app, mapO_d, fz_d, List.take_of_length_le, f4, p1, c]
  · simp [-List.getD_eq_getElem?_getD, -List.map_map, evBody, evCode, evOps, evOper, evOp, opd, Env.get, Env.put, Env.keep, zipEnv, V.ok, V.sto, binD, binInt, binStr, shInt, unD, eqOf, asI, leave, resOf, mapO, fzV, tupOf, view, view1, isData, hand, flatV, flatD, allD, mkAgg, mkVal, beq_lit, IntKind.bits, okIn, lowIn, lowIn1, lowT, fzC_d, ap0, ap_get, ap_get0, ap_set, ap_set0, ap_len, ap_take, ap_takeN, ap_nlt, ap_nlt0, ap_blt, ap_blt0, ap_bltR, ap_blt00, ap_ble, ap_ble0, ap_bleN, ap_bleR, rowOf, hload, hstore, hget, hset, reCell, src, allD_d', allD_app, ap_fzC, hand1, frzE, List.singleton_append, List.nil_append, List.cons_append, ap_ap, vc_agg, vc_dagg, va_agg, va_dagg, dc_agg, vc_str, va_str, dc_str, vc_int, va_int, dc_int, vc_bool, va_bool, dc_bool, vc_vals, va_vals, dc_vals, vc_nilp, va_nilp, dc_nilp, vc_rptr, va_rptr, dc_rptr, vc_fnd, va_fnd, dc_fnd, vc_nilfn, va_nilfn, dc_nilfn, vc_iface, va_iface, dc_iface, vc_niface, va_niface, dc_niface, vc_mval, va_mval, dc_mval, vc_slc, va_slc, vc_ptr, va_ptr, vc_fnv, va_fnv, vc_mref, va_mref, vc_nils, va_nils, vc_und, va_und, scD_cells, scD_vcells, scD_agg, scD_fold, prD_cells, prD_vcells, prD_agg, prD_fold, enD_cells, enD_vcells, enD_agg, enD_fold, baD_cells, baD_vcells, baD_agg, baD_fold, htake_self, gives_some, Round, Fin2, step_normal, step_exit, step_ret, fzC_ap, fzC_ap0, mapO_fz_app, mapO_d, fz_d, List.take_of_length_le, f4, p1, c]
theorem p_17_same (es : List En) (hx : es.length ≤ 9223372036854775807) (hf : ∀ e ∈ es, EnFit e) : pureCall (ev R) 17 [.d (entsD es), .d (entsD es)] = some (.d (.bool true)) := pureCall_eq fun H => by
  refine ev_fn (fn := f17) rfl rfl ?_
  obtain ⟨o, e', X', he, rfl, rfl⟩ := (loop_keep (F := evCode (ev R) R.glob (hlen H) evLoop f17l0) (lv := [0, 1, 5]) es.length
    (fun i e X => X = H ∧ e.get 0 = .d (entsD es) ∧ e.get 1 = .d (entsD es) ∧ e.get 5 = .d (.int .i64 i)) (fun o e X => o = .exit 0 ∧ X = H)
    (by
      rintro e X ⟨rfl, g0, g1, g5⟩
      simp [-List.getD_eq_getElem?_getD, -List.map_map, evBody, evCode, evOps, evOper, evOp, opd, Env.get, Env.put, Env.keep, zipEnv, V.ok, V.sto, binD, binInt, binStr, shInt, unD, eqOf, asI, leave, resOf, mapO, fzV, tupOf, view, view1, isData, hand, flatV, flatD, allD, mkAgg, mkVal, beq_lit, IntKind.bits, okIn, lowIn, lowIn1, lowT, fzC_d, ap0, ap_get, ap_get0, ap_set, ap_set0, ap_len, ap_take, ap_takeN, ap_nlt, ap_nlt0, ap_blt, ap_blt0, ap_bltR, ap_blt00, ap_ble, ap_ble0, ap_bleN, ap_bleR, rowOf, hload, hstore, hget, hset, reCell, src, allD_d', allD_app, ap_fzC, hand1, frzE, List.singleton_append, List.nil_append, List.cons_append, ap_ap, vc_agg, vc_dagg, va_agg, va_dagg, dc_agg, vc_str, va_str, dc_str, vc_int, va_int, dc_int, vc_bool, va_bool, dc_bool, vc_vals, va_vals, dc_vals, vc_nilp, va_nilp, dc_nilp, vc_rptr, va_rptr, dc_rptr, vc_fnd, va_fnd, dc_fnd, vc_nilfn, va_nilfn, dc_nilfn, vc_iface, va_iface, dc_iface, vc_niface, va_niface, dc_niface, vc_mval, va_mval, dc_mval, vc_slc, va_slc, vc_ptr, va_ptr, vc_fnv, va_fnv, vc_mref, va_mref, vc_nils, va_nils, vc_und, va_und, scD_cells, scD_vcells, scD_agg, scD_fold, prD_cells, prD_vcells, prD_agg, prD_fold, enD_cells, enD_vcells, enD_agg, enD_fold, baD_cells, baD_vcells, baD_agg, baD_fold, htake_self, gives_some, Round, Fin2, step_normal, step_exit, step_ret, fzC_ap, fzC_ap0, mapO_fz_app, mapO_d, fz_d, List.take_of_length_le, f17l0, g0, g1, g5])
    (by
      rintro i e X hi ⟨rfl, g0, g1, g5⟩
      have c : (i : Int) < (es.length : Int) := by omega
      have g := ents_get es i hi
      have p := pureCall_eq (cl := ev R) fun H => e_30_same H (es.getD i default) (hf _ (getD_in hi))
      have w1 : IntKind.i64.wrap ((i : Int) + 1) = ((i + 1 : Nat) : Int) := by rw [IntWalk.i64_in _ (by omega)]; rfl
      simp [-List.getD_eq_getElem?_getD, -List.map_map, evBody, evCode, evOps, evOper, evOp, opd, Env.get, Env.put, Env.keep, zipEnv, V.ok, V.sto, binD, binInt, binStr, shInt, unD, eqOf, asI, leave, resOf, mapO, fzV, tupOf, view, view1, isData, hand, flatV, flatD, allD, mkAgg, mkVal, beq_lit, IntKind.bits, okIn, lowIn, lowIn1, lowT, fzC_d, ap0, ap_get, ap_get0, ap_set, ap_set0, ap_len, ap_take, ap_takeN, ap_nlt, ap_nlt0, ap_blt, ap_blt0, ap_bltR, ap_blt00, ap_ble, ap_ble0, ap_bleN, ap_bleR, rowOf, hload, hstore, hget, hset, reCell, src, allD_d', allD_app, ap_fzC, hand1, frzE, List.singleton_append, List.nil_append, List.cons_append, ap_ap, vc_agg, vc_dagg, va_agg, va_dagg, dc_agg, vc_str, va_str, dc_str, vc_int, va_int, dc_int, vc_bool, va_bool, dc_bool, vc_vals, va_vals, dc_vals, vc_nilp, va_nilp, dc_nilp, vc_rptr, va_rptr, dc_rptr, vc_fnd, va_fnd, dc_fnd, vc_nilfn, va_nilfn, dc_nilfn, vc_iface, va_iface, dc_iface, vc_niface, va_niface, dc_niface, vc_mval, va_mval, dc_mval, vc_slc, va_slc, vc_ptr, va_ptr, vc_fnv, va_fnv, vc_mref, va_mref, vc_nils, va_nils, vc_und, va_und, scD_cells, scD_vcells, scD_agg, scD_fold, prD_cells, prD_vcells, prD_agg, prD_fold, enD_cells, enD_vcells, enD_agg, enD_fold, baD_cells, baD_vcells, baD_agg, baD_fold, htake_self, gives_some, Round, Fin2, step_normal, step_exit, step_ret, fzC_ap, fzC_ap0, mapO_fz_app, mapO_d, fz_d, List.take_of_length_le, f17l0, g0, g1, g5, c, hi, g, p, w1])
    es.length 0 [(0, .d (entsD es)), (1, .d (entsD es)), (5, .d (.int .i64 0))] H (by omega) ⟨rfl, rfl, rfl, rfl⟩).out
  simp [-List.getD_eq_getElem?_getD, -List.map_map, evBody, evCode, evOps, evOper, evOp, opd, Env.get, Env.put, Env.keep, zipEnv, V.ok, V.sto, binD, binInt, binStr, shInt, unD, eqOf, asI, leave, resOf, mapO, fzV, tupOf, view, view1, isData, hand, flatV, flatD, allD, mkAgg, mkVal, beq_lit, IntKind.bits, okIn, lowIn, lowIn1, lowT, fzC_d, ap0, ap_get, ap_get0, ap_set, ap_set0, ap_len, ap_take, ap_takeN, ap_nlt, ap_nlt0, ap_blt, ap_blt0, ap_bltR, ap_blt00, ap_ble, ap_ble0, ap_bleN, ap_bleR, rowOf, hload, hstore, hget, hset, reCell, src, allD_d', allD_app, ap_fzC, hand1, frzE, List.singleton_append, List.nil_append, List.cons_append, ap_ap, vc_agg, vc_dagg, va_agg, va_dagg, dc_agg, vc_str, va_str, dc_str, vc_int, va_int, dc_int, vc_bool, va_bool, dc_bool, vc_vals, va_vals, dc_vals, vc_nilp, va_nilp, dc_nilp, vc_rptr, va_rptr, dc_rptr, vc_fnd, va_fnd, dc_fnd, vc_nilfn, va_nilfn, dc_nilfn, vc_iface, va_iface, dc_iface, vc_niface, va_niface, dc_niface, vc_mval, va_mval, dc_mval, vc_slc, va_slc, vc_ptr, va_ptr, vc_fnv, va_fnv, vc_mref, va_mref, vc_nils, va_nils, vc_und, va_und, scD_cells, scD_vcells, scD_agg, scD_fold, prD_cells, prD_vcells, prD_agg, prD_fold, enD_cells, enD_vcells, enD_agg, enD_fold, baD_cells, baD_vcells, baD_agg, baD_fold, htake_self, gives_some, Round, Fin2, step_normal, step_exit, step_ret, fzC_ap, fzC_ap0, mapO_fz_app, mapO_d, fz_d, List.take_of_length_le, f17, he]
theorem p_8_same (b : Ba) (hf : BaFit b) : pureCall (ev R) 8 [.d (baD b), .d (baD b)] = some (.d (.bool true)) := pureCall_eq fun H => by
  refine ev_fn (fn := f8) rfl rfl ?_
  have p1 := p_17_same b.ents hf.len hf.each
  simp [-List.getD_eq_getElem?_getD, -List.map_map, evBody, evCode, evOps, evOper, evOp, opd, Env.get, Env.put, Env.keep, zipEnv, V.ok, V.sto, binD, binInt, binStr, shInt, unD, eqOf, asI, leave, resOf, mapO, fzV, tupOf, view, view1, isData, hand, flatV, flatD, allD, mkAgg, mkVal, beq_lit, IntKind.bits, okIn, lowIn, lowIn1, lowT, fzC_d, ap0, ap_get, ap_get0, ap_set, ap_set0, ap_len, ap_take, ap_takeN, ap_nlt, ap_nlt0, ap_blt, ap_blt0, ap_bltR, ap_blt00, ap_ble, ap_ble0, ap_bleN, ap_bleR, rowOf, hload, hstore, hget, hset, reCell, src, allD_d', allD_app, ap_fzC, hand1, frzE, List.singleton_append, List.nil_append, List.cons_append, ap_ap, vc_agg, vc_dagg, va_agg, va_dagg, dc_agg, vc_str, va_str, dc_str, vc_int, va_int, dc_int, vc_bool, va_bool, dc_bool, vc_vals, va_vals, dc_vals, vc_nilp, va_nilp, dc_nilp, vc_rptr, va_rptr, dc_rptr, vc_fnd, va_fnd, dc_fnd, vc_nilfn, va_nilfn, dc_nilfn, vc_iface, va_iface, dc_iface, vc_niface, va_niface, dc_niface, vc_mval, va_mval, dc_mval, vc_slc, va_slc, vc_ptr, va_ptr, vc_fnv, va_fnv, vc_mref, va_mref, vc_nils, va_nils, vc_und, va_und, scD_cells, scD_vcells, scD_agg, scD_fold, prD_cells, prD_vcells, prD_agg, prD_fold, enD_cells, enD_vcells, enD_agg, enD_fold, baD_cells, baD_vcells, baD_agg, baD_fold, htake_self, gives_some, Round, Fin2, step_normal, step_exit, step_ret, fzC_ap, fzC_ap0, mapO_fz_app, mapO_d, fz_d, List.take_of_length_le, f8, p1]
end Go.Proofs.YtjdmiodinhlchaaDoor.Code
/- Which lists an entry may hold: texts in order, fields in order. -/
namespace Go.Proofs.YtjdmiodinhlchaaDoor.Code
open Go Go.Ev Go.Proofs
set_option maxRecDepth 100000
set_option linter.unusedSimpArgs false
set_option linter.unusedVariables false
theorem e_34 (H : Hp) (s : Txt) : ev R 34 [.d (.str s)] H = some (.d (.bool (decide ((s.length : Int) ≥ 1) && decide ((s.length : Int) ≤ 12))), H) := by
  refine ev_fn (fn := f34) rfl rfl ?_
  have p := p_20 (s.length : Int) 1 12
  simp [-List.getD_eq_getElem?_getD, -List.map_map, evBody, evCode, evOps, evOper, evOp, opd, Env.get, Env.put, Env.keep, zipEnv, V.ok, V.sto, V.cells, D.cells, V.isAgg, binD, binInt, binStr, shInt, unD, eqOf, asI, leave, resOf, mapO, fzV, tupOf, view, view1, isData, hand, flatV, flatD, allD, mkAgg, mkVal, beq_lit, IntKind.bits, htake_self, htake_push, hget_hpush_self, hset_push, rowOf_self, okIn, lowIn, lowIn1, fzC_d, fzC_row, f34, p]
theorem e_43 (H : Hp) (s : Txt) : ev R 43 [.d (.str s)] H = some (.d (.bool (decide ((s.length : Int) ≥ 1) && decide ((s.length : Int) ≤ 12))), H) := by
  refine ev_fn (fn := f43) rfl rfl ?_
  have p := p_25 (s.length : Int) 1 12
  simp [-List.getD_eq_getElem?_getD, -List.map_map, evBody, evCode, evOps, evOper, evOp, opd, Env.get, Env.put, Env.keep, zipEnv, V.ok, V.sto, V.cells, D.cells, V.isAgg, binD, binInt, binStr, shInt, unD, eqOf, asI, leave, resOf, mapO, fzV, tupOf, view, view1, isData, hand, flatV, flatD, allD, mkAgg, mkVal, beq_lit, IntKind.bits, htake_self, htake_push, hget_hpush_self, hset_push, rowOf_self, okIn, lowIn, lowIn1, fzC_d, fzC_row, f43, p]
/-- Is there one? -/
def anyF (p : Nat → Bool) : Nat → Nat → Bool
  | 0, _ => false
  | n + 1, i => p i || anyF p n (i + 1)
/-- A text that is not behind the one ahead of it. -/
def notAsc (xs : List Txt) (i : Nat) : Bool := !Op.bytesLess (xs.getD (i - 1) []) (xs.getD i [])
/-- Texts in order, without twins. -/
def setV (xs : List Txt) : Bool := !anyF (notAsc xs) (xs.length - 1) 1 && okTexts xs
theorem l_36 (n0 : Nat) (xs : List Txt) (hx : xs.length ≤ 9223372036854775807) (H : Hp) : ∀ (n i : Nat) (e : Env), xs.length ≤ i + n → i + n ≤ xs.length + 1 → 1 ≤ i → (n = 0 ∨ i + n = xs.length) → e.get 0 = .d (txts xs) → e.get 3 = .d (.int .i64 i) →
    ∃ e', evLoop (evCode (ev R) R.glob n0 evLoop f36l0) [0, 3] ⟨e, H⟩ = some ((bif anyF (notAsc xs) n i then .ret else .exit 0), ⟨e', H⟩) ∧
      (anyF (notAsc xs) n i = true → e'.get 2 = .d (.bool false)) ∧ (anyF (notAsc xs) n i = false → e'.get 0 = .d (txts xs))
  | 0, i, e, h1, h2, h3, h4, g0, g3 => by
    have c : ¬ (i : Int) < (xs.length : Int) := by omega
    have c' : ¬ i < xs.length := by omega
    rw [evLoop_eq]
    simp only [anyF]
    refine ⟨?_, ?_, ?_, ?_⟩
    rotate_left
    · simp [-List.getD_eq_getElem?_getD, -List.map_map, evBody, evCode, evOps, evOper, evOp, opd, Env.get, Env.put, Env.keep, zipEnv, V.ok, V.sto, V.cells, D.cells, V.isAgg, binD, binInt, binStr, shInt, unD, eqOf, asI, leave, resOf, mapO, fzV, tupOf, view, view1, isData, hand, flatV, flatD, allD, mkAgg, mkVal, beq_lit, IntKind.bits, htake_self, htake_push, hget_hpush_self, hset_push, rowOf_self, okIn, lowIn, lowIn1, fzC_d, fzC_row, f36l0, g0, g3, txts, c, c']
      try rfl
    · intro h; simp at h
    · intro _; simp [-List.getD_eq_getElem?_getD, -List.map_map, evBody, evCode, evOps, evOper, evOp, opd, Env.get, Env.put, Env.keep, zipEnv, V.ok, V.sto, V.cells, D.cells, V.isAgg, binD, binInt, binStr, shInt, unD, eqOf, asI, leave, resOf, mapO, fzV, tupOf, view, view1, isData, hand, flatV, flatD, allD, mkAgg, mkVal, beq_lit, IntKind.bits, htake_self, htake_push, hget_hpush_self, hset_push, rowOf_self, okIn, lowIn, lowIn1, fzC_d, fzC_row, g0, txts]
  | n + 1, i, e, h1, h2, h3, h4, g0, g3 => by
    have h4 : i + (n + 1) = xs.length := by omega
    have c' : i < xs.length := by omega
    have ih := l_36 n0 xs hx H n (i + 1)
    have ga := txts_get xs i c'
    have gb := txts_get xs (i - 1) (by omega)
    have hp : notAsc xs i = !Op.bytesLess (xs.getD (i - 1) []) (xs.getD i []) := rfl
    obtain ⟨I, hI⟩ : ∃ I : Int, (i : Int) = I := ⟨_, rfl⟩
    obtain ⟨I2, hI2⟩ : ∃ I : Int, ((i + 1 : Nat) : Int) = I := ⟨_, rfl⟩
    obtain ⟨J, hJ⟩ : ∃ I : Int, ((i - 1 : Nat) : Int) = I := ⟨_, rfl⟩
    have w0 : IntKind.i64.wrap (I - 1) = J := by rw [IntWalk.i64_in _ (by omega)]; omega
    have w1 : IntKind.i64.wrap (I + 1) = I2 := by rw [IntWalk.i64_in _ (by omega)]; omega
    have c : I < (xs.length : Int) := by omega
    have cj : J < (xs.length : Int) := by omega
    have p0 : 0 ≤ I := by omega
    have pj : 0 ≤ J := by omega
    have t0 : I.toNat = i := by omega
    have tj : J.toNat = i - 1 := by omega
    have hk : xs.length ≤ i + 1 + n := by omega
    have hk2 : i + 1 + n ≤ xs.length + 1 := by omega
    have hk3 : n = 0 ∨ i + 1 + n = xs.length := by omega
    rw [hI] at g3
    rw [hI2] at ih
    simp only [anyF]
    generalize notAsc xs i = b at *
    generalize anyF (notAsc xs) n (i + 1) = S at *
    generalize xs.getD i [] = x at *
    generalize xs.getD (i - 1) [] = y at *
    rw [evLoop_eq]
    generalize evLoop (evCode (ev R) R.glob n0 evLoop f36l0) [0, 3] = F at ih ⊢
    cases hl : Op.bytesLess y x with
    | false =>
      rw [hl] at hp
      subst hp
      simp only [Bool.not_false, Bool.true_or, cond_true]
      refine ⟨?_, ?_, ?_, ?_⟩
      rotate_left
      · simp [-List.getD_eq_getElem?_getD, -List.map_map, evBody, evCode, evOps, evOper, evOp, opd, Env.get, Env.put, Env.keep, zipEnv, V.ok, V.sto, V.cells, D.cells, V.isAgg, binD, binInt, binStr, shInt, unD, eqOf, asI, leave, resOf, mapO, fzV, tupOf, view, view1, isData, hand, flatV, flatD, allD, mkAgg, mkVal, beq_lit, IntKind.bits, htake_self, htake_push, hget_hpush_self, hset_push, rowOf_self, okIn, lowIn, lowIn1, fzC_d, fzC_row, f36l0, g0, g3, txts, c, cj, p0, pj, t0, tj, w0, ga, gb, hl]
        try rfl
      · intro _; simp [-List.getD_eq_getElem?_getD, -List.map_map, evBody, evCode, evOps, evOper, evOp, opd, Env.get, Env.put, Env.keep, zipEnv, V.ok, V.sto, V.cells, D.cells, V.isAgg, binD, binInt, binStr, shInt, unD, eqOf, asI, leave, resOf, mapO, fzV, tupOf, view, view1, isData, hand, flatV, flatD, allD, mkAgg, mkVal, beq_lit, IntKind.bits, htake_self, htake_push, hget_hpush_self, hset_push, rowOf_self, okIn, lowIn, lowIn1, fzC_d, fzC_row]
      · intro h; simp at h
    | true =>
      rw [hl] at hp
      subst hp
      simp only [Bool.not_true, Bool.false_or]
      simp [-List.getD_eq_getElem?_getD, -List.map_map, evBody, evCode, evOps, evOper, evOp, opd, Env.get, Env.put, Env.keep, zipEnv, V.ok, V.sto, V.cells, D.cells, V.isAgg, binD, binInt, binStr, shInt, unD, eqOf, asI, leave, resOf, mapO, fzV, tupOf, view, view1, isData, hand, flatV, flatD, allD, mkAgg, mkVal, beq_lit, IntKind.bits, htake_self, htake_push, hget_hpush_self, hset_push, rowOf_self, okIn, lowIn, lowIn1, fzC_d, fzC_row, f36l0, g0, g3, txts, c, cj, p0, pj, t0, tj, w0, w1, ga, gb, hl]
      refine ih _ hk hk2 (by omega) hk3 ?_ ?_ <;> rfl
theorem e_36 (H : Hp) (xs : List Txt) (hx : xs.length ≤ 9223372036854775807) : ev R 36 [.d (txts xs)] H = some (.d (.bool (setV xs)), H) := by
  refine ev_fn (fn := f36) rfl rfl ?_
  have p := pureCall_eq (cl := ev R) fun H => e_35 H xs hx
  obtain ⟨e', he, h1, h2⟩ := l_36 (hlen H) xs hx H (xs.length - 1) 1 [(0, .d (txts xs)), (3, .d (.int .i64 1))] (by omega) (by omega) (by omega) (by omega) rfl rfl
  unfold setV
  cases hb : anyF (notAsc xs) (xs.length - 1) 1 with
  | true =>
    have h1 := h1 hb
    simp only [hb, cond_true] at he
    simp [-List.getD_eq_getElem?_getD, -List.map_map, evBody, evCode, evOps, evOper, evOp, opd, Env.get, Env.put, Env.keep, zipEnv, V.ok, V.sto, V.cells, D.cells, V.isAgg, binD, binInt, binStr, shInt, unD, eqOf, asI, leave, resOf, mapO, fzV, tupOf, view, view1, isData, hand, flatV, flatD, allD, mkAgg, mkVal, beq_lit, IntKind.bits, htake_self, htake_push, hget_hpush_self, hset_push, rowOf_self, okIn, lowIn, lowIn1, fzC_d, fzC_row, f36, he, h1]
  | false =>
    have h2 := h2 hb
    simp only [hb, cond_false] at he
    simp [-List.getD_eq_getElem?_getD, -List.map_map, evBody, evCode, evOps, evOper, evOp, opd, Env.get, Env.put, Env.keep, zipEnv, V.ok, V.sto, V.cells, D.cells, V.isAgg, binD, binInt, binStr, shInt, unD, eqOf, asI, leave, resOf, mapO, fzV, tupOf, view, view1, isData, hand, flatV, flatD, allD, mkAgg, mkVal, beq_lit, IntKind.bits, htake_self, htake_push, hget_hpush_self, hset_push, rowOf_self, okIn, lowIn, lowIn1, fzC_d, fzC_row, f36, he, h2, p]
theorem l_45 (n0 : Nat) (xs : List Txt) (hx : xs.length ≤ 9223372036854775807) (H : Hp) : ∀ (n i : Nat) (e : Env), xs.length ≤ i + n → i + n ≤ xs.length + 1 → 1 ≤ i → (n = 0 ∨ i + n = xs.length) → e.get 0 = .d (txts xs) → e.get 3 = .d (.int .i64 i) →
    ∃ e', evLoop (evCode (ev R) R.glob n0 evLoop f45l0) [0, 3] ⟨e, H⟩ = some ((bif anyF (notAsc xs) n i then .ret else .exit 0), ⟨e', H⟩) ∧
      (anyF (notAsc xs) n i = true → e'.get 2 = .d (.bool false)) ∧ (anyF (notAsc xs) n i = false → e'.get 0 = .d (txts xs))
  | 0, i, e, h1, h2, h3, h4, g0, g3 => by
    have c : ¬ (i : Int) < (xs.length : Int) := by omega
    have c' : ¬ i < xs.length := by omega
    rw [evLoop_eq]
    simp only [anyF]
    refine ⟨?_, ?_, ?_, ?_⟩
    rotate_left
    · simp [-List.getD_eq_getElem?_getD, -List.map_map, evBody, evCode, evOps, evOper, evOp, opd, Env.get, Env.put, Env.keep, zipEnv, V.ok, V.sto, V.cells, D.cells, V.isAgg, binD, binInt, binStr, shInt, unD, eqOf, asI, leave, resOf, mapO, fzV, tupOf, view, view1, isData, hand, flatV, flatD, allD, mkAgg, mkVal, beq_lit, IntKind.bits, htake_self, htake_push, hget_hpush_self, hset_push, rowOf_self, okIn, lowIn, lowIn1, fzC_d, fzC_row, f45l0, g0, g3, txts, c, c']
      try rfl
    · intro h; simp at h
    · intro _; simp [-List.getD_eq_getElem?_getD, -List.map_map, evBody, evCode, evOps, evOper, evOp, opd, Env.get, Env.put, Env.keep, zipEnv, V.ok, V.sto, V.cells, D.cells, V.isAgg, binD, binInt, binStr, shInt, unD, eqOf, asI, leave, resOf, mapO, fzV, tupOf, view, view1, isData, hand, flatV, flatD, allD, mkAgg, mkVal, beq_lit, IntKind.bits, htake_self, htake_push, hget_hpush_self, hset_push, rowOf_self, okIn, lowIn, lowIn1, fzC_d, fzC_row, g0, txts]
  | n + 1, i, e, h1, h2, h3, h4, g0, g3 => by
    have h4 : i + (n + 1) = xs.length := by omega
    have c' : i < xs.length := by omega
    have ih := l_45 n0 xs hx H n (i + 1)
    have ga := txts_get xs i c'
    have gb := txts_get xs (i - 1) (by omega)
    have hp : notAsc xs i = !Op.bytesLess (xs.getD (i - 1) []) (xs.getD i []) := rfl
    obtain ⟨I, hI⟩ : ∃ I : Int, (i : Int) = I := ⟨_, rfl⟩
    obtain ⟨I2, hI2⟩ : ∃ I : Int, ((i + 1 : Nat) : Int) = I := ⟨_, rfl⟩
    obtain ⟨J, hJ⟩ : ∃ I : Int, ((i - 1 : Nat) : Int) = I := ⟨_, rfl⟩
    have w0 : IntKind.i64.wrap (I - 1) = J := by rw [IntWalk.i64_in _ (by omega)]; omega
    have w1 : IntKind.i64.wrap (I + 1) = I2 := by rw [IntWalk.i64_in _ (by omega)]; omega
    have c : I < (xs.length : Int) := by omega
    have cj : J < (xs.length : Int) := by omega
    have p0 : 0 ≤ I := by omega
    have pj : 0 ≤ J := by omega
    have t0 : I.toNat = i := by omega
    have tj : J.toNat = i - 1 := by omega
    have hk : xs.length ≤ i + 1 + n := by omega
    have hk2 : i + 1 + n ≤ xs.length + 1 := by omega
    have hk3 : n = 0 ∨ i + 1 + n = xs.length := by omega
    rw [hI] at g3
    rw [hI2] at ih
    simp only [anyF]
    generalize notAsc xs i = b at *
    generalize anyF (notAsc xs) n (i + 1) = S at *
    generalize xs.getD i [] = x at *
    generalize xs.getD (i - 1) [] = y at *
    rw [evLoop_eq]
    generalize evLoop (evCode (ev R) R.glob n0 evLoop f45l0) [0, 3] = F at ih ⊢
    cases hl : Op.bytesLess y x with
    | false =>
      rw [hl] at hp
      subst hp
      simp only [Bool.not_false, Bool.true_or, cond_true]
      refine ⟨?_, ?_, ?_, ?_⟩
      rotate_left
      · simp [-List.getD_eq_getElem?_getD, -List.map_map, evBody, evCode, evOps, evOper, evOp, opd, Env.get, Env.put, Env.keep, zipEnv, V.ok, V.sto, V.cells, D.cells, V.isAgg, binD, binInt, binStr, shInt, unD, eqOf, asI, leave, resOf, mapO, fzV, tupOf, view, view1, isData, hand, flatV, flatD, allD, mkAgg, mkVal, beq_lit, IntKind.bits, htake_self, htake_push, hget_hpush_self, hset_push, rowOf_self, okIn, lowIn, lowIn1, fzC_d, fzC_row, f45l0, g0, g3, txts, c, cj, p0, pj, t0, tj, w0, ga, gb, hl]
        try rfl
      · intro _; simp [-List.getD_eq_getElem?_getD, -List.map_map, evBody, evCode, evOps, evOper, evOp, opd, Env.get, Env.put, Env.keep, zipEnv, V.ok, V.sto, V.cells, D.cells, V.isAgg, binD, binInt, binStr, shInt, unD, eqOf, asI, leave, resOf, mapO, fzV, tupOf, view, view1, isData, hand, flatV, flatD, allD, mkAgg, mkVal, beq_lit, IntKind.bits, htake_self, htake_push, hget_hpush_self, hset_push, rowOf_self, okIn, lowIn, lowIn1, fzC_d, fzC_row]
      · intro h; simp at h
    | true =>
      rw [hl] at hp
      subst hp
      simp only [Bool.not_true, Bool.false_or]
      simp [-List.getD_eq_getElem?_getD, -List.map_map, evBody, evCode, evOps, evOper, evOp, opd, Env.get, Env.put, Env.keep, zipEnv, V.ok, V.sto, V.cells, D.cells, V.isAgg, binD, binInt, binStr, shInt, unD, eqOf, asI, leave, resOf, mapO, fzV, tupOf, view, view1, isData, hand, flatV, flatD, allD, mkAgg, mkVal, beq_lit, IntKind.bits, htake_self, htake_push, hget_hpush_self, hset_push, rowOf_self, okIn, lowIn, lowIn1, fzC_d, fzC_row, f45l0, g0, g3, txts, c, cj, p0, pj, t0, tj, w0, w1, ga, gb, hl]
      refine ih _ hk hk2 (by omega) hk3 ?_ ?_ <;> rfl
theorem e_45 (H : Hp) (xs : List Txt) (hx : xs.length ≤ 9223372036854775807) : ev R 45 [.d (txts xs)] H = some (.d (.bool (setV xs)), H) := by
  refine ev_fn (fn := f45) rfl rfl ?_
  have p := pureCall_eq (cl := ev R) fun H => e_44 H xs hx
  obtain ⟨e', he, h1, h2⟩ := l_45 (hlen H) xs hx H (xs.length - 1) 1 [(0, .d (txts xs)), (3, .d (.int .i64 1))] (by omega) (by omega) (by omega) (by omega) rfl rfl
  unfold setV
  cases hb : anyF (notAsc xs) (xs.length - 1) 1 with
  | true =>
    have h1 := h1 hb
    simp only [hb, cond_true] at he
    simp [-List.getD_eq_getElem?_getD, -List.map_map, evBody, evCode, evOps, evOper, evOp, opd, Env.get, Env.put, Env.keep, zipEnv, V.ok, V.sto, V.cells, D.cells, V.isAgg, binD, binInt, binStr, shInt, unD, eqOf, asI, leave, resOf, mapO, fzV, tupOf, view, view1, isData, hand, flatV, flatD, allD, mkAgg, mkVal, beq_lit, IntKind.bits, htake_self, htake_push, hget_hpush_self, hset_push, rowOf_self, okIn, lowIn, lowIn1, fzC_d, fzC_row, f45, he, h1]
  | false =>
    have h2 := h2 hb
    simp only [hb, cond_false] at he
    simp [-List.getD_eq_getElem?_getD, -List.map_map, evBody, evCode, evOps, evOper, evOp, opd, Env.get, Env.put, Env.keep, zipEnv, V.ok, V.sto, V.cells, D.cells, V.isAgg, binD, binInt, binStr, shInt, unD, eqOf, asI, leave, resOf, mapO, fzV, tupOf, view, view1, isData, hand, flatV, flatD, allD, mkAgg, mkVal, beq_lit, IntKind.bits, htake_self, htake_push, hget_hpush_self, hset_push, rowOf_self, okIn, lowIn, lowIn1, fzC_d, fzC_row, f45, he, h2, p]
end Go.Proofs.YtjdmiodinhlchaaDoor.Code
/- Which lists an entry may hold: fields in order. -/
namespace Go.Proofs.YtjdmiodinhlchaaDoor.Code
open Go Go.Ev Go.Proofs
set_option maxRecDepth 100000
set_option linter.unusedSimpArgs false
set_option linter.unusedVariables false
/-- A field that may not stand where it stands. -/
def badPr (xs : List Pr) (i : Nat) : Bool := decide (40 < (xs.getD i ([], [])).1.length) || decide (40 < (xs.getD i ([], [])).2.length) || (decide (0 < i) && !Op.bytesLess (xs.getD (i - 1) ([], [])).1 (xs.getD i ([], [])).1)
theorem htake_lt {X : Hp} {n : Nat} (o : Ev.Obj) (h : n ≤ hlen X) : htake (hpush X o) n = htake X n := by
  simp only [htake, hpush, hlen] at *
  rw [List.take_append_of_le_length h]
/-- Fields in order, at most sixteen. -/
def fieldsV (xs : List Pr) : Bool := !anyF (badPr xs) xs.length 0 && decide (xs.length ≤ 16)
theorem l_38 (n0 : Nat) (xs : List Pr) (hx : xs.length ≤ 9223372036854775807) (H : Hp) : ∀ (n i : Nat) (e : Env), i + n = xs.length → e.get 0 = .d (prs xs) → e.get 3 = .d (.int .i64 i) →
    ∃ e', evLoop (evCode (ev R) R.glob n0 evLoop f38l0) [0, 3] ⟨e, H⟩ = some ((bif anyF (badPr xs) n i then .ret else .exit 0), ⟨e', H⟩) ∧
      (anyF (badPr xs) n i = true → e'.get 2 = .d (.bool false)) ∧ (anyF (badPr xs) n i = false → e'.get 0 = .d (prs xs))
  | 0, i, e, h1, g0, g3 => by
    have c : ¬ (i : Int) < (xs.length : Int) := by omega
    have c' : ¬ i < xs.length := by omega
    rw [evLoop_eq]
    simp only [anyF]
    refine ⟨?_, ?_, ?_, ?_⟩
    rotate_left
    · simp [-List.getD_eq_getElem?_getD, -List.map_map, evBody, evCode, evOps, evOper, evOp, opd, Env.get, Env.put, Env.keep, zipEnv, V.ok, V.sto, V.cells, D.cells, V.isAgg, binD, binInt, binStr, shInt, unD, eqOf, asI, leave, resOf, mapO, fzV, tupOf, view, view1, isData, hand, flatV, flatD, allD, mkAgg, mkVal, beq_lit, IntKind.bits, htake_self, htake_push, hget_hpush_self, hset_push, rowOf_self, okIn, lowIn, lowIn1, fzC_d, fzC_row, f38l0, g0, g3, prs, c, c']
      try rfl
    · intro h; simp at h
    · intro _; simp [-List.getD_eq_getElem?_getD, -List.map_map, evBody, evCode, evOps, evOper, evOp, opd, Env.get, Env.put, Env.keep, zipEnv, V.ok, V.sto, V.cells, D.cells, V.isAgg, binD, binInt, binStr, shInt, unD, eqOf, asI, leave, resOf, mapO, fzV, tupOf, view, view1, isData, hand, flatV, flatD, allD, mkAgg, mkVal, beq_lit, IntKind.bits, htake_self, htake_push, hget_hpush_self, hset_push, rowOf_self, okIn, lowIn, lowIn1, fzC_d, fzC_row, g0, prs]
  | n + 1, i, e, h1, g0, g3 => by
    have h4 : i + (n + 1) = xs.length := h1
    have c' : i < xs.length := by omega
    have ga := prs_get xs i c'
    have hp : badPr xs i = (decide (40 < (xs.getD i ([], [])).1.length) || decide (40 < (xs.getD i ([], [])).2.length) || (decide (0 < i) && !Op.bytesLess (xs.getD (i - 1) ([], [])).1 (xs.getD i ([], [])).1)) := rfl
    have gb := prs_get xs (i - 1) (by omega)
    obtain ⟨I, hI⟩ : ∃ I : Int, (i : Int) = I := ⟨_, rfl⟩
    obtain ⟨I2, hI2⟩ : ∃ I : Int, ((i + 1 : Nat) : Int) = I := ⟨_, rfl⟩
    obtain ⟨J, hJ⟩ : ∃ I : Int, ((i - 1 : Nat) : Int) = I := ⟨_, rfl⟩
    have w1 : IntKind.i64.wrap (I + 1) = I2 := by rw [IntWalk.i64_in _ (by omega)]; omega
    have c : I < (xs.length : Int) := by omega
    have cj : J < (xs.length : Int) := by omega
    have p0 : 0 ≤ I := by omega
    have pj : 0 ≤ J := by omega
    have t0 : I.toNat = i := by omega
    have tj : J.toNat = i - 1 := by omega
    have hk : i + 1 + n = xs.length := by omega
    have w0 : 0 < i → IntKind.i64.wrap (I - 1) = J := fun _ => by rw [IntWalk.i64_in _ (by omega)]; omega
    have z0 : 0 < i → 0 < I := fun _ => by omega
    have z1 : ¬ 0 < i → ¬ 0 < I := fun _ => by omega
    have ih := l_38 n0 xs hx H n (i + 1)
    rw [hI] at g3
    rw [hI2] at ih
    simp only [anyF]
    generalize badPr xs i = b at *
    generalize anyF (badPr xs) n (i + 1) = S at *
    generalize xs.getD i ([], []) = x at *
    generalize xs.getD (i - 1) ([], []) = y at *
    obtain ⟨x1, x2⟩ := x
    obtain ⟨y1, y2⟩ := y
    simp only at *
    rw [evLoop_eq]
    generalize evLoop (evCode (ev R) R.glob n0 evLoop f38l0) [0, 3] = F at ih ⊢
    by_cases k1 : 40 < x1.length
    · have k1' : (40 : Int) < (x1.length : Int) := by omega
      simp only [k1, decide_true, Bool.true_or] at hp
      subst hp
      simp only [Bool.true_or, cond_true]
      refine ⟨?_, ?_, ?_, ?_⟩
      rotate_left
      · simp [-List.getD_eq_getElem?_getD, -List.map_map, evBody, evCode, evOps, evOper, evOp, opd, Env.get, Env.put, Env.keep, zipEnv, V.ok, V.sto, V.cells, D.cells, V.isAgg, binD, binInt, binStr, shInt, unD, eqOf, asI, leave, resOf, mapO, fzV, tupOf, view, view1, isData, hand, flatV, flatD, allD, mkAgg, mkVal, beq_lit, IntKind.bits, htake_self, htake_push, hget_hpush_self, hset_push, rowOf_self, okIn, lowIn, lowIn1, fzC_d, fzC_row, f38l0, g0, g3, prs, c, cj, p0, pj, t0, tj, ga, gb, k1, k1']
        try rfl
      · intro _; simp [-List.getD_eq_getElem?_getD, -List.map_map, evBody, evCode, evOps, evOper, evOp, opd, Env.get, Env.put, Env.keep, zipEnv, V.ok, V.sto, V.cells, D.cells, V.isAgg, binD, binInt, binStr, shInt, unD, eqOf, asI, leave, resOf, mapO, fzV, tupOf, view, view1, isData, hand, flatV, flatD, allD, mkAgg, mkVal, beq_lit, IntKind.bits, htake_self, htake_push, hget_hpush_self, hset_push, rowOf_self, okIn, lowIn, lowIn1, fzC_d, fzC_row]
      · intro h; simp at h
    · have k1' : ¬ (40 : Int) < (x1.length : Int) := by omega
      by_cases k2 : 40 < x2.length
      · have k2' : (40 : Int) < (x2.length : Int) := by omega
        simp only [k1, k2, decide_true, decide_false, Bool.false_or, Bool.true_or] at hp
        subst hp
        simp only [Bool.true_or, cond_true]
        refine ⟨?_, ?_, ?_, ?_⟩
        rotate_left
        · simp [-List.getD_eq_getElem?_getD, -List.map_map, evBody, evCode, evOps, evOper, evOp, opd, Env.get, Env.put, Env.keep, zipEnv, V.ok, V.sto, V.cells, D.cells, V.isAgg, binD, binInt, binStr, shInt, unD, eqOf, asI, leave, resOf, mapO, fzV, tupOf, view, view1, isData, hand, flatV, flatD, allD, mkAgg, mkVal, beq_lit, IntKind.bits, htake_self, htake_push, hget_hpush_self, hset_push, rowOf_self, okIn, lowIn, lowIn1, fzC_d, fzC_row, f38l0, g0, g3, prs, c, cj, p0, pj, t0, tj, ga, gb, k1, k1', k2, k2']
          try rfl
        · intro _; simp [-List.getD_eq_getElem?_getD, -List.map_map, evBody, evCode, evOps, evOper, evOp, opd, Env.get, Env.put, Env.keep, zipEnv, V.ok, V.sto, V.cells, D.cells, V.isAgg, binD, binInt, binStr, shInt, unD, eqOf, asI, leave, resOf, mapO, fzV, tupOf, view, view1, isData, hand, flatV, flatD, allD, mkAgg, mkVal, beq_lit, IntKind.bits, htake_self, htake_push, hget_hpush_self, hset_push, rowOf_self, okIn, lowIn, lowIn1, fzC_d, fzC_row]
        · intro h; simp at h
      · have k2' : ¬ (40 : Int) < (x2.length : Int) := by omega
        by_cases k3 : 0 < i
        · have w0 := w0 k3
          have z0 := z0 k3
          cases hl : Op.bytesLess y1 x1 with
          | false =>
            simp only [k1, k2, k3, hl, decide_true, decide_false, Bool.false_or, Bool.true_and, Bool.not_false] at hp
            subst hp
            simp only [Bool.true_or, cond_true]
            refine ⟨?_, ?_, ?_, ?_⟩
            rotate_left
            · simp [-List.getD_eq_getElem?_getD, -List.map_map, evBody, evCode, evOps, evOper, evOp, opd, Env.get, Env.put, Env.keep, zipEnv, V.ok, V.sto, V.cells, D.cells, V.isAgg, binD, binInt, binStr, shInt, unD, eqOf, asI, leave, resOf, mapO, fzV, tupOf, view, view1, isData, hand, flatV, flatD, allD, mkAgg, mkVal, beq_lit, IntKind.bits, htake_self, htake_push, hget_hpush_self, hset_push, rowOf_self, okIn, lowIn, lowIn1, fzC_d, fzC_row, f38l0, g0, g3, prs, c, cj, p0, pj, t0, tj, ga, gb, k1, k1', k2, k2', z0, w0, hl]
              try rfl
            · intro _; simp [-List.getD_eq_getElem?_getD, -List.map_map, evBody, evCode, evOps, evOper, evOp, opd, Env.get, Env.put, Env.keep, zipEnv, V.ok, V.sto, V.cells, D.cells, V.isAgg, binD, binInt, binStr, shInt, unD, eqOf, asI, leave, resOf, mapO, fzV, tupOf, view, view1, isData, hand, flatV, flatD, allD, mkAgg, mkVal, beq_lit, IntKind.bits, htake_self, htake_push, hget_hpush_self, hset_push, rowOf_self, okIn, lowIn, lowIn1, fzC_d, fzC_row]
            · intro h; simp at h
          | true =>
            simp only [k1, k2, k3, hl, decide_true, decide_false, Bool.false_or, Bool.true_and, Bool.not_true] at hp
            subst hp
            simp only [Bool.false_or]
            simp [-List.getD_eq_getElem?_getD, -List.map_map, evBody, evCode, evOps, evOper, evOp, opd, Env.get, Env.put, Env.keep, zipEnv, V.ok, V.sto, V.cells, D.cells, V.isAgg, binD, binInt, binStr, shInt, unD, eqOf, asI, leave, resOf, mapO, fzV, tupOf, view, view1, isData, hand, flatV, flatD, allD, mkAgg, mkVal, beq_lit, IntKind.bits, htake_self, htake_push, hget_hpush_self, hset_push, rowOf_self, okIn, lowIn, lowIn1, fzC_d, fzC_row, f38l0, g0, g3, prs, c, cj, p0, pj, t0, tj, w1, ga, gb, k1, k1', k2, k2', z0, w0, hl]
            refine ih _ hk ?_ ?_ <;> rfl
        · have z1 := z1 k3
          simp only [k1, k2, k3, decide_false, Bool.false_or, Bool.false_and] at hp
          subst hp
          simp only [Bool.false_or]
          simp [-List.getD_eq_getElem?_getD, -List.map_map, evBody, evCode, evOps, evOper, evOp, opd, Env.get, Env.put, Env.keep, zipEnv, V.ok, V.sto, V.cells, D.cells, V.isAgg, binD, binInt, binStr, shInt, unD, eqOf, asI, leave, resOf, mapO, fzV, tupOf, view, view1, isData, hand, flatV, flatD, allD, mkAgg, mkVal, beq_lit, IntKind.bits, htake_self, htake_push, hget_hpush_self, hset_push, rowOf_self, okIn, lowIn, lowIn1, fzC_d, fzC_row, f38l0, g0, g3, prs, c, cj, p0, pj, t0, tj, w1, ga, gb, k1, k1', k2, k2', z1]
          refine ih _ hk ?_ ?_ <;> rfl
theorem e_38 (H : Hp) (xs : List Pr) (hx : xs.length ≤ 9223372036854775807) : ev R 38 [.d (prs xs)] H = some (.d (.bool (fieldsV xs)), H) := by
  refine ev_fn (fn := f38) rfl rfl ?_
  obtain ⟨e', he, h1, h2⟩ := l_38 (hlen H) xs hx H xs.length 0 [(0, .d (prs xs)), (3, .d (.int .i64 0))] (by omega) rfl rfl
  unfold fieldsV
  simp only [prs] at he h2
  cases hb : anyF (badPr xs) xs.length 0 with
  | true =>
    have h1 := h1 hb
    simp only [hb, cond_true] at he
    simp [-List.getD_eq_getElem?_getD, -List.map_map, evBody, evCode, evOps, evOper, evOp, opd, Env.get, Env.put, Env.keep, zipEnv, V.ok, V.sto, V.cells, D.cells, V.isAgg, binD, binInt, binStr, shInt, unD, eqOf, asI, leave, resOf, mapO, fzV, tupOf, view, view1, isData, hand, flatV, flatD, allD, mkAgg, mkVal, beq_lit, IntKind.bits, htake_self, htake_push, hget_hpush_self, hset_push, rowOf_self, okIn, lowIn, lowIn1, fzC_d, fzC_row, f38, prs, he, h1]
  | false =>
    have h2 := h2 hb
    simp only [hb, cond_false] at he
    by_cases hl : xs.length ≤ 16
    · have hl' : (xs.length : Int) ≤ 16 := by omega
      simp [-List.getD_eq_getElem?_getD, -List.map_map, evBody, evCode, evOps, evOper, evOp, opd, Env.get, Env.put, Env.keep, zipEnv, V.ok, V.sto, V.cells, D.cells, V.isAgg, binD, binInt, binStr, shInt, unD, eqOf, asI, leave, resOf, mapO, fzV, tupOf, view, view1, isData, hand, flatV, flatD, allD, mkAgg, mkVal, beq_lit, IntKind.bits, htake_self, htake_push, hget_hpush_self, hset_push, rowOf_self, okIn, lowIn, lowIn1, fzC_d, fzC_row, f38, prs, he, h2, hl, hl']
    · have hl' : ¬ (xs.length : Int) ≤ 16 := by omega
      simp [-List.getD_eq_getElem?_getD, -List.map_map, evBody, evCode, evOps, evOper, evOp, opd, Env.get, Env.put, Env.keep, zipEnv, V.ok, V.sto, V.cells, D.cells, V.isAgg, binD, binInt, binStr, shInt, unD, eqOf, asI, leave, resOf, mapO, fzV, tupOf, view, view1, isData, hand, flatV, flatD, allD, mkAgg, mkVal, beq_lit, IntKind.bits, htake_self, htake_push, hget_hpush_self, hset_push, rowOf_self, okIn, lowIn, lowIn1, fzC_d, fzC_row, f38, prs, he, h2, hl, hl']
theorem l_47 (n0 : Nat) (xs : List Pr) (hx : xs.length ≤ 9223372036854775807) (H : Hp) : ∀ (n i : Nat) (X : Hp) (e : Env), i + n = xs.length → htake X (hlen H) = H → hlen H ≤ hlen X → e.get 0 = .d (prs xs) → e.get 5 = .d (prs xs) → e.get 6 = .d (.int .i64 xs.length) → e.get 7 = .d (.int .i64 i) →
    ∃ e' X', evLoop (evCode (ev R) R.glob n0 evLoop f47l0) [0, 5, 6, 7] ⟨e, X⟩ = some ((bif anyF (badPr xs) n i then .ret else .exit 0), ⟨e', X'⟩) ∧
      (anyF (badPr xs) n i = true → e'.get 2 = .d (.bool false)) ∧ (anyF (badPr xs) n i = false → e'.get 0 = .d (prs xs)) ∧ htake X' (hlen H) = H
  | 0, i, X, e, h1, hx1, hx2, g0, g5, g6, g3 => by
    have c : ¬ (i : Int) < (xs.length : Int) := by omega
    have c' : ¬ i < xs.length := by omega
    rw [evLoop_eq]
    simp only [anyF]
    refine ⟨?_, X, ?_, ?_, ?_, ?_⟩
    rotate_left
    · simp [-List.getD_eq_getElem?_getD, -List.map_map, evBody, evCode, evOps, evOper, evOp, opd, Env.get, Env.put, Env.keep, zipEnv, V.ok, V.sto, V.cells, D.cells, V.isAgg, binD, binInt, binStr, shInt, unD, eqOf, asI, leave, resOf, mapO, fzV, tupOf, view, view1, isData, hand, flatV, flatD, allD, mkAgg, mkVal, beq_lit, IntKind.bits, htake_self, htake_push, hget_hpush_self, hset_push, rowOf_self, okIn, lowIn, lowIn1, fzC_d, fzC_row, f47l0, g0, g5, g6, g3, prs, c, c']
      try rfl
    · intro h; simp at h
    · intro _; simp [-List.getD_eq_getElem?_getD, -List.map_map, evBody, evCode, evOps, evOper, evOp, opd, Env.get, Env.put, Env.keep, zipEnv, V.ok, V.sto, V.cells, D.cells, V.isAgg, binD, binInt, binStr, shInt, unD, eqOf, asI, leave, resOf, mapO, fzV, tupOf, view, view1, isData, hand, flatV, flatD, allD, mkAgg, mkVal, beq_lit, IntKind.bits, htake_self, htake_push, hget_hpush_self, hset_push, rowOf_self, okIn, lowIn, lowIn1, fzC_d, fzC_row, g0, prs]
    · exact hx1
  | n + 1, i, X, e, h1, hx1, hx2, g0, g5, g6, g3 => by
    have h4 : i + (n + 1) = xs.length := h1
    have c' : i < xs.length := by omega
    have ga := prs_get xs i c'
    have hp : badPr xs i = (decide (40 < (xs.getD i ([], [])).1.length) || decide (40 < (xs.getD i ([], [])).2.length) || (decide (0 < i) && !Op.bytesLess (xs.getD (i - 1) ([], [])).1 (xs.getD i ([], [])).1)) := rfl
    have gb := prs_get xs (i - 1) (by omega)
    obtain ⟨I, hI⟩ : ∃ I : Int, (i : Int) = I := ⟨_, rfl⟩
    obtain ⟨I2, hI2⟩ : ∃ I : Int, ((i + 1 : Nat) : Int) = I := ⟨_, rfl⟩
    obtain ⟨J, hJ⟩ : ∃ I : Int, ((i - 1 : Nat) : Int) = I := ⟨_, rfl⟩
    have w1 : IntKind.i64.wrap (I + 1) = I2 := by rw [IntWalk.i64_in _ (by omega)]; omega
    have c : I < (xs.length : Int) := by omega
    have cj : J < (xs.length : Int) := by omega
    have p0 : 0 ≤ I := by omega
    have pj : 0 ≤ J := by omega
    have t0 : I.toNat = i := by omega
    have tj : J.toNat = i - 1 := by omega
    have hk : i + 1 + n = xs.length := by omega
    have w0 : 0 < i → IntKind.i64.wrap (I - 1) = J := fun _ => by rw [IntWalk.i64_in _ (by omega)]; omega
    have z0 : 0 < i → 0 < I := fun _ => by omega
    have z1 : ¬ 0 < i → ¬ 0 < I := fun _ => by omega
    have ga' : ∀ z : D, hstore (hpush X (.row 0 2 [.d (.agg [.str [], .str []])])) (hlen X) 0 0 0 [.d (.str (xs.getD i ([], [])).1), .d (.str (xs.getD i ([], [])).2)] = some (hpush X (.row 0 2 [.d (.agg [.str (xs.getD i ([], [])).1, .str (xs.getD i ([], [])).2])])) := fun _ => by
      simp [hstore, rowOf_self, V.cells, D.cells, reCell, V.isAgg, mkAgg, allD, hset_push]
    have st := ga' .nilp
    have ld0 : hload (hpush X (.row 0 2 [.d (.agg [.str (xs.getD i ([], [])).1, .str (xs.getD i ([], [])).2])])) (hlen X) 0 0 0 1 = some [.d (.str (xs.getD i ([], [])).1)] := by simp [hload, rowOf_self, V.cells, D.cells]
    have ld1 : hload (hpush X (.row 0 2 [.d (.agg [.str (xs.getD i ([], [])).1, .str (xs.getD i ([], [])).2])])) (hlen X) 0 0 1 1 = some [.d (.str (xs.getD i ([], [])).2)] := by simp [hload, rowOf_self, V.cells, D.cells]
    have tk : htake (hpush X (.row 0 2 [.d (.agg [.str (xs.getD i ([], [])).1, .str (xs.getD i ([], [])).2])])) (hlen H) = H := by rw [htake_lt _ hx2]; exact hx1
    have lk : hlen H ≤ hlen (hpush X (.row 0 2 [.d (.agg [.str (xs.getD i ([], [])).1, .str (xs.getD i ([], [])).2])])) := by rw [hlen_hpush]; omega
    have ih := l_47 n0 xs hx H n (i + 1) (hpush X (.row 0 2 [.d (.agg [.str (xs.getD i ([], [])).1, .str (xs.getD i ([], [])).2])]))
    generalize hpush X (.row 0 2 [.d (.agg [.str (xs.getD i ([], [])).1, .str (xs.getD i ([], [])).2])]) = Y at *
    rw [hI] at g3
    rw [hI2] at ih
    simp only [anyF]
    generalize badPr xs i = b at *
    generalize anyF (badPr xs) n (i + 1) = S at *
    generalize xs.getD i ([], []) = x at *
    generalize xs.getD (i - 1) ([], []) = y at *
    obtain ⟨x1, x2⟩ := x
    obtain ⟨y1, y2⟩ := y
    simp only at *
    rw [evLoop_eq]
    generalize evLoop (evCode (ev R) R.glob n0 evLoop f47l0) [0, 5, 6, 7] = F at ih ⊢
    by_cases k1 : 40 < x1.length
    · have k1' : (40 : Int) < (x1.length : Int) := by omega
      simp only [k1, decide_true, Bool.true_or] at hp
      subst hp
      simp only [Bool.true_or, cond_true]
      refine ⟨?_, Y, ?_, ?_, ?_, ?_⟩
      rotate_left
      · simp [-List.getD_eq_getElem?_getD, -List.map_map, evBody, evCode, evOps, evOper, evOp, opd, Env.get, Env.put, Env.keep, zipEnv, V.ok, V.sto, V.cells, D.cells, V.isAgg, binD, binInt, binStr, shInt, unD, eqOf, asI, leave, resOf, mapO, fzV, tupOf, view, view1, isData, hand, flatV, flatD, allD, mkAgg, mkVal, beq_lit, IntKind.bits, htake_self, htake_push, hget_hpush_self, hset_push, rowOf_self, okIn, lowIn, lowIn1, fzC_d, fzC_row, f47l0, g0, g5, g6, g3, prs, c, cj, p0, pj, t0, tj, ga, gb, st, ld0, ld1, k1, k1']
        try rfl
      · intro _; simp [-List.getD_eq_getElem?_getD, -List.map_map, evBody, evCode, evOps, evOper, evOp, opd, Env.get, Env.put, Env.keep, zipEnv, V.ok, V.sto, V.cells, D.cells, V.isAgg, binD, binInt, binStr, shInt, unD, eqOf, asI, leave, resOf, mapO, fzV, tupOf, view, view1, isData, hand, flatV, flatD, allD, mkAgg, mkVal, beq_lit, IntKind.bits, htake_self, htake_push, hget_hpush_self, hset_push, rowOf_self, okIn, lowIn, lowIn1, fzC_d, fzC_row]
      · intro h; simp at h
      · exact tk
    · have k1' : ¬ (40 : Int) < (x1.length : Int) := by omega
      by_cases k2 : 40 < x2.length
      · have k2' : (40 : Int) < (x2.length : Int) := by omega
        simp only [k1, k2, decide_true, decide_false, Bool.false_or, Bool.true_or] at hp
        subst hp
        simp only [Bool.true_or, cond_true]
        refine ⟨?_, Y, ?_, ?_, ?_, ?_⟩
        rotate_left
        · simp [-List.getD_eq_getElem?_getD, -List.map_map, evBody, evCode, evOps, evOper, evOp, opd, Env.get, Env.put, Env.keep, zipEnv, V.ok, V.sto, V.cells, D.cells, V.isAgg, binD, binInt, binStr, shInt, unD, eqOf, asI, leave, resOf, mapO, fzV, tupOf, view, view1, isData, hand, flatV, flatD, allD, mkAgg, mkVal, beq_lit, IntKind.bits, htake_self, htake_push, hget_hpush_self, hset_push, rowOf_self, okIn, lowIn, lowIn1, fzC_d, fzC_row, f47l0, g0, g5, g6, g3, prs, c, cj, p0, pj, t0, tj, ga, gb, st, ld0, ld1, k1, k1', k2, k2']
          try rfl
        · intro _; simp [-List.getD_eq_getElem?_getD, -List.map_map, evBody, evCode, evOps, evOper, evOp, opd, Env.get, Env.put, Env.keep, zipEnv, V.ok, V.sto, V.cells, D.cells, V.isAgg, binD, binInt, binStr, shInt, unD, eqOf, asI, leave, resOf, mapO, fzV, tupOf, view, view1, isData, hand, flatV, flatD, allD, mkAgg, mkVal, beq_lit, IntKind.bits, htake_self, htake_push, hget_hpush_self, hset_push, rowOf_self, okIn, lowIn, lowIn1, fzC_d, fzC_row]
        · intro h; simp at h
        · exact tk
      · have k2' : ¬ (40 : Int) < (x2.length : Int) := by omega
        by_cases k3 : 0 < i
        · have w0 := w0 k3
          have z0 := z0 k3
          cases hl : Op.bytesLess y1 x1 with
          | false =>
            simp only [k1, k2, k3, hl, decide_true, decide_false, Bool.false_or, Bool.true_and, Bool.not_false] at hp
            subst hp
            simp only [Bool.true_or, cond_true]
            refine ⟨?_, Y, ?_, ?_, ?_, ?_⟩
            rotate_left
            · simp [-List.getD_eq_getElem?_getD, -List.map_map, evBody, evCode, evOps, evOper, evOp, opd, Env.get, Env.put, Env.keep, zipEnv, V.ok, V.sto, V.cells, D.cells, V.isAgg, binD, binInt, binStr, shInt, unD, eqOf, asI, leave, resOf, mapO, fzV, tupOf, view, view1, isData, hand, flatV, flatD, allD, mkAgg, mkVal, beq_lit, IntKind.bits, htake_self, htake_push, hget_hpush_self, hset_push, rowOf_self, okIn, lowIn, lowIn1, fzC_d, fzC_row, f47l0, g0, g5, g6, g3, prs, c, cj, p0, pj, t0, tj, ga, gb, st, ld0, ld1, k1, k1', k2, k2', z0, w0, hl]
              try rfl
            · intro _; simp [-List.getD_eq_getElem?_getD, -List.map_map, evBody, evCode, evOps, evOper, evOp, opd, Env.get, Env.put, Env.keep, zipEnv, V.ok, V.sto, V.cells, D.cells, V.isAgg, binD, binInt, binStr, shInt, unD, eqOf, asI, leave, resOf, mapO, fzV, tupOf, view, view1, isData, hand, flatV, flatD, allD, mkAgg, mkVal, beq_lit, IntKind.bits, htake_self, htake_push, hget_hpush_self, hset_push, rowOf_self, okIn, lowIn, lowIn1, fzC_d, fzC_row]
            · intro h; simp at h
            · exact tk
          | true =>
            simp only [k1, k2, k3, hl, decide_true, decide_false, Bool.false_or, Bool.true_and, Bool.not_true] at hp
            subst hp
            simp only [Bool.false_or]
            simp [-List.getD_eq_getElem?_getD, -List.map_map, evBody, evCode, evOps, evOper, evOp, opd, Env.get, Env.put, Env.keep, zipEnv, V.ok, V.sto, V.cells, D.cells, V.isAgg, binD, binInt, binStr, shInt, unD, eqOf, asI, leave, resOf, mapO, fzV, tupOf, view, view1, isData, hand, flatV, flatD, allD, mkAgg, mkVal, beq_lit, IntKind.bits, htake_self, htake_push, hget_hpush_self, hset_push, rowOf_self, okIn, lowIn, lowIn1, fzC_d, fzC_row, f47l0, g0, g5, g6, g3, prs, c, cj, p0, pj, t0, tj, w1, ga, gb, st, ld0, ld1, k1, k1', k2, k2', z0, w0, hl]
            refine ih _ hk tk lk ?_ ?_ ?_ ?_ <;> (first | rfl | exact g6)
        · have z1 := z1 k3
          simp only [k1, k2, k3, decide_false, Bool.false_or, Bool.false_and] at hp
          subst hp
          simp only [Bool.false_or]
          simp [-List.getD_eq_getElem?_getD, -List.map_map, evBody, evCode, evOps, evOper, evOp, opd, Env.get, Env.put, Env.keep, zipEnv, V.ok, V.sto, V.cells, D.cells, V.isAgg, binD, binInt, binStr, shInt, unD, eqOf, asI, leave, resOf, mapO, fzV, tupOf, view, view1, isData, hand, flatV, flatD, allD, mkAgg, mkVal, beq_lit, IntKind.bits, htake_self, htake_push, hget_hpush_self, hset_push, rowOf_self, okIn, lowIn, lowIn1, fzC_d, fzC_row, f47l0, g0, g5, g6, g3, prs, c, cj, p0, pj, t0, tj, w1, ga, gb, st, ld0, ld1, k1, k1', k2, k2', z1]
          refine ih _ hk tk lk ?_ ?_ ?_ ?_ <;> (first | rfl | exact g6)
theorem e_47 (H : Hp) (xs : List Pr) (hx : xs.length ≤ 9223372036854775807) : ev R 47 [.d (prs xs)] H = some (.d (.bool (fieldsV xs)), H) := by
  refine ev_fn (fn := f47) rfl rfl ?_
  obtain ⟨e', X', he, h1, h2, tk⟩ := l_47 (hlen H) xs hx H xs.length 0 H [(0, .d (prs xs)), (5, .d (prs xs)), (6, .d (.int .i64 xs.length)), (7, .d (.int .i64 0))] (by omega) (htake_self H) (Nat.le_refl _) rfl rfl rfl rfl
  unfold fieldsV
  simp only [prs] at he h2
  cases hb : anyF (badPr xs) xs.length 0 with
  | true =>
    have h1 := h1 hb
    simp only [hb, cond_true] at he
    simp [-List.getD_eq_getElem?_getD, -List.map_map, evBody, evCode, evOps, evOper, evOp, opd, Env.get, Env.put, Env.keep, zipEnv, V.ok, V.sto, V.cells, D.cells, V.isAgg, binD, binInt, binStr, shInt, unD, eqOf, asI, leave, resOf, mapO, fzV, tupOf, view, view1, isData, hand, flatV, flatD, allD, mkAgg, mkVal, beq_lit, IntKind.bits, htake_self, htake_push, hget_hpush_self, hset_push, rowOf_self, okIn, lowIn, lowIn1, fzC_d, fzC_row, f47, prs, he, h1, tk]
  | false =>
    have h2 := h2 hb
    simp only [hb, cond_false] at he
    by_cases hl : xs.length ≤ 16
    · have hl' : (xs.length : Int) ≤ 16 := by omega
      simp [-List.getD_eq_getElem?_getD, -List.map_map, evBody, evCode, evOps, evOper, evOp, opd, Env.get, Env.put, Env.keep, zipEnv, V.ok, V.sto, V.cells, D.cells, V.isAgg, binD, binInt, binStr, shInt, unD, eqOf, asI, leave, resOf, mapO, fzV, tupOf, view, view1, isData, hand, flatV, flatD, allD, mkAgg, mkVal, beq_lit, IntKind.bits, htake_self, htake_push, hget_hpush_self, hset_push, rowOf_self, okIn, lowIn, lowIn1, fzC_d, fzC_row, f47, prs, he, h2, hl, hl', tk]
    · have hl' : ¬ (xs.length : Int) ≤ 16 := by omega
      simp [-List.getD_eq_getElem?_getD, -List.map_map, evBody, evCode, evOps, evOper, evOp, opd, Env.get, Env.put, Env.keep, zipEnv, V.ok, V.sto, V.cells, D.cells, V.isAgg, binD, binInt, binStr, shInt, unD, eqOf, asI, leave, resOf, mapO, fzV, tupOf, view, view1, isData, hand, flatV, flatD, allD, mkAgg, mkVal, beq_lit, IntKind.bits, htake_self, htake_push, hget_hpush_self, hset_push, rowOf_self, okIn, lowIn, lowIn1, fzC_d, fzC_row, f47, prs, he, h2, hl, hl', tk]
end Go.Proofs.YtjdmiodinhlchaaDoor.Code
/- How scores are compared and found. -/
namespace Go.Proofs.YtjdmiodinhlchaaDoor.Code
open Go Go.Ev Go.Proofs
set_option maxRecDepth 100000
set_option linter.unusedSimpArgs false
set_option linter.unusedVariables false
theorem e_71 (H : Hp) (n : Int) : ev R 71 [.d (.int .i64 n)] H = some (.d (.bool false), H) := by
  refine ev_fn (fn := f71) rfl rfl ?_
  simp [-List.getD_eq_getElem?_getD, -List.map_map, evBody, evCode, evOps, evOper, evOp, opd, Env.get, Env.put, Env.keep, zipEnv, V.ok, V.sto, V.cells, D.cells, V.isAgg, binD, binInt, binStr, shInt, unD, eqOf, asI, leave, resOf, mapO, fzV, tupOf, view, view1, isData, hand, flatV, flatD, allD, mkAgg, mkVal, beq_lit, IntKind.bits, htake_self, htake_push, hget_hpush_self, hset_push, rowOf_self, okIn, lowIn, lowIn1, fzC_d, fzC_row, f71]
theorem e_72 (H : Hp) (s : Txt) : ev R 72 [.d (.str s)] H = some (.d (.bool false), H) := by
  refine ev_fn (fn := f72) rfl rfl ?_
  simp [-List.getD_eq_getElem?_getD, -List.map_map, evBody, evCode, evOps, evOper, evOp, opd, Env.get, Env.put, Env.keep, zipEnv, V.ok, V.sto, V.cells, D.cells, V.isAgg, binD, binInt, binStr, shInt, unD, eqOf, asI, leave, resOf, mapO, fzV, tupOf, view, view1, isData, hand, flatV, flatD, allD, mkAgg, mkVal, beq_lit, IntKind.bits, htake_self, htake_push, hget_hpush_self, hset_push, rowOf_self, okIn, lowIn, lowIn1, fzC_d, fzC_row, f72]
def cmpI (a b : Int) : Int := if a < b then -1 else if b < a then 1 else 0
def cmpS (x y : Txt) : Int := if Op.bytesLess x y = true then -1 else if (!(Op.bytesLess x y || decide (x = y))) = true then 1 else 0
theorem e_66 (H : Hp) (a b : Int) : ev R 66 [.d (.int .i64 a), .d (.int .i64 b)] H = some (.d (.int .i64 (cmpI a b)), H) := by
  refine ev_fn (fn := f66) rfl rfl ?_
  have p1 := pureCall_eq (cl := ev R) fun H => e_71 H a
  have p2 := pureCall_eq (cl := ev R) fun H => e_71 H b
  unfold cmpI
  by_cases c1 : a < b
  · simp [-List.getD_eq_getElem?_getD, -List.map_map, evBody, evCode, evOps, evOper, evOp, opd, Env.get, Env.put, Env.keep, zipEnv, V.ok, V.sto, V.cells, D.cells, V.isAgg, binD, binInt, binStr, shInt, unD, eqOf, asI, leave, resOf, mapO, fzV, tupOf, view, view1, isData, hand, flatV, flatD, allD, mkAgg, mkVal, beq_lit, IntKind.bits, htake_self, htake_push, hget_hpush_self, hset_push, rowOf_self, okIn, lowIn, lowIn1, fzC_d, fzC_row, f66, p1, p2, c1]
  · by_cases c2 : b < a
    · simp [-List.getD_eq_getElem?_getD, -List.map_map, evBody, evCode, evOps, evOper, evOp, opd, Env.get, Env.put, Env.keep, zipEnv, V.ok, V.sto, V.cells, D.cells, V.isAgg, binD, binInt, binStr, shInt, unD, eqOf, asI, leave, resOf, mapO, fzV, tupOf, view, view1, isData, hand, flatV, flatD, allD, mkAgg, mkVal, beq_lit, IntKind.bits, htake_self, htake_push, hget_hpush_self, hset_push, rowOf_self, okIn, lowIn, lowIn1, fzC_d, fzC_row, f66, p1, p2, c1, c2]
    · simp [-List.getD_eq_getElem?_getD, -List.map_map, evBody, evCode, evOps, evOper, evOp, opd, Env.get, Env.put, Env.keep, zipEnv, V.ok, V.sto, V.cells, D.cells, V.isAgg, binD, binInt, binStr, shInt, unD, eqOf, asI, leave, resOf, mapO, fzV, tupOf, view, view1, isData, hand, flatV, flatD, allD, mkAgg, mkVal, beq_lit, IntKind.bits, htake_self, htake_push, hget_hpush_self, hset_push, rowOf_self, okIn, lowIn, lowIn1, fzC_d, fzC_row, f66, p1, p2, c1, c2]
theorem e_67 (H : Hp) (x y : Txt) : ev R 67 [.d (.str x), .d (.str y)] H = some (.d (.int .i64 (cmpS x y)), H) := by
  refine ev_fn (fn := f67) rfl rfl ?_
  have p1 := pureCall_eq (cl := ev R) fun H => e_72 H x
  have p2 := pureCall_eq (cl := ev R) fun H => e_72 H y
  unfold cmpS
  cases c1 : Op.bytesLess x y with
  | true => simp [-List.getD_eq_getElem?_getD, -List.map_map, evBody, evCode, evOps, evOper, evOp, opd, Env.get, Env.put, Env.keep, zipEnv, V.ok, V.sto, V.cells, D.cells, V.isAgg, binD, binInt, binStr, shInt, unD, eqOf, asI, leave, resOf, mapO, fzV, tupOf, view, view1, isData, hand, flatV, flatD, allD, mkAgg, mkVal, beq_lit, IntKind.bits, htake_self, htake_push, hget_hpush_self, hset_push, rowOf_self, okIn, lowIn, lowIn1, fzC_d, fzC_row, f67, p1, p2, c1]
  | false =>
    by_cases c2 : x = y
    · subst c2
      simp [-List.getD_eq_getElem?_getD, -List.map_map, evBody, evCode, evOps, evOper, evOp, opd, Env.get, Env.put, Env.keep, zipEnv, V.ok, V.sto, V.cells, D.cells, V.isAgg, binD, binInt, binStr, shInt, unD, eqOf, asI, leave, resOf, mapO, fzV, tupOf, view, view1, isData, hand, flatV, flatD, allD, mkAgg, mkVal, beq_lit, IntKind.bits, htake_self, htake_push, hget_hpush_self, hset_push, rowOf_self, okIn, lowIn, lowIn1, fzC_d, fzC_row, f67, p1, c1]
    · simp [-List.getD_eq_getElem?_getD, -List.map_map, evBody, evCode, evOps, evOper, evOp, opd, Env.get, Env.put, Env.keep, zipEnv, V.ok, V.sto, V.cells, D.cells, V.isAgg, binD, binInt, binStr, shInt, unD, eqOf, asI, leave, resOf, mapO, fzV, tupOf, view, view1, isData, hand, flatV, flatD, allD, mkAgg, mkVal, beq_lit, IntKind.bits, htake_self, htake_push, hget_hpush_self, hset_push, rowOf_self, okIn, lowIn, lowIn1, fzC_d, fzC_row, f67, p1, p2, c1, c2]
/-- The first that is not zero. -/
def orV (a b : Int) : Int := if a = 0 then b else a
theorem duo0 (a b : D) : [a, b].getD 0 .nilp = a := rfl
theorem duo1 (a b : D) : [a, b].getD 1 .nilp = b := rfl
theorem e_65 (H : Hp) (a b : Int) : ev R 65 [.d (.vals 1 [.int .i64 a, .int .i64 b])] H = some (.d (.int .i64 (orV a b)), H) := by
  refine ev_fn (fn := f65) rfl rfl ?_
  have w1 : IntKind.i64.wrap (0 + 1) = 1 := rfl
  have w2 : IntKind.i64.wrap (1 + 1) = 2 := rfl
  have w1' : IntKind.i64.wrap 1 = 1 := rfl
  have w2' : IntKind.i64.wrap 2 = 2 := rfl
  unfold orV
  by_cases c1 : a = 0
  · subst c1
    by_cases c2 : b = 0
    · subst c2
      have L : ∃ e', evLoop (evCode (ev R) R.glob (hlen H) evLoop f65l0) [3, 6, 7, 8] ⟨[(3, .d (.int .i64 0)), (6, .d (.vals 1 [.int .i64 0, .int .i64 0])), (7, .d (.int .i64 2)), (8, .d (.int .i64 0))], H⟩ = some (.exit 0, ⟨e', H⟩) ∧ e'.get 3 = .d (.int .i64 0) := by
        rw [evLoop_eq]
        simp [-List.getD_eq_getElem?_getD, -List.map_map, evBody, evCode, evOps, evOper, evOp, opd, Env.get, Env.put, Env.keep, zipEnv, V.ok, V.sto, V.cells, D.cells, V.isAgg, binD, binInt, binStr, shInt, unD, eqOf, asI, leave, resOf, mapO, fzV, tupOf, view, view1, isData, hand, flatV, flatD, allD, mkAgg, mkVal, beq_lit, IntKind.bits, htake_self, htake_push, hget_hpush_self, hset_push, rowOf_self, okIn, lowIn, lowIn1, fzC_d, fzC_row, f65l0, duo0, duo1, w1, w2, w1', w2']
        rw [evLoop_eq]
        simp [-List.getD_eq_getElem?_getD, -List.map_map, evBody, evCode, evOps, evOper, evOp, opd, Env.get, Env.put, Env.keep, zipEnv, V.ok, V.sto, V.cells, D.cells, V.isAgg, binD, binInt, binStr, shInt, unD, eqOf, asI, leave, resOf, mapO, fzV, tupOf, view, view1, isData, hand, flatV, flatD, allD, mkAgg, mkVal, beq_lit, IntKind.bits, htake_self, htake_push, hget_hpush_self, hset_push, rowOf_self, okIn, lowIn, lowIn1, fzC_d, fzC_row, f65l0, duo0, duo1, w1, w2, w1', w2']
        rw [evLoop_eq]
        refine ⟨?_, ?_, ?_⟩
        rotate_left
        · simp [-List.getD_eq_getElem?_getD, -List.map_map, evBody, evCode, evOps, evOper, evOp, opd, Env.get, Env.put, Env.keep, zipEnv, V.ok, V.sto, V.cells, D.cells, V.isAgg, binD, binInt, binStr, shInt, unD, eqOf, asI, leave, resOf, mapO, fzV, tupOf, view, view1, isData, hand, flatV, flatD, allD, mkAgg, mkVal, beq_lit, IntKind.bits, htake_self, htake_push, hget_hpush_self, hset_push, rowOf_self, okIn, lowIn, lowIn1, fzC_d, fzC_row, f65l0, duo0, duo1, w1, w2, w1', w2']
          try rfl
        · simp [-List.getD_eq_getElem?_getD, -List.map_map, evBody, evCode, evOps, evOper, evOp, opd, Env.get, Env.put, Env.keep, zipEnv, V.ok, V.sto, V.cells, D.cells, V.isAgg, binD, binInt, binStr, shInt, unD, eqOf, asI, leave, resOf, mapO, fzV, tupOf, view, view1, isData, hand, flatV, flatD, allD, mkAgg, mkVal, beq_lit, IntKind.bits, htake_self, htake_push, hget_hpush_self, hset_push, rowOf_self, okIn, lowIn, lowIn1, fzC_d, fzC_row]
      obtain ⟨e', he, h3⟩ := L
      simp [-List.getD_eq_getElem?_getD, -List.map_map, evBody, evCode, evOps, evOper, evOp, opd, Env.get, Env.put, Env.keep, zipEnv, V.ok, V.sto, V.cells, D.cells, V.isAgg, binD, binInt, binStr, shInt, unD, eqOf, asI, leave, resOf, mapO, fzV, tupOf, view, view1, isData, hand, flatV, flatD, allD, mkAgg, mkVal, beq_lit, IntKind.bits, htake_self, htake_push, hget_hpush_self, hset_push, rowOf_self, okIn, lowIn, lowIn1, fzC_d, fzC_row, f65, he, h3]
    · have L : ∃ e', evLoop (evCode (ev R) R.glob (hlen H) evLoop f65l0) [3, 6, 7, 8] ⟨[(3, .d (.int .i64 0)), (6, .d (.vals 1 [.int .i64 0, .int .i64 b])), (7, .d (.int .i64 2)), (8, .d (.int .i64 0))], H⟩ = some (.ret, ⟨e', H⟩) ∧ e'.get 2 = .d (.int .i64 b) := by
        rw [evLoop_eq]
        simp [-List.getD_eq_getElem?_getD, -List.map_map, evBody, evCode, evOps, evOper, evOp, opd, Env.get, Env.put, Env.keep, zipEnv, V.ok, V.sto, V.cells, D.cells, V.isAgg, binD, binInt, binStr, shInt, unD, eqOf, asI, leave, resOf, mapO, fzV, tupOf, view, view1, isData, hand, flatV, flatD, allD, mkAgg, mkVal, beq_lit, IntKind.bits, htake_self, htake_push, hget_hpush_self, hset_push, rowOf_self, okIn, lowIn, lowIn1, fzC_d, fzC_row, f65l0, duo0, duo1, w1, w2, w1', w2', c2]
        rw [evLoop_eq]
        refine ⟨?_, ?_, ?_⟩
        rotate_left
        · simp [-List.getD_eq_getElem?_getD, -List.map_map, evBody, evCode, evOps, evOper, evOp, opd, Env.get, Env.put, Env.keep, zipEnv, V.ok, V.sto, V.cells, D.cells, V.isAgg, binD, binInt, binStr, shInt, unD, eqOf, asI, leave, resOf, mapO, fzV, tupOf, view, view1, isData, hand, flatV, flatD, allD, mkAgg, mkVal, beq_lit, IntKind.bits, htake_self, htake_push, hget_hpush_self, hset_push, rowOf_self, okIn, lowIn, lowIn1, fzC_d, fzC_row, f65l0, duo0, duo1, w1, w2, w1', w2', c2]
          try rfl
        · simp [-List.getD_eq_getElem?_getD, -List.map_map, evBody, evCode, evOps, evOper, evOp, opd, Env.get, Env.put, Env.keep, zipEnv, V.ok, V.sto, V.cells, D.cells, V.isAgg, binD, binInt, binStr, shInt, unD, eqOf, asI, leave, resOf, mapO, fzV, tupOf, view, view1, isData, hand, flatV, flatD, allD, mkAgg, mkVal, beq_lit, IntKind.bits, htake_self, htake_push, hget_hpush_self, hset_push, rowOf_self, okIn, lowIn, lowIn1, fzC_d, fzC_row]
      obtain ⟨e', he, h3⟩ := L
      simp [-List.getD_eq_getElem?_getD, -List.map_map, evBody, evCode, evOps, evOper, evOp, opd, Env.get, Env.put, Env.keep, zipEnv, V.ok, V.sto, V.cells, D.cells, V.isAgg, binD, binInt, binStr, shInt, unD, eqOf, asI, leave, resOf, mapO, fzV, tupOf, view, view1, isData, hand, flatV, flatD, allD, mkAgg, mkVal, beq_lit, IntKind.bits, htake_self, htake_push, hget_hpush_self, hset_push, rowOf_self, okIn, lowIn, lowIn1, fzC_d, fzC_row, f65, he, h3, c2]
  · have L : ∃ e', evLoop (evCode (ev R) R.glob (hlen H) evLoop f65l0) [3, 6, 7, 8] ⟨[(3, .d (.int .i64 0)), (6, .d (.vals 1 [.int .i64 a, .int .i64 b])), (7, .d (.int .i64 2)), (8, .d (.int .i64 0))], H⟩ = some (.ret, ⟨e', H⟩) ∧ e'.get 2 = .d (.int .i64 a) := by
      rw [evLoop_eq]
      refine ⟨?_, ?_, ?_⟩
      rotate_left
      · simp [-List.getD_eq_getElem?_getD, -List.map_map, evBody, evCode, evOps, evOper, evOp, opd, Env.get, Env.put, Env.keep, zipEnv, V.ok, V.sto, V.cells, D.cells, V.isAgg, binD, binInt, binStr, shInt, unD, eqOf, asI, leave, resOf, mapO, fzV, tupOf, view, view1, isData, hand, flatV, flatD, allD, mkAgg, mkVal, beq_lit, IntKind.bits, htake_self, htake_push, hget_hpush_self, hset_push, rowOf_self, okIn, lowIn, lowIn1, fzC_d, fzC_row, f65l0, duo0, duo1, w1, w2, w1', w2', c1]
        try rfl
      · simp [-List.getD_eq_getElem?_getD, -List.map_map, evBody, evCode, evOps, evOper, evOp, opd, Env.get, Env.put, Env.keep, zipEnv, V.ok, V.sto, V.cells, D.cells, V.isAgg, binD, binInt, binStr, shInt, unD, eqOf, asI, leave, resOf, mapO, fzV, tupOf, view, view1, isData, hand, flatV, flatD, allD, mkAgg, mkVal, beq_lit, IntKind.bits, htake_self, htake_push, hget_hpush_self, hset_push, rowOf_self, okIn, lowIn, lowIn1, fzC_d, fzC_row]
    obtain ⟨e', he, h3⟩ := L
    simp [-List.getD_eq_getElem?_getD, -List.map_map, evBody, evCode, evOps, evOper, evOp, opd, Env.get, Env.put, Env.keep, zipEnv, V.ok, V.sto, V.cells, D.cells, V.isAgg, binD, binInt, binStr, shInt, unD, eqOf, asI, leave, resOf, mapO, fzV, tupOf, view, view1, isData, hand, flatV, flatD, allD, mkAgg, mkVal, beq_lit, IntKind.bits, htake_self, htake_push, hget_hpush_self, hset_push, rowOf_self, okIn, lowIn, lowIn1, fzC_d, fzC_row, f65, he, h3, c1]
theorem take2 (H : Hp) (a b : Ev.Obj) : htake (hpush (hpush H a) b) (hlen H) = H := by simp [htake, hpush, hlen]
theorem e_60 (H : Hp) (x y : Txt) (a b : Int) : ev R 60 [.d (.agg [.str x, .int .i64 a]), .d (.agg [.str y, .int .i64 b])] H = some (.d (.int .i64 (orV (cmpI a b) (cmpS x y))), H) := by
  refine ev_fn (fn := f60) rfl rfl ?_
  have p1 := pureCall_eq (cl := ev R) fun H => e_66 H a b
  have p2 := pureCall_eq (cl := ev R) fun H => e_67 H x y
  have p3 := pureCall_eq (cl := ev R) fun H => e_65 H (cmpI a b) (cmpS x y)
  simp [-List.getD_eq_getElem?_getD, -List.map_map, evBody, evCode, evOps, evOper, evOp, opd, Env.get, Env.put, Env.keep, zipEnv, V.ok, V.sto, V.cells, D.cells, V.isAgg, binD, binInt, binStr, shInt, unD, eqOf, asI, leave, resOf, mapO, fzV, tupOf, view, view1, isData, hand, flatV, flatD, allD, mkAgg, mkVal, beq_lit, IntKind.bits, htake_self, htake_push, hget_hpush_self, hset_push, rowOf_self, okIn, lowIn, lowIn1, fzC_d, fzC_row, f60, hlen_hpush, hload, rowOf, get2_0, get2_1, p1, p2, p3, take2]
/-- Whether a score stands ahead of another. -/
def aheadV (x y : Txt) (a b : Int) : Bool := decide (a < b) || (decide (a = b) && Op.bytesLess x y)
theorem e_56 (H : Hp) (x y : Txt) (a b : Int) : ev R 56 [.d (.agg [.str x, .int .i64 a]), .d (.agg [.str y, .int .i64 b])] H = some (.d (.bool (aheadV x y a b)), H) := by
  refine ev_fn (fn := f56) rfl rfl ?_
  unfold aheadV
  by_cases c1 : a < b
  · simp [-List.getD_eq_getElem?_getD, -List.map_map, evBody, evCode, evOps, evOper, evOp, opd, Env.get, Env.put, Env.keep, zipEnv, V.ok, V.sto, V.cells, D.cells, V.isAgg, binD, binInt, binStr, shInt, unD, eqOf, asI, leave, resOf, mapO, fzV, tupOf, view, view1, isData, hand, flatV, flatD, allD, mkAgg, mkVal, beq_lit, IntKind.bits, htake_self, htake_push, hget_hpush_self, hset_push, rowOf_self, okIn, lowIn, lowIn1, fzC_d, fzC_row, f56, hlen_hpush, hload, rowOf, get2_0, get2_1, c1, take2]
  · by_cases c2 : a = b
    · simp [-List.getD_eq_getElem?_getD, -List.map_map, evBody, evCode, evOps, evOper, evOp, opd, Env.get, Env.put, Env.keep, zipEnv, V.ok, V.sto, V.cells, D.cells, V.isAgg, binD, binInt, binStr, shInt, unD, eqOf, asI, leave, resOf, mapO, fzV, tupOf, view, view1, isData, hand, flatV, flatD, allD, mkAgg, mkVal, beq_lit, IntKind.bits, htake_self, htake_push, hget_hpush_self, hset_push, rowOf_self, okIn, lowIn, lowIn1, fzC_d, fzC_row, f56, hlen_hpush, hload, rowOf, get2_0, get2_1, c1, c2, take2]
    · simp [-List.getD_eq_getElem?_getD, -List.map_map, evBody, evCode, evOps, evOper, evOp, opd, Env.get, Env.put, Env.keep, zipEnv, V.ok, V.sto, V.cells, D.cells, V.isAgg, binD, binInt, binStr, shInt, unD, eqOf, asI, leave, resOf, mapO, fzV, tupOf, view, view1, isData, hand, flatV, flatD, allD, mkAgg, mkVal, beq_lit, IntKind.bits, htake_self, htake_push, hget_hpush_self, hset_push, rowOf_self, okIn, lowIn, lowIn1, fzC_d, fzC_row, f56, hlen_hpush, hload, rowOf, get2_0, get2_1, c1, c2, take2]
theorem order_ahead (x y : Txt) (a b : Int) : decide (orV (cmpI a b) (cmpS x y) ≥ 0) = !aheadV x y a b := by
  unfold orV cmpI cmpS aheadV
  by_cases c1 : a < b
  · simp [c1]
  · by_cases c2 : b < a
    · have : ¬ a = b := by omega
      simp [c1, c2, this]
    · have : a = b := by omega
      cases h : Op.bytesLess x y with
      | true => simp [c1, c2, this]
      | false =>
        by_cases c3 : x = y
        · simp [c1, c2, this, c3]
        · simp [c1, c2, this, c3]
theorem e_69 (H : Hp) (t x : Txt) (n : Int) : ev R 69 [.d (.agg [.str t, .int .i64 n]), .d (.rptr [.str x])] H = some (.d (.bool (decide (t = x))), H) := by
  refine ev_fn (fn := f69) rfl rfl ?_
  have ld : hload (hpush H (.row 0 2 [.d (.agg [.str t, .int .i64 n])])) (hlen H) 0 0 0 1 = some [.d (.str t)] := by simp [hload, rowOf_self, V.cells, D.cells]
  simp [-List.getD_eq_getElem?_getD, -List.map_map, evBody, evCode, evOps, evOper, evOp, opd, Env.get, Env.put, Env.keep, zipEnv, V.ok, V.sto, V.cells, D.cells, V.isAgg, binD, binInt, binStr, shInt, unD, eqOf, asI, leave, resOf, mapO, fzV, tupOf, view, view1, isData, hand, flatV, flatD, allD, mkAgg, mkVal, beq_lit, IntKind.bits, htake_self, htake_push, hget_hpush_self, hset_push, rowOf_self, okIn, lowIn, lowIn1, fzC_d, fzC_row, f69, ld]
/-- The score of a text. -/
def sameT (xs : List Sc) (x : Txt) (i : Nat) : Bool := decide ((xs.getD i ([], 0)).1 = x)
theorem l_68 (n0 : Nat) (xs : List Sc) (hx : xs.length ≤ 9223372036854775807) (x : Txt) (H : Hp) : ∀ (n i : Nat) (e : Env), i + n = xs.length → e.get 0 = .d (scs xs) → e.get 1 = .d (.fn (.func 69) [.rptr [.str x]]) → e.get 7 = .d (.int .i64 xs.length) → e.get 8 = .d (.int .i64 i) →
    ∃ e', evLoop (evCode (ev R) R.glob n0 evLoop f68l0) [0, 1, 7, 8] ⟨e, H⟩ = some ((match seek (sameT xs x) n i with | some _ => .ret | none => .exit 0), ⟨e', H⟩) ∧ (∀ j, seek (sameT xs x) n i = some j → e'.get 4 = .d (.int .i64 j))
  | 0, i, e, h1, g0, g1, g7, g8 => by
    have c : ¬ (i : Int) < (xs.length : Int) := by omega
    have c' : ¬ i < xs.length := by omega
    rw [evLoop_eq]
    simp only [seek]
    refine ⟨?_, ?_, ?_⟩
    rotate_left
    · simp [-List.getD_eq_getElem?_getD, -List.map_map, evBody, evCode, evOps, evOper, evOp, opd, Env.get, Env.put, Env.keep, zipEnv, V.ok, V.sto, V.cells, D.cells, V.isAgg, binD, binInt, binStr, shInt, unD, eqOf, asI, leave, resOf, mapO, fzV, tupOf, view, view1, isData, hand, flatV, flatD, allD, mkAgg, mkVal, beq_lit, IntKind.bits, htake_self, htake_push, hget_hpush_self, hset_push, rowOf_self, okIn, lowIn, lowIn1, fzC_d, fzC_row, f68l0, g0, g1, g7, g8, scs, c, c']
      try rfl
    · intro j h; simp at h
  | n + 1, i, e, h1, g0, g1, g7, g8 => by
    have c : (i : Int) < (xs.length : Int) := by omega
    have c' : i < xs.length := by omega
    have ga := scs_get xs i c'
    have p := pureCall_eq (cl := ev R) fun H => e_69 H (xs.getD i ([], 0)).1 x (xs.getD i ([], 0)).2
    have hp : sameT xs x i = decide ((xs.getD i ([], 0)).1 = x) := rfl
    have w1 : IntKind.i64.wrap ((i : Int) + 1) = ((i + 1 : Nat) : Int) := by rw [IntWalk.i64_in _ (by omega)]; rfl
    have ih := l_68 n0 xs hx x H n (i + 1)
    simp only [seek]
    rw [hp]
    generalize (xs.getD i ([], 0)) = y at *
    rw [evLoop_eq]
    generalize evLoop (evCode (ev R) R.glob n0 evLoop f68l0) [0, 1, 7, 8] = F at ih ⊢
    by_cases hb : y.1 = x
    · simp only [hb, decide_true, if_true] at p ⊢
      refine ⟨?_, ?_, ?_⟩
      rotate_left
      · simp [-List.getD_eq_getElem?_getD, -List.map_map, evBody, evCode, evOps, evOper, evOp, opd, Env.get, Env.put, Env.keep, zipEnv, V.ok, V.sto, V.cells, D.cells, V.isAgg, binD, binInt, binStr, shInt, unD, eqOf, asI, leave, resOf, mapO, fzV, tupOf, view, view1, isData, hand, flatV, flatD, allD, mkAgg, mkVal, beq_lit, IntKind.bits, htake_self, htake_push, hget_hpush_self, hset_push, rowOf_self, okIn, lowIn, lowIn1, fzC_d, fzC_row, f68l0, g0, g1, g7, g8, scs, c, c', ga, hb, p]
        try rfl
      · intro j hj
        simp only [Option.some.injEq] at hj
        subst hj
        simp [-List.getD_eq_getElem?_getD, -List.map_map, evBody, evCode, evOps, evOper, evOp, opd, Env.get, Env.put, Env.keep, zipEnv, V.ok, V.sto, V.cells, D.cells, V.isAgg, binD, binInt, binStr, shInt, unD, eqOf, asI, leave, resOf, mapO, fzV, tupOf, view, view1, isData, hand, flatV, flatD, allD, mkAgg, mkVal, beq_lit, IntKind.bits, htake_self, htake_push, hget_hpush_self, hset_push, rowOf_self, okIn, lowIn, lowIn1, fzC_d, fzC_row]
    · simp only [hb, decide_false, Bool.false_eq_true, if_false] at p ⊢
      generalize seek (sameT xs x) n (i + 1) = S at *
      simp [-List.getD_eq_getElem?_getD, -List.map_map, evBody, evCode, evOps, evOper, evOp, opd, Env.get, Env.put, Env.keep, zipEnv, V.ok, V.sto, V.cells, D.cells, V.isAgg, binD, binInt, binStr, shInt, unD, eqOf, asI, leave, resOf, mapO, fzV, tupOf, view, view1, isData, hand, flatV, flatD, allD, mkAgg, mkVal, beq_lit, IntKind.bits, htake_self, htake_push, hget_hpush_self, hset_push, rowOf_self, okIn, lowIn, lowIn1, fzC_d, fzC_row, f68l0, g0, g1, g7, g8, scs, c, c', ga, hb, p, w1]
      refine ih _ (by omega) ?_ ?_ ?_ ?_ <;> (first | rfl | exact g7)
/-- Where a text stands. -/
def scAt (xs : List Sc) (x : Txt) : Int := match seek (sameT xs x) xs.length 0 with | some j => j | none => -1
theorem e_68 (H : Hp) (xs : List Sc) (hx : xs.length ≤ 9223372036854775807) (x : Txt) : ev R 68 [.d (scs xs), .d (.fn (.func 69) [.rptr [.str x]])] H = some (.d (.int .i64 (scAt xs x)), H) := by
  refine ev_fn (fn := f68) rfl rfl ?_
  obtain ⟨e', he, h4⟩ := l_68 (hlen H) xs hx x H xs.length 0 [(0, .d (scs xs)), (1, .d (.fn (.func 69) [.rptr [.str x]])), (7, .d (.int .i64 xs.length)), (8, .d (.int .i64 0))] (by omega) rfl rfl rfl rfl
  unfold scAt
  simp only [scs] at he
  cases hr : seek (sameT xs x) xs.length 0 with
  | some j =>
    have h4 := h4 j hr
    simp only [hr] at he
    simp [-List.getD_eq_getElem?_getD, -List.map_map, evBody, evCode, evOps, evOper, evOp, opd, Env.get, Env.put, Env.keep, zipEnv, V.ok, V.sto, V.cells, D.cells, V.isAgg, binD, binInt, binStr, shInt, unD, eqOf, asI, leave, resOf, mapO, fzV, tupOf, view, view1, isData, hand, flatV, flatD, allD, mkAgg, mkVal, beq_lit, IntKind.bits, htake_self, htake_push, hget_hpush_self, hset_push, rowOf_self, okIn, lowIn, lowIn1, fzC_d, fzC_row, f68, scs, he, h4]
  | none =>
    simp only [hr] at he
    simp [-List.getD_eq_getElem?_getD, -List.map_map, evBody, evCode, evOps, evOper, evOp, opd, Env.get, Env.put, Env.keep, zipEnv, V.ok, V.sto, V.cells, D.cells, V.isAgg, binD, binInt, binStr, shInt, unD, eqOf, asI, leave, resOf, mapO, fzV, tupOf, view, view1, isData, hand, flatV, flatD, allD, mkAgg, mkVal, beq_lit, IntKind.bits, htake_self, htake_push, hget_hpush_self, hset_push, rowOf_self, okIn, lowIn, lowIn1, fzC_d, fzC_row, f68, scs, he]
theorem e_61 (H : Hp) (xs : List Sc) (hx : xs.length ≤ 9223372036854775807) (x : Txt) : ev R 61 [.d (scs xs), .d (.str x)] H = some (.d (.int .i64 (scAt xs x)), H) := by
  refine ev_fn (fn := f61) rfl rfl ?_
  have p := pureCall_eq (cl := ev R) fun H => e_68 H xs hx x
  have uno : ∀ a : D, [a].getD 0 .nilp = a := fun _ => rfl
  simp only [scs] at p
  simp [-List.getD_eq_getElem?_getD, -List.map_map, evBody, evCode, evOps, evOper, evOp, opd, Env.get, Env.put, Env.keep, zipEnv, V.ok, V.sto, V.cells, D.cells, V.isAgg, binD, binInt, binStr, shInt, unD, eqOf, asI, leave, resOf, mapO, fzV, tupOf, view, view1, isData, hand, flatV, flatD, allD, mkAgg, mkVal, beq_lit, IntKind.bits, htake_self, htake_push, hget_hpush_self, hset_push, rowOf_self, okIn, lowIn, lowIn1, fzC_d, fzC_row, f61, scs, uno, p]
/-- Is the text twice there? -/
theorem scAt_ne (xs : List Sc) (i : Nat) (hi : i < xs.length) : decide (¬ scAt xs (xs.getD i ([], 0)).1 = (i : Int)) = anyF (sameT xs (xs.getD i ([], 0)).1) i 0 := by
  have anyT : ∀ (p : Nat → Bool) (n k : Nat), anyF p n k = true ↔ ∃ j, k ≤ j ∧ j < k + n ∧ p j = true := by
    intro p n
    induction n with
    | zero => intro k; simp [anyF]; intro j h1 h2; omega
    | succ n ih =>
      intro k
      simp only [anyF, Bool.or_eq_true, ih (k + 1)]
      constructor
      · rintro (h | ⟨j, h1, h2, h3⟩)
        · exact ⟨k, Nat.le_refl _, by omega, h⟩
        · exact ⟨j, by omega, by omega, h3⟩
      · rintro ⟨j, h1, h2, h3⟩
        by_cases e : j = k
        · subst e; exact .inl h3
        · exact .inr ⟨j, by omega, by omega, h3⟩
  have self : sameT xs (xs.getD i ([], 0)).1 i = true := by simp [sameT]
  generalize (xs.getD i ([], 0)).1 = x at *
  unfold scAt
  cases hr : seek (sameT xs x) xs.length 0 with
  | none =>
    have := seek_none hr i (by omega) (by omega)
    rw [self] at this; simp at this
  | some j =>
    obtain ⟨h1, h2, h3, h4⟩ := seek_some hr
    have hji : j ≤ i := by
      refine Nat.le_of_not_lt fun h => ?_
      have := h4 i (by omega) h
      rw [self] at this; simp at this
    simp only
    cases hb : anyF (sameT xs x) i 0 with
    | true =>
      obtain ⟨k, k1, k2, k3⟩ := (anyT _ _ _).1 hb
      have hk : ¬ k < j := fun h => by
        have := h4 k (by omega) h
        rw [k3] at this; simp at this
      simp; omega
    | false =>
      have : ¬ j < i := fun h => by
        have := (anyT (sameT xs x) i 0).2 ⟨j, by omega, by omega, h3⟩
        rw [hb] at this; simp at this
      simp; omega
end Go.Proofs.YtjdmiodinhlchaaDoor.Code
/- Which lists an entry may hold: scores in order, without twins. -/
namespace Go.Proofs.YtjdmiodinhlchaaDoor.Code
open Go Go.Ev Go.Proofs
set_option maxRecDepth 100000
set_option linter.unusedSimpArgs false
set_option linter.unusedVariables false
theorem e_59 (H : Hp) (a : Int) : ev R 59 [.d (.int .i64 a)] H = some (.d (.bool (decide (a ≥ -1000000000) && decide (a ≤ 1000000000))), H) := by
  refine ev_fn (fn := f59) rfl rfl ?_
  have p := p_25 a (-1000000000) 1000000000
  simp [-List.getD_eq_getElem?_getD, -List.map_map, evBody, evCode, evOps, evOper, evOp, opd, Env.get, Env.put, Env.keep, zipEnv, V.ok, V.sto, V.cells, D.cells, V.isAgg, binD, binInt, binStr, shInt, unD, eqOf, asI, leave, resOf, mapO, fzV, tupOf, view, view1, isData, hand, flatV, flatD, allD, mkAgg, mkVal, beq_lit, IntKind.bits, htake_self, htake_push, hget_hpush_self, hset_push, rowOf_self, okIn, lowIn, lowIn1, fzC_d, fzC_row, f59, p]
/-- A score that may not stand where it stands. -/
def badSc (xs : List Sc) (i : Nat) : Bool := decide (40 < (xs.getD i ([], 0)).1.length) || !(decide ((xs.getD i ([], 0)).2 ≥ -1000000000) && decide ((xs.getD i ([], 0)).2 ≤ 1000000000)) ||
  (decide (0 < i) && !aheadV (xs.getD (i - 1) ([], 0)).1 (xs.getD i ([], 0)).1 (xs.getD (i - 1) ([], 0)).2 (xs.getD i ([], 0)).2) || anyF (sameT xs (xs.getD i ([], 0)).1) i 0
theorem l_37i (n0 : Nat) (xs : List Sc) (hx : xs.length ≤ 9223372036854775807) (i : Nat) (hi : i < xs.length) (H : Hp) : ∀ (n k : Nat) (e : Env), k + n = i → e.get 0 = .d (scs xs) → e.get 3 = .d (.int .i64 i) → e.get 4 = .d (.int .i64 k) →
    ∃ e', evLoop (evCode (ev R) R.glob n0 evLoop f37l0) [0, 3, 4] ⟨e, H⟩ = some ((bif anyF (sameT xs (xs.getD i ([], 0)).1) n k then .ret else .exit 2), ⟨e', H⟩) ∧
      (anyF (sameT xs (xs.getD i ([], 0)).1) n k = true → e'.get 2 = .d (.bool false)) ∧ (anyF (sameT xs (xs.getD i ([], 0)).1) n k = false → e'.get 0 = .d (scs xs) ∧ e'.get 3 = .d (.int .i64 i))
  | 0, k, e, h1, g0, g3, g4 => by
    have c : ¬ (k : Int) < (i : Int) := by omega
    have c' : ¬ k < i := by omega
    rw [evLoop_eq]
    simp only [anyF]
    refine ⟨?_, ?_, ?_, ?_⟩
    rotate_left
    · simp [-List.getD_eq_getElem?_getD, -List.map_map, evBody, evCode, evOps, evOper, evOp, opd, Env.get, Env.put, Env.keep, zipEnv, V.ok, V.sto, V.cells, D.cells, V.isAgg, binD, binInt, binStr, shInt, unD, eqOf, asI, leave, resOf, mapO, fzV, tupOf, view, view1, isData, hand, flatV, flatD, allD, mkAgg, mkVal, beq_lit, IntKind.bits, htake_self, htake_push, hget_hpush_self, hset_push, rowOf_self, okIn, lowIn, lowIn1, fzC_d, fzC_row, f37l0, g0, g3, g4, scs, c, c']
      try rfl
    · intro h; simp at h
    · intro _; simp [-List.getD_eq_getElem?_getD, -List.map_map, evBody, evCode, evOps, evOper, evOp, opd, Env.get, Env.put, Env.keep, zipEnv, V.ok, V.sto, V.cells, D.cells, V.isAgg, binD, binInt, binStr, shInt, unD, eqOf, asI, leave, resOf, mapO, fzV, tupOf, view, view1, isData, hand, flatV, flatD, allD, mkAgg, mkVal, beq_lit, IntKind.bits, htake_self, htake_push, hget_hpush_self, hset_push, rowOf_self, okIn, lowIn, lowIn1, fzC_d, fzC_row, g0, g3, scs]
  | n + 1, k, e, h1, g0, g3, g4 => by
    have c : (k : Int) < (i : Int) := by omega
    have c' : k < i := by omega
    have ga := scs_get xs i hi
    have gb := scs_get xs k (by omega)
    have ck : (k : Int) < (xs.length : Int) := by omega
    have ci : (i : Int) < (xs.length : Int) := by omega
    have ck' : k < xs.length := by omega
    have hp : sameT xs (xs.getD i ([], 0)).1 k = decide ((xs.getD k ([], 0)).1 = (xs.getD i ([], 0)).1) := rfl
    have w1 : IntKind.i64.wrap ((k : Int) + 1) = ((k + 1 : Nat) : Int) := by rw [IntWalk.i64_in _ (by omega)]; rfl
    have ih := l_37i n0 xs hx i hi H n (k + 1)
    simp only [anyF]
    rw [hp]
    generalize anyF (sameT xs (xs.getD i ([], 0)).1) n (k + 1) = S at *
    generalize (xs.getD i ([], 0)) = x at *
    generalize (xs.getD k ([], 0)) = y at *
    rw [evLoop_eq]
    generalize evLoop (evCode (ev R) R.glob n0 evLoop f37l0) [0, 3, 4] = F at ih ⊢
    by_cases hb : y.1 = x.1
    · simp only [hb, decide_true, Bool.true_or, cond_true]
      refine ⟨?_, ?_, ?_, ?_⟩
      rotate_left
      · simp [-List.getD_eq_getElem?_getD, -List.map_map, evBody, evCode, evOps, evOper, evOp, opd, Env.get, Env.put, Env.keep, zipEnv, V.ok, V.sto, V.cells, D.cells, V.isAgg, binD, binInt, binStr, shInt, unD, eqOf, asI, leave, resOf, mapO, fzV, tupOf, view, view1, isData, hand, flatV, flatD, allD, mkAgg, mkVal, beq_lit, IntKind.bits, htake_self, htake_push, hget_hpush_self, hset_push, rowOf_self, okIn, lowIn, lowIn1, fzC_d, fzC_row, f37l0, g0, g3, g4, scs, c, c', ck, ci, ck', hi, ga, gb, hb]
        try rfl
      · intro _; simp [-List.getD_eq_getElem?_getD, -List.map_map, evBody, evCode, evOps, evOper, evOp, opd, Env.get, Env.put, Env.keep, zipEnv, V.ok, V.sto, V.cells, D.cells, V.isAgg, binD, binInt, binStr, shInt, unD, eqOf, asI, leave, resOf, mapO, fzV, tupOf, view, view1, isData, hand, flatV, flatD, allD, mkAgg, mkVal, beq_lit, IntKind.bits, htake_self, htake_push, hget_hpush_self, hset_push, rowOf_self, okIn, lowIn, lowIn1, fzC_d, fzC_row]
      · intro h; simp at h
    · simp only [hb, decide_false, Bool.false_or]
      simp [-List.getD_eq_getElem?_getD, -List.map_map, evBody, evCode, evOps, evOper, evOp, opd, Env.get, Env.put, Env.keep, zipEnv, V.ok, V.sto, V.cells, D.cells, V.isAgg, binD, binInt, binStr, shInt, unD, eqOf, asI, leave, resOf, mapO, fzV, tupOf, view, view1, isData, hand, flatV, flatD, allD, mkAgg, mkVal, beq_lit, IntKind.bits, htake_self, htake_push, hget_hpush_self, hset_push, rowOf_self, okIn, lowIn, lowIn1, fzC_d, fzC_row, f37l0, g0, g3, g4, scs, c, c', ck, ci, ck', hi, ga, gb, hb, w1]
      refine ih _ (by omega) ?_ ?_ ?_ <;> (first | rfl | exact g3)
/-- Scores in order, at most sixteen. -/
def scoresV (xs : List Sc) : Bool := !anyF (badSc xs) xs.length 0 && decide (xs.length ≤ 16)
theorem l_37 (n0 : Nat) (xs : List Sc) (hx : xs.length ≤ 9223372036854775807) (H : Hp) : ∀ (n i : Nat) (e : Env), i + n = xs.length → e.get 0 = .d (scs xs) → e.get 3 = .d (.int .i64 i) →
    ∃ e', evLoop (evCode (ev R) R.glob n0 evLoop f37l1) [0, 3] ⟨e, H⟩ = some ((bif anyF (badSc xs) n i then .ret else .exit 0), ⟨e', H⟩) ∧
      (anyF (badSc xs) n i = true → e'.get 2 = .d (.bool false)) ∧ (anyF (badSc xs) n i = false → e'.get 0 = .d (scs xs))
  | 0, i, e, h1, g0, g3 => by
    have c : ¬ (i : Int) < (xs.length : Int) := by omega
    have c' : ¬ i < xs.length := by omega
    rw [evLoop_eq]
    simp only [anyF]
    refine ⟨?_, ?_, ?_, ?_⟩
    rotate_left
    · simp [-List.getD_eq_getElem?_getD, -List.map_map, evBody, evCode, evOps, evOper, evOp, opd, Env.get, Env.put, Env.keep, zipEnv, V.ok, V.sto, V.cells, D.cells, V.isAgg, binD, binInt, binStr, shInt, unD, eqOf, asI, leave, resOf, mapO, fzV, tupOf, view, view1, isData, hand, flatV, flatD, allD, mkAgg, mkVal, beq_lit, IntKind.bits, htake_self, htake_push, hget_hpush_self, hset_push, rowOf_self, okIn, lowIn, lowIn1, fzC_d, fzC_row, f37l1, g0, g3, scs, c, c']
      try rfl
    · intro h; simp at h
    · intro _; simp [-List.getD_eq_getElem?_getD, -List.map_map, evBody, evCode, evOps, evOper, evOp, opd, Env.get, Env.put, Env.keep, zipEnv, V.ok, V.sto, V.cells, D.cells, V.isAgg, binD, binInt, binStr, shInt, unD, eqOf, asI, leave, resOf, mapO, fzV, tupOf, view, view1, isData, hand, flatV, flatD, allD, mkAgg, mkVal, beq_lit, IntKind.bits, htake_self, htake_push, hget_hpush_self, hset_push, rowOf_self, okIn, lowIn, lowIn1, fzC_d, fzC_row, g0, scs]
  | n + 1, i, e, h1, g0, g3 => by
    have c' : i < xs.length := by omega
    have ga := scs_get xs i c'
    have gb := scs_get xs (i - 1) (by omega)
    have hp : badSc xs i = (decide (40 < (xs.getD i ([], 0)).1.length) || !(decide ((xs.getD i ([], 0)).2 ≥ -1000000000) && decide ((xs.getD i ([], 0)).2 ≤ 1000000000)) || (decide (0 < i) && !aheadV (xs.getD (i - 1) ([], 0)).1 (xs.getD i ([], 0)).1 (xs.getD (i - 1) ([], 0)).2 (xs.getD i ([], 0)).2) || anyF (sameT xs (xs.getD i ([], 0)).1) i 0) := rfl
    have sn := scAt_ne xs i c'
    have q30 := p_20 (xs.getD i ([], 0)).2 (-1000000000) 1000000000
    have q99 := pureCall_eq (cl := ev R) fun H => e_59 H (xs.getD i ([], 0)).2
    have q98 := pureCall_eq (cl := ev R) fun H => e_56 H (xs.getD (i - 1) ([], 0)).1 (xs.getD i ([], 0)).1 (xs.getD (i - 1) ([], 0)).2 (xs.getD i ([], 0)).2
    have q100 := pureCall_eq (cl := ev R) fun H => e_60 H (xs.getD (i - 1) ([], 0)).1 (xs.getD i ([], 0)).1 (xs.getD (i - 1) ([], 0)).2 (xs.getD i ([], 0)).2
    have oa := order_ahead (xs.getD (i - 1) ([], 0)).1 (xs.getD i ([], 0)).1 (xs.getD (i - 1) ([], 0)).2 (xs.getD i ([], 0)).2
    have q101 := pureCall_eq (cl := ev R) fun H => e_61 H xs hx (xs.getD i ([], 0)).1
    simp only [scs] at q101
    obtain ⟨ei, hin, hi2, hi3⟩ := l_37i n0 xs hx i c' H i 0 [(0, .d (scs xs)), (3, .d (.int .i64 i)), (4, .d (.int .i64 0))] (by omega) rfl rfl rfl
    simp only [scs] at hin hi3
    obtain ⟨I, hI⟩ : ∃ I : Int, (i : Int) = I := ⟨_, rfl⟩
    obtain ⟨I2, hI2⟩ : ∃ I : Int, ((i + 1 : Nat) : Int) = I := ⟨_, rfl⟩
    obtain ⟨J, hJ⟩ : ∃ I : Int, ((i - 1 : Nat) : Int) = I := ⟨_, rfl⟩
    have w1 : IntKind.i64.wrap (I + 1) = I2 := by rw [IntWalk.i64_in _ (by omega)]; omega
    have c : I < (xs.length : Int) := by omega
    have cj : J < (xs.length : Int) := by omega
    have p0 : 0 ≤ I := by omega
    have pj : 0 ≤ J := by omega
    have t0 : I.toNat = i := by omega
    have tj : J.toNat = i - 1 := by omega
    have hk : i + 1 + n = xs.length := by omega
    have w0 : 0 < i → IntKind.i64.wrap (I - 1) = J := fun _ => by rw [IntWalk.i64_in _ (by omega)]; omega
    have z0 : 0 < i → 0 < I := fun _ => by omega
    have z1 : ¬ 0 < i → ¬ 0 < I := fun _ => by omega
    have ih := l_37 n0 xs hx H n (i + 1)
    rw [hI] at g3 sn hin hi3
    rw [hI2] at ih
    simp only [anyF]
    generalize badSc xs i = b at *
    generalize anyF (badSc xs) n (i + 1) = S at *
    generalize anyF (sameT xs (xs.getD i ([], 0)).1) i 0 = tw at *
    generalize xs.getD i ([], 0) = x at *
    generalize xs.getD (i - 1) ([], 0) = y at *
    obtain ⟨x1, x2⟩ := x
    obtain ⟨y1, y2⟩ := y
    simp only at *
    generalize aheadV y1 x1 y2 x2 = ah at *
    generalize orV (cmpI y2 x2) (cmpS y1 x1) = od at *
    generalize scAt xs x1 = sa at *
    rw [evLoop_eq]
    generalize evLoop (evCode (ev R) R.glob n0 evLoop f37l1) [0, 3] = F at ih ⊢
    by_cases k1 : 40 < x1.length
    · have k1' : (40 : Int) < (x1.length : Int) := by omega
      simp only [k1, decide_true, Bool.true_or] at hp
      subst hp
      simp only [Bool.true_or, cond_true]
      refine ⟨?_, ?_, ?_, ?_⟩
      rotate_left
      · simp [-List.getD_eq_getElem?_getD, -List.map_map, evBody, evCode, evOps, evOper, evOp, opd, Env.get, Env.put, Env.keep, zipEnv, V.ok, V.sto, V.cells, D.cells, V.isAgg, binD, binInt, binStr, shInt, unD, eqOf, asI, leave, resOf, mapO, fzV, tupOf, view, view1, isData, hand, flatV, flatD, allD, mkAgg, mkVal, beq_lit, IntKind.bits, htake_self, htake_push, hget_hpush_self, hset_push, rowOf_self, okIn, lowIn, lowIn1, fzC_d, fzC_row, f37l1, g0, g3, scs, c, cj, p0, pj, t0, tj, ga, gb, q30, q99, q98, q100, q101, k1, k1']
        try rfl
      · intro _; simp [-List.getD_eq_getElem?_getD, -List.map_map, evBody, evCode, evOps, evOper, evOp, opd, Env.get, Env.put, Env.keep, zipEnv, V.ok, V.sto, V.cells, D.cells, V.isAgg, binD, binInt, binStr, shInt, unD, eqOf, asI, leave, resOf, mapO, fzV, tupOf, view, view1, isData, hand, flatV, flatD, allD, mkAgg, mkVal, beq_lit, IntKind.bits, htake_self, htake_push, hget_hpush_self, hset_push, rowOf_self, okIn, lowIn, lowIn1, fzC_d, fzC_row]
      · intro h; simp at h
    · have k1' : ¬ (40 : Int) < (x1.length : Int) := by omega
      cases k2 : (decide (x2 ≥ -1000000000) && decide (x2 ≤ 1000000000)) with
      | false =>
        rw [k2] at q30 q99
        simp only [k1, k2, decide_false, Bool.false_or, Bool.not_false, Bool.true_or] at hp
        subst hp
        simp only [Bool.true_or, cond_true]
        refine ⟨?_, ?_, ?_, ?_⟩
        rotate_left
        · simp [-List.getD_eq_getElem?_getD, -List.map_map, evBody, evCode, evOps, evOper, evOp, opd, Env.get, Env.put, Env.keep, zipEnv, V.ok, V.sto, V.cells, D.cells, V.isAgg, binD, binInt, binStr, shInt, unD, eqOf, asI, leave, resOf, mapO, fzV, tupOf, view, view1, isData, hand, flatV, flatD, allD, mkAgg, mkVal, beq_lit, IntKind.bits, htake_self, htake_push, hget_hpush_self, hset_push, rowOf_self, okIn, lowIn, lowIn1, fzC_d, fzC_row, f37l1, g0, g3, scs, c, cj, p0, pj, t0, tj, ga, gb, q30, q99, q98, q100, q101, k1, k1']
          try rfl
        · intro _; simp [-List.getD_eq_getElem?_getD, -List.map_map, evBody, evCode, evOps, evOper, evOp, opd, Env.get, Env.put, Env.keep, zipEnv, V.ok, V.sto, V.cells, D.cells, V.isAgg, binD, binInt, binStr, shInt, unD, eqOf, asI, leave, resOf, mapO, fzV, tupOf, view, view1, isData, hand, flatV, flatD, allD, mkAgg, mkVal, beq_lit, IntKind.bits, htake_self, htake_push, hget_hpush_self, hset_push, rowOf_self, okIn, lowIn, lowIn1, fzC_d, fzC_row]
        · intro h; simp at h
      | true =>
        rw [k2] at q30 q99
        by_cases k3 : 0 < i
        · have w0 := w0 k3
          have z0 := z0 k3
          cases ah with
          | false =>
            have od1 : 0 ≤ od := by simpa using oa
            have od2 : ¬ od < 0 := by omega
            simp only [k1, k2, k3, decide_true, decide_false, Bool.false_or, Bool.not_true, Bool.not_false, Bool.true_and, Bool.true_or] at hp
            subst hp
            simp only [Bool.true_or, cond_true]
            refine ⟨?_, ?_, ?_, ?_⟩
            rotate_left
            · simp [-List.getD_eq_getElem?_getD, -List.map_map, evBody, evCode, evOps, evOper, evOp, opd, Env.get, Env.put, Env.keep, zipEnv, V.ok, V.sto, V.cells, D.cells, V.isAgg, binD, binInt, binStr, shInt, unD, eqOf, asI, leave, resOf, mapO, fzV, tupOf, view, view1, isData, hand, flatV, flatD, allD, mkAgg, mkVal, beq_lit, IntKind.bits, htake_self, htake_push, hget_hpush_self, hset_push, rowOf_self, okIn, lowIn, lowIn1, fzC_d, fzC_row, f37l1, g0, g3, scs, c, cj, p0, pj, t0, tj, ga, gb, q30, q99, q98, q100, q101, k1, k1', z0, w0, od1, od2]
              try rfl
            · intro _; simp [-List.getD_eq_getElem?_getD, -List.map_map, evBody, evCode, evOps, evOper, evOp, opd, Env.get, Env.put, Env.keep, zipEnv, V.ok, V.sto, V.cells, D.cells, V.isAgg, binD, binInt, binStr, shInt, unD, eqOf, asI, leave, resOf, mapO, fzV, tupOf, view, view1, isData, hand, flatV, flatD, allD, mkAgg, mkVal, beq_lit, IntKind.bits, htake_self, htake_push, hget_hpush_self, hset_push, rowOf_self, okIn, lowIn, lowIn1, fzC_d, fzC_row]
            · intro h; simp at h
          | true =>
            have od1 : ¬ 0 ≤ od := by simpa using oa
            have od2 : od < 0 := by omega
            cases tw with
            | true =>
              simp only [cond_true] at hin
              have hi2 := hi2 rfl
              simp only [k1, k2, k3, decide_true, decide_false, Bool.false_or, Bool.not_true, Bool.true_and, Bool.or_true] at hp
              subst hp
              simp only [Bool.true_or, cond_true]
              refine ⟨?_, ?_, ?_, ?_⟩
              rotate_left
              · simp [-List.getD_eq_getElem?_getD, -List.map_map, evBody, evCode, evOps, evOper, evOp, opd, Env.get, Env.put, Env.keep, zipEnv, V.ok, V.sto, V.cells, D.cells, V.isAgg, binD, binInt, binStr, shInt, unD, eqOf, asI, leave, resOf, mapO, fzV, tupOf, view, view1, isData, hand, flatV, flatD, allD, mkAgg, mkVal, beq_lit, IntKind.bits, htake_self, htake_push, hget_hpush_self, hset_push, rowOf_self, okIn, lowIn, lowIn1, fzC_d, fzC_row, f37l1, g0, g3, scs, c, cj, p0, pj, t0, tj, ga, gb, q30, q99, q98, q100, q101, k1, k1', z0, w0, od1, od2, hin]
                try rfl
              · intro _; simp [-List.getD_eq_getElem?_getD, -List.map_map, evBody, evCode, evOps, evOper, evOp, opd, Env.get, Env.put, Env.keep, zipEnv, V.ok, V.sto, V.cells, D.cells, V.isAgg, binD, binInt, binStr, shInt, unD, eqOf, asI, leave, resOf, mapO, fzV, tupOf, view, view1, isData, hand, flatV, flatD, allD, mkAgg, mkVal, beq_lit, IntKind.bits, htake_self, htake_push, hget_hpush_self, hset_push, rowOf_self, okIn, lowIn, lowIn1, fzC_d, fzC_row, hi2]
              · intro h; simp at h
            | false =>
              simp only [cond_false] at hin
              obtain ⟨hi3, hi4⟩ := hi3 rfl
              simp only [k1, k2, k3, decide_true, decide_false, Bool.false_or, Bool.not_true, Bool.true_and, Bool.or_false] at hp
              subst hp
              simp only [Bool.false_or]
              simp [-List.getD_eq_getElem?_getD, -List.map_map, evBody, evCode, evOps, evOper, evOp, opd, Env.get, Env.put, Env.keep, zipEnv, V.ok, V.sto, V.cells, D.cells, V.isAgg, binD, binInt, binStr, shInt, unD, eqOf, asI, leave, resOf, mapO, fzV, tupOf, view, view1, isData, hand, flatV, flatD, allD, mkAgg, mkVal, beq_lit, IntKind.bits, htake_self, htake_push, hget_hpush_self, hset_push, rowOf_self, okIn, lowIn, lowIn1, fzC_d, fzC_row, f37l1, g0, g3, scs, c, cj, p0, pj, t0, tj, ga, gb, q30, q99, q98, q100, q101, w1, k1, k1', z0, w0, od1, od2, hin, hi3, hi4]
              refine ih _ hk ?_ ?_ <;> (first | rfl | assumption)
        · have z1 := z1 k3
          cases tw with
          | true =>
            simp only [cond_true] at hin
            have hi2 := hi2 rfl
            simp only [k1, k2, k3, decide_false, Bool.false_or, Bool.not_true, Bool.false_and, Bool.or_true] at hp
            subst hp
            simp only [Bool.true_or, cond_true]
            refine ⟨?_, ?_, ?_, ?_⟩
            rotate_left
            · simp [-List.getD_eq_getElem?_getD, -List.map_map, evBody, evCode, evOps, evOper, evOp, opd, Env.get, Env.put, Env.keep, zipEnv, V.ok, V.sto, V.cells, D.cells, V.isAgg, binD, binInt, binStr, shInt, unD, eqOf, asI, leave, resOf, mapO, fzV, tupOf, view, view1, isData, hand, flatV, flatD, allD, mkAgg, mkVal, beq_lit, IntKind.bits, htake_self, htake_push, hget_hpush_self, hset_push, rowOf_self, okIn, lowIn, lowIn1, fzC_d, fzC_row, f37l1, g0, g3, scs, c, cj, p0, pj, t0, tj, ga, gb, q30, q99, q98, q100, q101, k1, k1', z1, hin]
              try rfl
            · intro _; simp [-List.getD_eq_getElem?_getD, -List.map_map, evBody, evCode, evOps, evOper, evOp, opd, Env.get, Env.put, Env.keep, zipEnv, V.ok, V.sto, V.cells, D.cells, V.isAgg, binD, binInt, binStr, shInt, unD, eqOf, asI, leave, resOf, mapO, fzV, tupOf, view, view1, isData, hand, flatV, flatD, allD, mkAgg, mkVal, beq_lit, IntKind.bits, htake_self, htake_push, hget_hpush_self, hset_push, rowOf_self, okIn, lowIn, lowIn1, fzC_d, fzC_row, hi2]
            · intro h; simp at h
          | false =>
            simp only [cond_false] at hin
            obtain ⟨hi3, hi4⟩ := hi3 rfl
            simp only [k1, k2, k3, decide_false, Bool.false_or, Bool.not_true, Bool.false_and, Bool.or_false] at hp
            subst hp
            simp only [Bool.false_or]
            simp [-List.getD_eq_getElem?_getD, -List.map_map, evBody, evCode, evOps, evOper, evOp, opd, Env.get, Env.put, Env.keep, zipEnv, V.ok, V.sto, V.cells, D.cells, V.isAgg, binD, binInt, binStr, shInt, unD, eqOf, asI, leave, resOf, mapO, fzV, tupOf, view, view1, isData, hand, flatV, flatD, allD, mkAgg, mkVal, beq_lit, IntKind.bits, htake_self, htake_push, hget_hpush_self, hset_push, rowOf_self, okIn, lowIn, lowIn1, fzC_d, fzC_row, f37l1, g0, g3, scs, c, cj, p0, pj, t0, tj, ga, gb, q30, q99, q98, q100, q101, w1, k1, k1', z1, hin, hi3, hi4]
            refine ih _ hk ?_ ?_ <;> (first | rfl | assumption)
theorem e_37 (H : Hp) (xs : List Sc) (hx : xs.length ≤ 9223372036854775807) : ev R 37 [.d (scs xs)] H = some (.d (.bool (scoresV xs)), H) := by
  refine ev_fn (fn := f37) rfl rfl ?_
  obtain ⟨e', he, h1, h2⟩ := l_37 (hlen H) xs hx H xs.length 0 [(0, .d (scs xs)), (3, .d (.int .i64 0))] (by omega) rfl rfl
  unfold scoresV
  simp only [scs] at he h2
  cases hb : anyF (badSc xs) xs.length 0 with
  | true =>
    have h1 := h1 hb
    simp only [hb, cond_true] at he
    simp [-List.getD_eq_getElem?_getD, -List.map_map, evBody, evCode, evOps, evOper, evOp, opd, Env.get, Env.put, Env.keep, zipEnv, V.ok, V.sto, V.cells, D.cells, V.isAgg, binD, binInt, binStr, shInt, unD, eqOf, asI, leave, resOf, mapO, fzV, tupOf, view, view1, isData, hand, flatV, flatD, allD, mkAgg, mkVal, beq_lit, IntKind.bits, htake_self, htake_push, hget_hpush_self, hset_push, rowOf_self, okIn, lowIn, lowIn1, fzC_d, fzC_row, f37, scs, he, h1]
  | false =>
    have h2 := h2 hb
    simp only [hb, cond_false] at he
    by_cases hl : xs.length ≤ 16
    · have hl' : (xs.length : Int) ≤ 16 := by omega
      simp [-List.getD_eq_getElem?_getD, -List.map_map, evBody, evCode, evOps, evOper, evOp, opd, Env.get, Env.put, Env.keep, zipEnv, V.ok, V.sto, V.cells, D.cells, V.isAgg, binD, binInt, binStr, shInt, unD, eqOf, asI, leave, resOf, mapO, fzV, tupOf, view, view1, isData, hand, flatV, flatD, allD, mkAgg, mkVal, beq_lit, IntKind.bits, htake_self, htake_push, hget_hpush_self, hset_push, rowOf_self, okIn, lowIn, lowIn1, fzC_d, fzC_row, f37, scs, he, h2, hl, hl']
    · have hl' : ¬ (xs.length : Int) ≤ 16 := by omega
      simp [-List.getD_eq_getElem?_getD, -List.map_map, evBody, evCode, evOps, evOper, evOp, opd, Env.get, Env.put, Env.keep, zipEnv, V.ok, V.sto, V.cells, D.cells, V.isAgg, binD, binInt, binStr, shInt, unD, eqOf, asI, leave, resOf, mapO, fzV, tupOf, view, view1, isData, hand, flatV, flatD, allD, mkAgg, mkVal, beq_lit, IntKind.bits, htake_self, htake_push, hget_hpush_self, hset_push, rowOf_self, okIn, lowIn, lowIn1, fzC_d, fzC_row, f37, scs, he, h2, hl, hl']
theorem l_46 (n0 : Nat) (xs : List Sc) (hx : xs.length ≤ 9223372036854775807) (H : Hp) : ∀ (n i : Nat) (X : Hp) (e : Env), i + n = xs.length → htake X (hlen H) = H → hlen H ≤ hlen X → e.get 0 = .d (scs xs) → e.get 5 = .d (scs xs) → e.get 6 = .d (.int .i64 xs.length) → e.get 7 = .d (.int .i64 i) →
    ∃ e' X', evLoop (evCode (ev R) R.glob n0 evLoop f46l0) [0, 5, 6, 7] ⟨e, X⟩ = some ((bif anyF (badSc xs) n i then .ret else .exit 0), ⟨e', X'⟩) ∧
      (anyF (badSc xs) n i = true → e'.get 2 = .d (.bool false)) ∧ (anyF (badSc xs) n i = false → e'.get 0 = .d (scs xs)) ∧ htake X' (hlen H) = H
  | 0, i, X, e, h1, hx1, hx2, g0, g5, g6, g3 => by
    have c : ¬ (i : Int) < (xs.length : Int) := by omega
    have c' : ¬ i < xs.length := by omega
    rw [evLoop_eq]
    simp only [anyF]
    refine ⟨?_, X, ?_, ?_, ?_, ?_⟩
    rotate_left
    · simp [-List.getD_eq_getElem?_getD, -List.map_map, evBody, evCode, evOps, evOper, evOp, opd, Env.get, Env.put, Env.keep, zipEnv, V.ok, V.sto, V.cells, D.cells, V.isAgg, binD, binInt, binStr, shInt, unD, eqOf, asI, leave, resOf, mapO, fzV, tupOf, view, view1, isData, hand, flatV, flatD, allD, mkAgg, mkVal, beq_lit, IntKind.bits, htake_self, htake_push, hget_hpush_self, hset_push, rowOf_self, okIn, lowIn, lowIn1, fzC_d, fzC_row, f46l0, g0, g5, g6, g3, scs, c, c']
      try rfl
    · intro h; simp at h
    · intro _; simp [-List.getD_eq_getElem?_getD, -List.map_map, evBody, evCode, evOps, evOper, evOp, opd, Env.get, Env.put, Env.keep, zipEnv, V.ok, V.sto, V.cells, D.cells, V.isAgg, binD, binInt, binStr, shInt, unD, eqOf, asI, leave, resOf, mapO, fzV, tupOf, view, view1, isData, hand, flatV, flatD, allD, mkAgg, mkVal, beq_lit, IntKind.bits, htake_self, htake_push, hget_hpush_self, hset_push, rowOf_self, okIn, lowIn, lowIn1, fzC_d, fzC_row, g0, scs]
    · exact hx1
  | n + 1, i, X, e, h1, hx1, hx2, g0, g5, g6, g3 => by
    have c' : i < xs.length := by omega
    have ga := scs_get xs i c'
    have gb := scs_get xs (i - 1) (by omega)
    have hp : badSc xs i = (decide (40 < (xs.getD i ([], 0)).1.length) || !(decide ((xs.getD i ([], 0)).2 ≥ -1000000000) && decide ((xs.getD i ([], 0)).2 ≤ 1000000000)) || (decide (0 < i) && !aheadV (xs.getD (i - 1) ([], 0)).1 (xs.getD i ([], 0)).1 (xs.getD (i - 1) ([], 0)).2 (xs.getD i ([], 0)).2) || anyF (sameT xs (xs.getD i ([], 0)).1) i 0) := rfl
    have sn := scAt_ne xs i c'
    have q30 := p_20 (xs.getD i ([], 0)).2 (-1000000000) 1000000000
    have q99 := pureCall_eq (cl := ev R) fun H => e_59 H (xs.getD i ([], 0)).2
    have q98 := pureCall_eq (cl := ev R) fun H => e_56 H (xs.getD (i - 1) ([], 0)).1 (xs.getD i ([], 0)).1 (xs.getD (i - 1) ([], 0)).2 (xs.getD i ([], 0)).2
    have q100 := pureCall_eq (cl := ev R) fun H => e_60 H (xs.getD (i - 1) ([], 0)).1 (xs.getD i ([], 0)).1 (xs.getD (i - 1) ([], 0)).2 (xs.getD i ([], 0)).2
    have oa := order_ahead (xs.getD (i - 1) ([], 0)).1 (xs.getD i ([], 0)).1 (xs.getD (i - 1) ([], 0)).2 (xs.getD i ([], 0)).2
    have q101 := pureCall_eq (cl := ev R) fun H => e_61 H xs hx (xs.getD i ([], 0)).1
    simp only [scs] at q101
    skip
    obtain ⟨I, hI⟩ : ∃ I : Int, (i : Int) = I := ⟨_, rfl⟩
    obtain ⟨I2, hI2⟩ : ∃ I : Int, ((i + 1 : Nat) : Int) = I := ⟨_, rfl⟩
    obtain ⟨J, hJ⟩ : ∃ I : Int, ((i - 1 : Nat) : Int) = I := ⟨_, rfl⟩
    have w1 : IntKind.i64.wrap (I + 1) = I2 := by rw [IntWalk.i64_in _ (by omega)]; omega
    have c : I < (xs.length : Int) := by omega
    have cj : J < (xs.length : Int) := by omega
    have p0 : 0 ≤ I := by omega
    have pj : 0 ≤ J := by omega
    have t0 : I.toNat = i := by omega
    have tj : J.toNat = i - 1 := by omega
    have hk : i + 1 + n = xs.length := by omega
    have w0 : 0 < i → IntKind.i64.wrap (I - 1) = J := fun _ => by rw [IntWalk.i64_in _ (by omega)]; omega
    have z0 : 0 < i → 0 < I := fun _ => by omega
    have z1 : ¬ 0 < i → ¬ 0 < I := fun _ => by omega
    have ga' : ∀ z : D, hstore (hpush X (.row 0 2 [.d (.agg [.str [], .int .i64 0])])) (hlen X) 0 0 0 [.d (.str (xs.getD i ([], 0)).1), .d (.int .i64 (xs.getD i ([], 0)).2)] = some (hpush X (.row 0 2 [.d (.agg [.str (xs.getD i ([], 0)).1, .int .i64 (xs.getD i ([], 0)).2])])) := fun _ => by
      simp [hstore, rowOf_self, V.cells, D.cells, reCell, V.isAgg, mkAgg, allD, hset_push]
    have st := ga' .nilp
    have ld0 : hload (hpush X (.row 0 2 [.d (.agg [.str (xs.getD i ([], 0)).1, .int .i64 (xs.getD i ([], 0)).2])])) (hlen X) 0 0 0 1 = some [.d (.str (xs.getD i ([], 0)).1)] := by simp [hload, rowOf_self, V.cells, D.cells]
    have ld1 : hload (hpush X (.row 0 2 [.d (.agg [.str (xs.getD i ([], 0)).1, .int .i64 (xs.getD i ([], 0)).2])])) (hlen X) 0 0 1 1 = some [.d (.int .i64 (xs.getD i ([], 0)).2)] := by simp [hload, rowOf_self, V.cells, D.cells]
    have ld2 : hload (hpush X (.row 0 2 [.d (.agg [.str (xs.getD i ([], 0)).1, .int .i64 (xs.getD i ([], 0)).2])])) (hlen X) 0 0 0 2 = some [.d (.str (xs.getD i ([], 0)).1), .d (.int .i64 (xs.getD i ([], 0)).2)] := by simp [hload, rowOf_self, V.cells, D.cells]
    have tk : htake (hpush X (.row 0 2 [.d (.agg [.str (xs.getD i ([], 0)).1, .int .i64 (xs.getD i ([], 0)).2])])) (hlen H) = H := by rw [htake_lt _ hx2]; exact hx1
    have lk : hlen H ≤ hlen (hpush X (.row 0 2 [.d (.agg [.str (xs.getD i ([], 0)).1, .int .i64 (xs.getD i ([], 0)).2])])) := by rw [hlen_hpush]; omega
    have ih := l_46 n0 xs hx H n (i + 1) (hpush X (.row 0 2 [.d (.agg [.str (xs.getD i ([], 0)).1, .int .i64 (xs.getD i ([], 0)).2])]))
    generalize hpush X (.row 0 2 [.d (.agg [.str (xs.getD i ([], 0)).1, .int .i64 (xs.getD i ([], 0)).2])]) = Y at *
    rw [hI] at g3 sn
    rw [hI2] at ih
    simp only [anyF]
    generalize badSc xs i = b at *
    generalize anyF (badSc xs) n (i + 1) = S at *
    generalize anyF (sameT xs (xs.getD i ([], 0)).1) i 0 = tw at *
    generalize xs.getD i ([], 0) = x at *
    generalize xs.getD (i - 1) ([], 0) = y at *
    obtain ⟨x1, x2⟩ := x
    obtain ⟨y1, y2⟩ := y
    simp only at *
    generalize aheadV y1 x1 y2 x2 = ah at *
    generalize orV (cmpI y2 x2) (cmpS y1 x1) = od at *
    generalize scAt xs x1 = sa at *
    rw [evLoop_eq]
    generalize evLoop (evCode (ev R) R.glob n0 evLoop f46l0) [0, 5, 6, 7] = F at ih ⊢
    by_cases k1 : 40 < x1.length
    · have k1' : (40 : Int) < (x1.length : Int) := by omega
      simp only [k1, decide_true, Bool.true_or] at hp
      subst hp
      simp only [Bool.true_or, cond_true]
      refine ⟨?_, Y, ?_, ?_, ?_, ?_⟩
      rotate_left
      · simp [-List.getD_eq_getElem?_getD, -List.map_map, evBody, evCode, evOps, evOper, evOp, opd, Env.get, Env.put, Env.keep, zipEnv, V.ok, V.sto, V.cells, D.cells, V.isAgg, binD, binInt, binStr, shInt, unD, eqOf, asI, leave, resOf, mapO, fzV, tupOf, view, view1, isData, hand, flatV, flatD, allD, mkAgg, mkVal, beq_lit, IntKind.bits, htake_self, htake_push, hget_hpush_self, hset_push, rowOf_self, okIn, lowIn, lowIn1, fzC_d, fzC_row, f46l0, g0, g5, g6, g3, scs, c, cj, p0, pj, t0, tj, ga, gb, st, ld0, ld1, ld2, q30, q99, q98, q100, q101, k1, k1']
        try rfl
      · intro _; simp [-List.getD_eq_getElem?_getD, -List.map_map, evBody, evCode, evOps, evOper, evOp, opd, Env.get, Env.put, Env.keep, zipEnv, V.ok, V.sto, V.cells, D.cells, V.isAgg, binD, binInt, binStr, shInt, unD, eqOf, asI, leave, resOf, mapO, fzV, tupOf, view, view1, isData, hand, flatV, flatD, allD, mkAgg, mkVal, beq_lit, IntKind.bits, htake_self, htake_push, hget_hpush_self, hset_push, rowOf_self, okIn, lowIn, lowIn1, fzC_d, fzC_row]
      · intro h; simp at h
      · exact tk
    · have k1' : ¬ (40 : Int) < (x1.length : Int) := by omega
      cases k2 : (decide (x2 ≥ -1000000000) && decide (x2 ≤ 1000000000)) with
      | false =>
        rw [k2] at q30 q99
        simp only [k1, k2, decide_false, Bool.false_or, Bool.not_false, Bool.true_or] at hp
        subst hp
        simp only [Bool.true_or, cond_true]
        refine ⟨?_, Y, ?_, ?_, ?_, ?_⟩
        rotate_left
        · simp [-List.getD_eq_getElem?_getD, -List.map_map, evBody, evCode, evOps, evOper, evOp, opd, Env.get, Env.put, Env.keep, zipEnv, V.ok, V.sto, V.cells, D.cells, V.isAgg, binD, binInt, binStr, shInt, unD, eqOf, asI, leave, resOf, mapO, fzV, tupOf, view, view1, isData, hand, flatV, flatD, allD, mkAgg, mkVal, beq_lit, IntKind.bits, htake_self, htake_push, hget_hpush_self, hset_push, rowOf_self, okIn, lowIn, lowIn1, fzC_d, fzC_row, f46l0, g0, g5, g6, g3, scs, c, cj, p0, pj, t0, tj, ga, gb, st, ld0, ld1, ld2, q30, q99, q98, q100, q101, k1, k1']
          try rfl
        · intro _; simp [-List.getD_eq_getElem?_getD, -List.map_map, evBody, evCode, evOps, evOper, evOp, opd, Env.get, Env.put, Env.keep, zipEnv, V.ok, V.sto, V.cells, D.cells, V.isAgg, binD, binInt, binStr, shInt, unD, eqOf, asI, leave, resOf, mapO, fzV, tupOf, view, view1, isData, hand, flatV, flatD, allD, mkAgg, mkVal, beq_lit, IntKind.bits, htake_self, htake_push, hget_hpush_self, hset_push, rowOf_self, okIn, lowIn, lowIn1, fzC_d, fzC_row]
        · intro h; simp at h
        · exact tk
      | true =>
        rw [k2] at q30 q99
        by_cases k3 : 0 < i
        · have w0 := w0 k3
          have z0 := z0 k3
          cases ah with
          | false =>
            have od1 : 0 ≤ od := by simpa using oa
            have od2 : ¬ od < 0 := by omega
            simp only [k1, k2, k3, decide_true, decide_false, Bool.false_or, Bool.not_true, Bool.not_false, Bool.true_and, Bool.true_or] at hp
            subst hp
            simp only [Bool.true_or, cond_true]
            refine ⟨?_, Y, ?_, ?_, ?_, ?_⟩
            rotate_left
            · simp [-List.getD_eq_getElem?_getD, -List.map_map, evBody, evCode, evOps, evOper, evOp, opd, Env.get, Env.put, Env.keep, zipEnv, V.ok, V.sto, V.cells, D.cells, V.isAgg, binD, binInt, binStr, shInt, unD, eqOf, asI, leave, resOf, mapO, fzV, tupOf, view, view1, isData, hand, flatV, flatD, allD, mkAgg, mkVal, beq_lit, IntKind.bits, htake_self, htake_push, hget_hpush_self, hset_push, rowOf_self, okIn, lowIn, lowIn1, fzC_d, fzC_row, f46l0, g0, g5, g6, g3, scs, c, cj, p0, pj, t0, tj, ga, gb, st, ld0, ld1, ld2, q30, q99, q98, q100, q101, k1, k1', z0, w0, od1, od2]
              try rfl
            · intro _; simp [-List.getD_eq_getElem?_getD, -List.map_map, evBody, evCode, evOps, evOper, evOp, opd, Env.get, Env.put, Env.keep, zipEnv, V.ok, V.sto, V.cells, D.cells, V.isAgg, binD, binInt, binStr, shInt, unD, eqOf, asI, leave, resOf, mapO, fzV, tupOf, view, view1, isData, hand, flatV, flatD, allD, mkAgg, mkVal, beq_lit, IntKind.bits, htake_self, htake_push, hget_hpush_self, hset_push, rowOf_self, okIn, lowIn, lowIn1, fzC_d, fzC_row]
            · intro h; simp at h
            · exact tk
          | true =>
            have od1 : ¬ 0 ≤ od := by simpa using oa
            have od2 : od < 0 := by omega
            cases tw with
            | true =>
              have sn : ¬ sa = I := by simpa using sn
              simp only [k1, k2, k3, decide_true, decide_false, Bool.false_or, Bool.not_true, Bool.true_and, Bool.or_true] at hp
              subst hp
              simp only [Bool.true_or, cond_true]
              refine ⟨?_, Y, ?_, ?_, ?_, ?_⟩
              rotate_left
              · simp [-List.getD_eq_getElem?_getD, -List.map_map, evBody, evCode, evOps, evOper, evOp, opd, Env.get, Env.put, Env.keep, zipEnv, V.ok, V.sto, V.cells, D.cells, V.isAgg, binD, binInt, binStr, shInt, unD, eqOf, asI, leave, resOf, mapO, fzV, tupOf, view, view1, isData, hand, flatV, flatD, allD, mkAgg, mkVal, beq_lit, IntKind.bits, htake_self, htake_push, hget_hpush_self, hset_push, rowOf_self, okIn, lowIn, lowIn1, fzC_d, fzC_row, f46l0, g0, g5, g6, g3, scs, c, cj, p0, pj, t0, tj, ga, gb, st, ld0, ld1, ld2, q30, q99, q98, q100, q101, k1, k1', z0, w0, od1, od2, sn]
                try rfl
              · intro _; simp [-List.getD_eq_getElem?_getD, -List.map_map, evBody, evCode, evOps, evOper, evOp, opd, Env.get, Env.put, Env.keep, zipEnv, V.ok, V.sto, V.cells, D.cells, V.isAgg, binD, binInt, binStr, shInt, unD, eqOf, asI, leave, resOf, mapO, fzV, tupOf, view, view1, isData, hand, flatV, flatD, allD, mkAgg, mkVal, beq_lit, IntKind.bits, htake_self, htake_push, hget_hpush_self, hset_push, rowOf_self, okIn, lowIn, lowIn1, fzC_d, fzC_row]
              · intro h; simp at h
              · exact tk
            | false =>
              have sn : sa = I := by simpa using sn
              simp only [k1, k2, k3, decide_true, decide_false, Bool.false_or, Bool.not_true, Bool.true_and, Bool.or_false] at hp
              subst hp
              simp only [Bool.false_or]
              simp [-List.getD_eq_getElem?_getD, -List.map_map, evBody, evCode, evOps, evOper, evOp, opd, Env.get, Env.put, Env.keep, zipEnv, V.ok, V.sto, V.cells, D.cells, V.isAgg, binD, binInt, binStr, shInt, unD, eqOf, asI, leave, resOf, mapO, fzV, tupOf, view, view1, isData, hand, flatV, flatD, allD, mkAgg, mkVal, beq_lit, IntKind.bits, htake_self, htake_push, hget_hpush_self, hset_push, rowOf_self, okIn, lowIn, lowIn1, fzC_d, fzC_row, f46l0, g0, g5, g6, g3, scs, c, cj, p0, pj, t0, tj, ga, gb, st, ld0, ld1, ld2, q30, q99, q98, q100, q101, w1, k1, k1', z0, w0, od1, od2, sn]
              refine ih _ hk tk lk ?_ ?_ ?_ ?_ <;> (first | rfl | exact g6)
        · have z1 := z1 k3
          cases tw with
          | true =>
            have sn : ¬ sa = I := by simpa using sn
            simp only [k1, k2, k3, decide_false, Bool.false_or, Bool.not_true, Bool.false_and, Bool.or_true] at hp
            subst hp
            simp only [Bool.true_or, cond_true]
            refine ⟨?_, Y, ?_, ?_, ?_, ?_⟩
            rotate_left
            · simp [-List.getD_eq_getElem?_getD, -List.map_map, evBody, evCode, evOps, evOper, evOp, opd, Env.get, Env.put, Env.keep, zipEnv, V.ok, V.sto, V.cells, D.cells, V.isAgg, binD, binInt, binStr, shInt, unD, eqOf, asI, leave, resOf, mapO, fzV, tupOf, view, view1, isData, hand, flatV, flatD, allD, mkAgg, mkVal, beq_lit, IntKind.bits, htake_self, htake_push, hget_hpush_self, hset_push, rowOf_self, okIn, lowIn, lowIn1, fzC_d, fzC_row, f46l0, g0, g5, g6, g3, scs, c, cj, p0, pj, t0, tj, ga, gb, st, ld0, ld1, ld2, q30, q99, q98, q100, q101, k1, k1', z1, sn]
              try rfl
            · intro _; simp [-List.getD_eq_getElem?_getD, -List.map_map, evBody, evCode, evOps, evOper, evOp, opd, Env.get, Env.put, Env.keep, zipEnv, V.ok, V.sto, V.cells, D.cells, V.isAgg, binD, binInt, binStr, shInt, unD, eqOf, asI, leave, resOf, mapO, fzV, tupOf, view, view1, isData, hand, flatV, flatD, allD, mkAgg, mkVal, beq_lit, IntKind.bits, htake_self, htake_push, hget_hpush_self, hset_push, rowOf_self, okIn, lowIn, lowIn1, fzC_d, fzC_row]
            · intro h; simp at h
            · exact tk
          | false =>
            have sn : sa = I := by simpa using sn
            simp only [k1, k2, k3, decide_false, Bool.false_or, Bool.not_true, Bool.false_and, Bool.or_false] at hp
            subst hp
            simp only [Bool.false_or]
            simp [-List.getD_eq_getElem?_getD, -List.map_map, evBody, evCode, evOps, evOper, evOp, opd, Env.get, Env.put, Env.keep, zipEnv, V.ok, V.sto, V.cells, D.cells, V.isAgg, binD, binInt, binStr, shInt, unD, eqOf, asI, leave, resOf, mapO, fzV, tupOf, view, view1, isData, hand, flatV, flatD, allD, mkAgg, mkVal, beq_lit, IntKind.bits, htake_self, htake_push, hget_hpush_self, hset_push, rowOf_self, okIn, lowIn, lowIn1, fzC_d, fzC_row, f46l0, g0, g5, g6, g3, scs, c, cj, p0, pj, t0, tj, ga, gb, st, ld0, ld1, ld2, q30, q99, q98, q100, q101, w1, k1, k1', z1, sn]
            refine ih _ hk tk lk ?_ ?_ ?_ ?_ <;> (first | rfl | exact g6)
theorem e_46 (H : Hp) (xs : List Sc) (hx : xs.length ≤ 9223372036854775807) : ev R 46 [.d (scs xs)] H = some (.d (.bool (scoresV xs)), H) := by
  refine ev_fn (fn := f46) rfl rfl ?_
  obtain ⟨e', X', he, h1, h2, tk⟩ := l_46 (hlen H) xs hx H xs.length 0 H [(0, .d (scs xs)), (5, .d (scs xs)), (6, .d (.int .i64 xs.length)), (7, .d (.int .i64 0))] (by omega) (htake_self H) (Nat.le_refl _) rfl rfl rfl rfl
  unfold scoresV
  simp only [scs] at he h2
  cases hb : anyF (badSc xs) xs.length 0 with
  | true =>
    have h1 := h1 hb
    simp only [hb, cond_true] at he
    simp [-List.getD_eq_getElem?_getD, -List.map_map, evBody, evCode, evOps, evOper, evOp, opd, Env.get, Env.put, Env.keep, zipEnv, V.ok, V.sto, V.cells, D.cells, V.isAgg, binD, binInt, binStr, shInt, unD, eqOf, asI, leave, resOf, mapO, fzV, tupOf, view, view1, isData, hand, flatV, flatD, allD, mkAgg, mkVal, beq_lit, IntKind.bits, htake_self, htake_push, hget_hpush_self, hset_push, rowOf_self, okIn, lowIn, lowIn1, fzC_d, fzC_row, f46, scs, he, h1, tk]
  | false =>
    have h2 := h2 hb
    simp only [hb, cond_false] at he
    by_cases hl : xs.length ≤ 16
    · have hl' : (xs.length : Int) ≤ 16 := by omega
      simp [-List.getD_eq_getElem?_getD, -List.map_map, evBody, evCode, evOps, evOper, evOp, opd, Env.get, Env.put, Env.keep, zipEnv, V.ok, V.sto, V.cells, D.cells, V.isAgg, binD, binInt, binStr, shInt, unD, eqOf, asI, leave, resOf, mapO, fzV, tupOf, view, view1, isData, hand, flatV, flatD, allD, mkAgg, mkVal, beq_lit, IntKind.bits, htake_self, htake_push, hget_hpush_self, hset_push, rowOf_self, okIn, lowIn, lowIn1, fzC_d, fzC_row, f46, scs, he, h2, hl, hl', tk]
    · have hl' : ¬ (xs.length : Int) ≤ 16 := by omega
      simp [-List.getD_eq_getElem?_getD, -List.map_map, evBody, evCode, evOps, evOper, evOp, opd, Env.get, Env.put, Env.keep, zipEnv, V.ok, V.sto, V.cells, D.cells, V.isAgg, binD, binInt, binStr, shInt, unD, eqOf, asI, leave, resOf, mapO, fzV, tupOf, view, view1, isData, hand, flatV, flatD, allD, mkAgg, mkVal, beq_lit, IntKind.bits, htake_self, htake_push, hget_hpush_self, hset_push, rowOf_self, okIn, lowIn, lowIn1, fzC_d, fzC_row, f46, scs, he, h2, hl, hl', tk]
end Go.Proofs.YtjdmiodinhlchaaDoor.Code

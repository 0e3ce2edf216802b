/- Orders written by the reference, and drawn bytes. -/
import Derived.Test.YtpmphmpaeooeeaaDoorVOrderDraw
import Derived.Test.YtpmphmpaeooeeaaDoorVOrderImpl
import Derived.Test.YtpmphmpaeooeeaaDoorVPut
import Derived.Test.YtpmphmpaeooeeaaDoorVList
namespace Go.Proofs.YtpmphmpaeooeeaaDoor.Code
open Go Go.Ev Go.Proofs
set_option maxRecDepth 100000
set_option linter.unusedSimpArgs false
set_option linter.unusedVariables false
theorem l42 (n0 : Nat) (xs : List Txt) (hx : xs.length ≤ 9223372036854775807)  (H : Hp) : ∀ (n i : Nat) (e : Env), i + n = xs.length → e.get 0 = .d (txts xs) → e.get 3 = .d (.int .i64 i) →
    ∃ e', evLoop (evCode (ev R) R.glob n0 evLoop f42l0) [0, 3] ⟨e, H⟩ = some ((match seek (long xs) n i with | some _ => .ret | none => .exit 0), ⟨e', H⟩) ∧
      (∀ j, seek (long xs) n i = some j → e'.get 2 = .d (.bool false)) ∧ (seek (long xs) n i = none → e'.get 0 = .d (txts xs))
  | 0, i, e, hn, h0, h3 => by
    have c : ¬ (i : Int) < (xs.length : Int) := by omega
    have c' : ¬ i < xs.length := by omega
    
    rw [evLoop_eq]
    refine ⟨?_, ?_, ?_, ?_⟩
    rotate_left
    · simp [-List.getD_eq_getElem?_getD, -List.map_map, evBody, evCode, evOps, evOper, evOp, opd, Env.get, Env.put, Env.keep, zipEnv, V.ok, V.sto, V.cells, D.cells, V.isAgg, binD, binInt, binStr, shInt, unD, eqOf, asI, leave, resOf, mapO, fzV, tupOf, view, view1, isData, hand, flatV, flatD, allD, mkAgg, mkVal, beq_lit, IntKind.bits, htake_self, htake_push, hget_hpush_self, hset_push, rowOf_self, okIn, lowIn, lowIn1, fzC_d, fzC_row, f42l0, h0, h3, txts, c, c', seek]
      rfl
    · intro j hj; simp [seek] at hj
    · intro _
      try refine ⟨?_, ?_⟩
      all_goals (first | trivial | simp [-List.getD_eq_getElem?_getD, -List.map_map, evBody, evCode, evOps, evOper, evOp, opd, Env.get, Env.put, Env.keep, zipEnv, V.ok, V.sto, V.cells, D.cells, V.isAgg, binD, binInt, binStr, shInt, unD, eqOf, asI, leave, resOf, mapO, fzV, tupOf, view, view1, isData, hand, flatV, flatD, allD, mkAgg, mkVal, beq_lit, IntKind.bits, htake_self, htake_push, hget_hpush_self, hset_push, rowOf_self, okIn, lowIn, lowIn1, fzC_d, fzC_row, h0, h3, txts])
  | n + 1, i, e, hn, h0, h3 => by
    have c : (i : Int) < (xs.length : Int) := by omega
    have c' : i < xs.length := by omega
    have g := txts_get xs i c'
    have w1 : IntKind.i64.wrap ((i : Int) + 1) = ((i + 1 : Nat) : Int) := by rw [IntWalk.i64_in _ (by omega)]; rfl
    
    have ih := l42 n0 xs hx  H n (i + 1)
    rw [evLoop_eq]
    generalize evLoop (evCode (ev R) R.glob n0 evLoop f42l0) [0, 3] = F at ih ⊢
    by_cases hb : 40 < (xs.getD i []).length
    · have hb' : (40 : Int) < ((xs.getD i []).length : Int) := by omega
      refine ⟨?_, ?_, ?_, ?_⟩
      rotate_left
      · simp [-List.getD_eq_getElem?_getD, -List.map_map, evBody, evCode, evOps, evOper, evOp, opd, Env.get, Env.put, Env.keep, zipEnv, V.ok, V.sto, V.cells, D.cells, V.isAgg, binD, binInt, binStr, shInt, unD, eqOf, asI, leave, resOf, mapO, fzV, tupOf, view, view1, isData, hand, flatV, flatD, allD, mkAgg, mkVal, beq_lit, IntKind.bits, htake_self, htake_push, hget_hpush_self, hset_push, rowOf_self, okIn, lowIn, lowIn1, fzC_d, fzC_row, f42l0, h0, h3, txts, c, c', g, seek, long, hb, hb']
        rfl
      · intro j hj
        simp [seek, long, hb, hb', -List.getD_eq_getElem?_getD] at hj
        try subst hj
        simp [-List.getD_eq_getElem?_getD, -List.map_map, evBody, evCode, evOps, evOper, evOp, opd, Env.get, Env.put, Env.keep, zipEnv, V.ok, V.sto, V.cells, D.cells, V.isAgg, binD, binInt, binStr, shInt, unD, eqOf, asI, leave, resOf, mapO, fzV, tupOf, view, view1, isData, hand, flatV, flatD, allD, mkAgg, mkVal, beq_lit, IntKind.bits, htake_self, htake_push, hget_hpush_self, hset_push, rowOf_self, okIn, lowIn, lowIn1, fzC_d, fzC_row]
      · intro hj; simp [seek, long, hb, hb', -List.getD_eq_getElem?_getD] at hj
    · have hb' : ¬ (40 : Int) < ((xs.getD i []).length : Int) := by omega
      have hs : seek (long xs) (n + 1) i = seek (long xs) n (i + 1) := by simp [seek, long, hb, -List.getD_eq_getElem?_getD]
      rw [hs]
      simp [-List.getD_eq_getElem?_getD, -List.map_map, evBody, evCode, evOps, evOper, evOp, opd, Env.get, Env.put, Env.keep, zipEnv, V.ok, V.sto, V.cells, D.cells, V.isAgg, binD, binInt, binStr, shInt, unD, eqOf, asI, leave, resOf, mapO, fzV, tupOf, view, view1, isData, hand, flatV, flatD, allD, mkAgg, mkVal, beq_lit, IntKind.bits, htake_self, htake_push, hget_hpush_self, hset_push, rowOf_self, okIn, lowIn, lowIn1, fzC_d, fzC_row, f42l0, h0, h3, txts, c, c', g, w1, hb, hb']
      refine ih _ (by omega) ?_ ?_ <;> rfl

/-- Whether texts are an order. -/
def okArgs (xs : List Txt) : Bool := (seek (long xs) xs.length 0).isNone && (decide (1 ≤ xs.length) && decide (xs.length ≤ 8))
theorem okArgs_iff (xs : List Txt) : okArgs xs = true ↔ okOrder xs := by
  unfold okArgs okOrder
  constructor
  · intro h
    simp only [Bool.and_eq_true, decide_eq_true_eq, Option.isNone_iff_eq_none] at h
    obtain ⟨h1, h2, h3⟩ := h
    refine ⟨fun x hx => ?_, h2, h3⟩
    obtain ⟨i, hi, rfl⟩ := List.getElem_of_mem hx
    have := seek_none h1 i (by omega) (by omega)
    simp only [long, decide_eq_false_iff_not, List.getD_eq_getElem?_getD, List.getElem?_eq_getElem hi, Option.getD_some] at this
    omega
  · rintro ⟨h1, h2, h3⟩
    simp only [Bool.and_eq_true, decide_eq_true_eq, Option.isNone_iff_eq_none]
    refine ⟨?_, h2, h3⟩
    cases hr : seek (long xs) xs.length 0 with
    | none => rfl
    | some j =>
      obtain ⟨_, hj, hp, _⟩ := seek_some hr
      have hj' : j < xs.length := by omega
      simp only [long, decide_eq_true_eq, List.getD_eq_getElem?_getD, List.getElem?_eq_getElem hj', Option.getD_some] at hp
      have := h1 _ (List.getElem_mem hj')
      omega
theorem e42 (H : Hp) (xs : List Txt) (hx : xs.length ≤ 9223372036854775807) : ev R 42 [.d (txts xs)] H = some (.d (.bool (okArgs xs)), H) := by
  refine ev_fn (fn := f42) rfl rfl ?_
  obtain ⟨e', he, h1, h2⟩ := l42 (hlen H) xs hx H xs.length 0 [(0, .d (txts xs)), (3, .d (.int .i64 0))] (by omega) rfl rfl
  have p := p30 (xs.length : Int) 1 8
  unfold okArgs
  cases hr : seek (long xs) xs.length 0 with
  | some j =>
    simp only [hr] at he
    simp [-List.getD_eq_getElem?_getD, -List.map_map, evBody, evCode, evOps, evOper, evOp, opd, Env.get, Env.put, Env.keep, zipEnv, V.ok, V.sto, V.cells, D.cells, V.isAgg, binD, binInt, binStr, shInt, unD, eqOf, asI, leave, resOf, mapO, fzV, tupOf, view, view1, isData, hand, flatV, flatD, allD, mkAgg, mkVal, beq_lit, IntKind.bits, htake_self, htake_push, hget_hpush_self, hset_push, rowOf_self, okIn, lowIn, lowIn1, fzC_d, fzC_row, f42, he, h1 j hr, hr]
  | none =>
    simp only [hr] at he
    have h3 := h2 hr
    have q : (decide ((xs.length : Int) ≥ 1) && decide ((xs.length : Int) ≤ 8)) = (decide (1 ≤ xs.length) && decide (xs.length ≤ 8)) := by
      congr 1 <;> exact decide_eq_decide.2 (by omega)
    rw [q] at p
    simp [-List.getD_eq_getElem?_getD, -List.map_map, evBody, evCode, evOps, evOper, evOp, opd, Env.get, Env.put, Env.keep, zipEnv, V.ok, V.sto, V.cells, D.cells, V.isAgg, binD, binInt, binStr, shInt, unD, eqOf, asI, leave, resOf, mapO, fzV, tupOf, view, view1, isData, hand, flatV, flatD, allD, mkAgg, mkVal, beq_lit, IntKind.bits, htake_self, htake_push, hget_hpush_self, hset_push, rowOf_self, okIn, lowIn, lowIn1, fzC_d, fzC_row, f42, he, h3, hr, txts, p]
theorem bulk_len (a : Txt) : (bulk a).length ≤ 2 * a.length + 6 := by
  have := decV_len a.length
  simp only [bulk, List.length_cons, List.length_append, List.length_nil]
  omega
theorem bulks_len : ∀ (xs : List Txt), (∀ x ∈ xs, x.length ≤ 40) → (bulks xs).length ≤ 86 * xs.length
  | [], _ => by simp [bulks]
  | a :: xs, h => by
    have h1 := bulk_len a
    have h2 := bulks_len xs fun x hx => h x (by simp [hx])
    have h3 := h a (by simp)
    simp only [bulks, List.length_append, List.length_cons]
    omega
theorem e69 (H : Hp) (a : Txt) (ha : a.length ≤ 1000000) : ev R 69 [.d (.str a)] H = some (.d (.str (bulk a)), H) := by
  refine ev_fn (fn := f69) rfl rfl ?_
  have q : pureCall (ev R) 65 [.d (.int .i64 a.length)] = some (.d (.str (decV a.length))) := pureCall_eq fun H => e65 a.length H (by omega)
  have dl := decV_len a.length
  have l1 : 1 + (decV a.length).length ≤ strRoom := by unfold strRoom; omega
  have l2 : (decV a.length).length + 1 ≤ strRoom := by unfold strRoom; omega
  have l3 : (decV a.length).length + 1 + 2 ≤ strRoom := by unfold strRoom; omega
  have l4 : (decV a.length).length + 2 + 1 ≤ strRoom := by unfold strRoom; omega
  have l5 : (decV a.length).length + 1 + 2 + a.length ≤ strRoom := by unfold strRoom; omega
  have l6 : (decV a.length).length + 2 + 1 + a.length ≤ strRoom := by unfold strRoom; omega
  have l7 : (decV a.length).length + 1 + 2 + a.length + 2 ≤ strRoom := by unfold strRoom; omega
  have l8 : (decV a.length).length + 2 + 1 + a.length + 2 ≤ strRoom := by unfold strRoom; omega
  have l9 : (decV a.length).length + (a.length + 1 + 1) + 1 ≤ strRoom := by unfold strRoom; omega
  have la : (decV a.length).length + (a.length + 2) + 1 ≤ strRoom := by unfold strRoom; omega
  have lb : (decV a.length).length + (a.length + 1 + 1) + 1 + 2 ≤ strRoom := by unfold strRoom; omega
  have lc : (decV a.length).length + (a.length + 2) + 1 + 2 ≤ strRoom := by unfold strRoom; omega
  unfold bulk
  simp [-List.getD_eq_getElem?_getD, -List.map_map, evBody, evCode, evOps, evOper, evOp, opd, Env.get, Env.put, Env.keep, zipEnv, V.ok, V.sto, V.cells, D.cells, V.isAgg, binD, binInt, binStr, shInt, unD, eqOf, asI, leave, resOf, mapO, fzV, tupOf, view, view1, isData, hand, flatV, flatD, allD, mkAgg, mkVal, beq_lit, IntKind.bits, htake_self, htake_push, hget_hpush_self, hset_push, rowOf_self, okIn, lowIn, lowIn1, fzC_d, fzC_row, f69, q, l1, l2, l3, l4, l5, l6, l7, l8, l9, la, lb, lc]
theorem l43 (n0 : Nat) (xs : List Txt) (hx : xs.length ≤ 1000) (hs : ∀ x ∈ xs, x.length ≤ 40) (H : Hp) : ∀ (n i : Nat) (out : Txt) (e : Env), i + n = xs.length → out.length + 86 * n ≤ 1000000 → e.get 0 = .d (txts xs) → e.get 3 = .d (.str out) → e.get 4 = .d (.int .i64 i) →
    ∃ e', evLoop (evCode (ev R) R.glob n0 evLoop f43l0) [0, 3, 4] ⟨e, H⟩ = some (.exit 0, ⟨e', H⟩) ∧ e'.get 3 = .d (.str (out ++ bulks (xs.drop i)))
  | 0, i, out, e, hi, hl, h0, h3, h4 => by
    have c : ¬ (i : Int) < (xs.length : Int) := by omega
    have c' : ¬ i < xs.length := by omega
    rw [List.drop_of_length_le (by omega), bulks, List.append_nil, evLoop_eq]
    refine ⟨?_, ?_, ?_⟩
    rotate_left
    · simp [-List.getD_eq_getElem?_getD, -List.map_map, evBody, evCode, evOps, evOper, evOp, opd, Env.get, Env.put, Env.keep, zipEnv, V.ok, V.sto, V.cells, D.cells, V.isAgg, binD, binInt, binStr, shInt, unD, eqOf, asI, leave, resOf, mapO, fzV, tupOf, view, view1, isData, hand, flatV, flatD, allD, mkAgg, mkVal, beq_lit, IntKind.bits, htake_self, htake_push, hget_hpush_self, hset_push, rowOf_self, okIn, lowIn, lowIn1, fzC_d, fzC_row, f43l0, h0, h3, h4, txts, c, c']
      try rfl
    · simp [-List.getD_eq_getElem?_getD, -List.map_map, evBody, evCode, evOps, evOper, evOp, opd, Env.get, Env.put, Env.keep, zipEnv, V.ok, V.sto, V.cells, D.cells, V.isAgg, binD, binInt, binStr, shInt, unD, eqOf, asI, leave, resOf, mapO, fzV, tupOf, view, view1, isData, hand, flatV, flatD, allD, mkAgg, mkVal, beq_lit, IntKind.bits, htake_self, htake_push, hget_hpush_self, hset_push, rowOf_self, okIn, lowIn, lowIn1, fzC_d, fzC_row, h3]
  | n + 1, i, out, e, hi, hl, h0, h3, h4 => by
    have c' : i < xs.length := by omega
    have c : (i : Int) < (xs.length : Int) := by omega
    have g := txts_get xs i c'
    have w1 : IntKind.i64.wrap ((i : Int) + 1) = ((i + 1 : Nat) : Int) := by rw [IntWalk.i64_in _ (by omega)]; rfl
    have hd : xs.drop i = xs.getD i [] :: xs.drop (i + 1) := by
      rw [List.getD_eq_getElem?_getD, List.getElem?_eq_getElem c']
      exact List.drop_eq_getElem_cons c'
    have hm : (xs.getD i []).length ≤ 40 := by
      rw [List.getD_eq_getElem?_getD, List.getElem?_eq_getElem c']
      exact hs _ (List.getElem_mem c')
    obtain ⟨x, hx'⟩ : ∃ x, xs.getD i [] = x := ⟨_, rfl⟩
    rw [hx'] at g hd hm
    have bl := bulk_len x
    have q : pureCall (ev R) 69 [.d (.str x)] = some (.d (.str (bulk x))) := pureCall_eq fun H => e69 H x (by omega)
    have l1 : out.length + (bulk x).length ≤ strRoom := by unfold strRoom; omega
    have ih := l43 n0 xs hx hs H n (i + 1) (out ++ bulk x)
    simp only [List.append_assoc] at ih
    rw [hd, bulks]
    generalize bulk x = b at q l1 ih bl ⊢
    rw [evLoop_eq]
    generalize evLoop (evCode (ev R) R.glob n0 evLoop f43l0) [0, 3, 4] = F at ih ⊢
    simp [-List.getD_eq_getElem?_getD, -List.map_map, evBody, evCode, evOps, evOper, evOp, opd, Env.get, Env.put, Env.keep, zipEnv, V.ok, V.sto, V.cells, D.cells, V.isAgg, binD, binInt, binStr, shInt, unD, eqOf, asI, leave, resOf, mapO, fzV, tupOf, view, view1, isData, hand, flatV, flatD, allD, mkAgg, mkVal, beq_lit, IntKind.bits, htake_self, htake_push, hget_hpush_self, hset_push, rowOf_self, okIn, lowIn, lowIn1, fzC_d, fzC_row, f43l0, h0, h3, h4, txts, c, c', g, w1, q, l1]
    refine ih _ (by omega) (by rw [List.length_append]; omega) ?_ ?_ ?_ <;> rfl
theorem e43 (H : Hp) (xs : List Txt) (hx : xs.length ≤ 1000) (hs : ∀ x ∈ xs, x.length ≤ 40) : ev R 43 [.d (txts xs)] H = some (.d (.str (ordText xs)), H) := by
  refine ev_fn (fn := f43) rfl rfl ?_
  have q : pureCall (ev R) 65 [.d (.int .i64 xs.length)] = some (.d (.str (decV xs.length))) := pureCall_eq fun H => e65 xs.length H (by omega)
  have dl := decV_len xs.length
  obtain ⟨e', he, h3⟩ := l43 (hlen H) xs hx hs H xs.length 0 (42 :: (decV xs.length ++ [13, 10])) [(0, .d (txts xs)), (3, .d (.str (42 :: (decV xs.length ++ [13, 10])))), (4, .d (.int .i64 0))] (by omega) (by simp; omega) rfl rfl rfl
  have e1 : 42 :: (decV xs.length ++ [13, 10]) ++ bulks (xs.drop 0) = ordText xs := by simp [ordText]
  rw [e1] at h3
  have l1 : 1 + (decV xs.length).length ≤ strRoom := by unfold strRoom; omega
  have l2 : (decV xs.length).length + 1 ≤ strRoom := by unfold strRoom; omega
  have l3 : (decV xs.length).length + 1 + 2 ≤ strRoom := by unfold strRoom; omega
  simp [-List.getD_eq_getElem?_getD, -List.map_map, evBody, evCode, evOps, evOper, evOp, opd, Env.get, Env.put, Env.keep, zipEnv, V.ok, V.sto, V.cells, D.cells, V.isAgg, binD, binInt, binStr, shInt, unD, eqOf, asI, leave, resOf, mapO, fzV, tupOf, view, view1, isData, hand, flatV, flatD, allD, mkAgg, mkVal, beq_lit, IntKind.bits, htake_self, htake_push, hget_hpush_self, hset_push, rowOf_self, okIn, lowIn, lowIn1, fzC_d, fzC_row, f43, txts, q, l1, l2, l3, he, h3]
/-- An order written out; nothing if it is none. -/
def putV (xs : List Txt) : Txt := if okArgs xs = true then ordText xs else []
theorem putV_len (xs : List Txt) : (putV xs).length ≤ 800 := by
  unfold putV
  split
  · rename_i h
    obtain ⟨h1, h2, h3⟩ := (okArgs_iff xs).1 h
    have b := bulks_len xs h1
    have d := decV_len xs.length
    simp only [ordText, List.length_cons, List.length_append]
    omega
  · simp
theorem e14 (H : Hp) (xs : List Txt) (hx : xs.length ≤ 9223372036854775807) : ev R 14 [.d (txts xs)] H = some (.d (.str (putV xs)), H) := by
  refine ev_fn (fn := f14) rfl rfl ?_
  have q := pureCall_eq (cl := ev R) fun H => e42 H xs hx
  unfold putV
  cases hok : okArgs xs with
  | false =>
    rw [hok] at q
    simp [-List.getD_eq_getElem?_getD, -List.map_map, evBody, evCode, evOps, evOper, evOp, opd, Env.get, Env.put, Env.keep, zipEnv, V.ok, V.sto, V.cells, D.cells, V.isAgg, binD, binInt, binStr, shInt, unD, eqOf, asI, leave, resOf, mapO, fzV, tupOf, view, view1, isData, hand, flatV, flatD, allD, mkAgg, mkVal, beq_lit, IntKind.bits, htake_self, htake_push, hget_hpush_self, hset_push, rowOf_self, okIn, lowIn, lowIn1, fzC_d, fzC_row, f14, q]
  | true =>
    rw [hok] at q
    obtain ⟨h1, h2, h3⟩ := (okArgs_iff xs).1 hok
    have q2 := pureCall_eq (cl := ev R) fun H => e43 H xs (by omega) h1
    simp [-List.getD_eq_getElem?_getD, -List.map_map, evBody, evCode, evOps, evOper, evOp, opd, Env.get, Env.put, Env.keep, zipEnv, V.ok, V.sto, V.cells, D.cells, V.isAgg, binD, binInt, binStr, shInt, unD, eqOf, asI, leave, resOf, mapO, fzV, tupOf, view, view1, isData, hand, flatV, flatD, allD, mkAgg, mkVal, beq_lit, IntKind.bits, htake_self, htake_push, hget_hpush_self, hset_push, rowOf_self, okIn, lowIn, lowIn1, fzC_d, fzC_row, f14, q, q2]
theorem e46 (H : Hp) (r : Nat) (bs : List Int) (q : Int) (s : Txt) (h : hget H r = some (rd bs q)) (hb : okBytes bs) (hq : 0 ≤ q) (hq2 : q ≤ 1000000000) (hs : s.length ≤ 100000) :
    ∃ (s' : Txt) (p' : Int), s'.length ≤ 100040 ∧ ev R 46 [.ptr r 0 0 0, .d (.str s)] H = some (.d (.str s'), hset H r (rd bs p')) := by
  obtain ⟨q1, hq1⟩ : ∃ x, x = q + 1 := ⟨_, rfl⟩
  obtain ⟨q2, hq2'⟩ : ∃ x, x = q1 + 1 := ⟨_, rfl⟩
  obtain ⟨q3, hq3⟩ : ∃ x, x = q2 + 1 := ⟨_, rfl⟩
  have w1 : IntKind.i64.wrap ((s.length : Int) + 1) = (s.length : Int) + 1 := IntWalk.i64_in _ (by omega)
  have a1 := of45 H r bs q q1 ((s.length : Int) + 1) h hb hq (by omega) hq1
  rw [hset_same' h] at a1
  have a2 := of45 H r bs q1 q2 5 h hb (by omega) (by omega) hq2'
  obtain ⟨t, lt, a3⟩ := of67 H r bs q2 q3 [[48], [42], [36], [13], [10], [120]] h hb (by omega) (by omega) hq3 (by simp) (by simp)
  simp only [txts, List.map_cons, List.map_nil] at a3
  obtain ⟨k0, k1⟩ := pickV_in bs q ((s.length : Int) + 1) hb hq (by omega)
  have k1 := k1 (by omega)
  obtain ⟨k, hk⟩ : ∃ k : Nat, pickV bs q ((s.length : Int) + 1) = k := ⟨(pickV bs q ((s.length : Int) + 1)).toNat, by omega⟩
  rw [hk] at a1 k1
  have kl : (k : Int) ≤ (s.length : Int) := by omega
  have kl' : k ≤ s.length := by omega
  generalize pickV bs q1 5 = c at a2
  by_cases c0 : c = 0
  · subst c0
    have l1 : k + t.length ≤ strRoom := by unfold strRoom; omega
    have l2 : k + t.length + (s.length - k) ≤ strRoom := by unfold strRoom; omega
    have l3 : k + (t.length + (s.length - k)) ≤ strRoom := by unfold strRoom; omega
    have m1 : min k s.length = k := by omega
    refine ⟨s.take k ++ (t ++ s.drop k), q3, by simp; omega, ev_fn (fn := f46) rfl rfl ?_⟩
    simp [-List.getD_eq_getElem?_getD, -List.map_map, evBody, evCode, evOps, evOper, evOp, opd, Env.get, Env.put, Env.keep, zipEnv, V.ok, V.sto, V.cells, D.cells, V.isAgg, binD, binInt, binStr, shInt, unD, eqOf, asI, leave, resOf, mapO, fzV, tupOf, view, view1, isData, hand, flatV, flatD, allD, mkAgg, mkVal, beq_lit, IntKind.bits, htake_self, htake_push, hget_hpush_self, hset_push, rowOf_self, okIn, lowIn, lowIn1, fzC_d, fzC_row, f46, w1, a1, a2, a3, kl, kl', l1, l2, l3, m1, bound, htake_hset]
  · by_cases c1 : c = 1
    · subst c1
      refine ⟨s.take k, q2, by simp; omega, ev_fn (fn := f46) rfl rfl ?_⟩
      simp [-List.getD_eq_getElem?_getD, -List.map_map, evBody, evCode, evOps, evOper, evOp, opd, Env.get, Env.put, Env.keep, zipEnv, V.ok, V.sto, V.cells, D.cells, V.isAgg, binD, binInt, binStr, shInt, unD, eqOf, asI, leave, resOf, mapO, fzV, tupOf, view, view1, isData, hand, flatV, flatD, allD, mkAgg, mkVal, beq_lit, IntKind.bits, htake_self, htake_push, hget_hpush_self, hset_push, rowOf_self, okIn, lowIn, lowIn1, fzC_d, fzC_row, f46, w1, a1, a2, kl, kl', bound, htake_hset]
    · refine ⟨s, q2, by omega, ev_fn (fn := f46) rfl rfl ?_⟩
      simp [-List.getD_eq_getElem?_getD, -List.map_map, evBody, evCode, evOps, evOper, evOp, opd, Env.get, Env.put, Env.keep, zipEnv, V.ok, V.sto, V.cells, D.cells, V.isAgg, binD, binInt, binStr, shInt, unD, eqOf, asI, leave, resOf, mapO, fzV, tupOf, view, view1, isData, hand, flatV, flatD, allD, mkAgg, mkVal, beq_lit, IntKind.bits, htake_self, htake_push, hget_hpush_self, hset_push, rowOf_self, okIn, lowIn, lowIn1, fzC_d, fzC_row, f46, w1, a1, a2, kl, kl', c0, c1, bound, htake_hset]
theorem e15 (H : Hp) (bs : List Int) (h : ∀ i, 0 ≤ bs.getD i 0 ∧ bs.getD i 0 ≤ 255) : ∃ s : Txt, s.length ≤ 100040 ∧ ev R 15 [.d (bytesD bs)] H = some (.d (.str s), H) := by
  have hb := opened_ok bs h
  have q0 := e39 H bs
  obtain ⟨ts, p1, a1, b1, b2, b2', b3, b4⟩ := e44 (hpush H (rd (opened bs) 0)) (hlen H) (opened bs) 0 (hget_hpush_self _ _) hb (by omega) (by omega)
  have hl1 : hlen (hpush H (rd (opened bs) 0)) = hlen (hpush H (rd (opened bs) p1)) := by simp only [hlen_hpush]
  rw [hset_push] at a1
  have fz1 := rowT_fz hl1 0 ts
  have tk1 := rowT_take hl1 (rowT 0 ts)
  have a2 := pureCall_eq (cl := ev R) fun H => e14 H ts (by omega)
  have a3 := e45 (hpush H (rd (opened bs) p1)) (hlen H) (opened bs) p1 3 (hget_hpush_self _ _) hb (by omega) (by omega)
  rw [hset_push] at a3
  obtain ⟨p2, hp2⟩ : ∃ x, x = p1 + 1 := ⟨_, rfl⟩
  rw [← hp2] at a3
  have pl := putV_len ts
  generalize pickV (opened bs) p1 3 = c at a3
  by_cases c0 : c = 0
  · subst c0
    obtain ⟨ts2, p3, a4, d1, d2, d2', d3, d4⟩ := e44 (hpush H (rd (opened bs) p2)) (hlen H) (opened bs) p2 (hget_hpush_self _ _) hb (by omega) (by omega)
    have hl2 : hlen (hpush H (rd (opened bs) p2)) = hlen (hpush H (rd (opened bs) p3)) := by simp only [hlen_hpush]
    rw [hset_push] at a4
    have fz2 := rowT_fz hl2 0 ts2
    have tk2 := rowT_take hl2 (rowT 0 ts2)
    have a5 := pureCall_eq (cl := ev R) fun H => e14 H ts2 (by omega)
    have pl2 := putV_len ts2
    generalize putV ts = x1 at a2 pl
    generalize putV ts2 = x2 at a5 pl2
    have l1 : x1.length + x2.length ≤ strRoom := by unfold strRoom; omega
    obtain ⟨s', p4, l2, a6⟩ := e46 (hpush H (rd (opened bs) p3)) (hlen H) (opened bs) p3 (x1 ++ x2) (hget_hpush_self _ _) hb (by omega) (by omega) (by simp; omega)
    rw [hset_push] at a6
    refine ⟨s', l2, ev_fn (fn := f15) rfl rfl ?_⟩
    simp [-List.getD_eq_getElem?_getD, -List.map_map, evBody, evCode, evOps, evOper, evOp, opd, Env.get, Env.put, Env.keep, zipEnv, V.ok, V.sto, V.cells, D.cells, V.isAgg, binD, binInt, binStr, shInt, unD, eqOf, asI, leave, resOf, mapO, fzV, tupOf, view, view1, isData, hand, flatV, flatD, allD, mkAgg, mkVal, beq_lit, IntKind.bits, htake_self, htake_push, hget_hpush_self, hset_push, rowOf_self, okIn, lowIn, lowIn1, fzC_d, fzC_row, f15, q0, a1, fz1, tk1, a2, a3, a4, fz2, tk2, a5, a6, l1]
  · generalize putV ts = x1 at a2 pl
    obtain ⟨s', p4, l2, a6⟩ := e46 (hpush H (rd (opened bs) p2)) (hlen H) (opened bs) p2 x1 (hget_hpush_self _ _) hb (by omega) (by omega) (by omega)
    rw [hset_push] at a6
    refine ⟨s', l2, ev_fn (fn := f15) rfl rfl ?_⟩
    simp [-List.getD_eq_getElem?_getD, -List.map_map, evBody, evCode, evOps, evOper, evOp, opd, Env.get, Env.put, Env.keep, zipEnv, V.ok, V.sto, V.cells, D.cells, V.isAgg, binD, binInt, binStr, shInt, unD, eqOf, asI, leave, resOf, mapO, fzV, tupOf, view, view1, isData, hand, flatV, flatD, allD, mkAgg, mkVal, beq_lit, IntKind.bits, htake_self, htake_push, hget_hpush_self, hset_push, rowOf_self, okIn, lowIn, lowIn1, fzC_d, fzC_row, f15, q0, a1, fz1, tk1, a2, a3, a6, c0]
end Go.Proofs.YtpmphmpaeooeeaaDoor.Code

/- Orders, drawn. -/
import Derived.Test.YtpmphmpaeooeeaaDoorVTexts
namespace Go.Proofs.YtpmphmpaeooeeaaDoor.Code
open Go Go.Ev Go.Proofs
set_option maxRecDepth 100000
set_option linter.unusedSimpArgs false
set_option linter.unusedVariables false
theorem hset_same' {H : Hp} {r : Nat} {o : Ev.Obj} (h : hget H r = some o) : hset H r o = H := by
  induction H generalizing r with
  | nil => rfl
  | cons a H ih =>
    cases r with
    | zero => simp only [hget, Option.some.injEq] at h; subst h; rfl
    | succ r => exact congrArg (List.cons a) (ih h)
theorem textsV_short (bs : List Int) : ∀ (n : Nat) (p : Int), ∀ x ∈ textsV bs n p, x.length ≤ 40
  | 0, p => by simp [textsV]
  | n + 1, p => by
    intro x hx
    simp only [textsV, List.mem_cons] at hx
    rcases hx with rfl | hx
    · exact textV_len bs p
    · exact textsV_short bs n (p + 1) x hx
theorem of67 (H : Hp) (r : Nat) (bs : List Int) (q q' : Int) (xs : List Txt) {o : Ev.Obj} (h : hget H r = some o) (hb : okBytes bs) (hq : 0 ≤ q) (hq2 : q ≤ 100000000000) (hq' : q' = q + 1) (hx : 0 < xs.length) (hm : ∀ x ∈ xs, x.length ≤ 40) :
    ∃ t : Txt, t.length ≤ 40 ∧ ev R 67 [.ptr r 0 0 0, .d (txts xs)] (hset H r (rd bs q)) = some (.d (.str t), hset H r (rd bs q')) := by
  subst hq'
  have e := e67 (hset H r (rd bs q)) r bs q xs (hget_hset_self _ (hget_lt h)) hb hq (by omega) hx
  rw [hset_hset] at e
  exact ⟨_, ofV_all bs q xs 40 hm, e⟩
theorem of71 (H : Hp) (r : Nat) (bs : List Int) (q q' : Int) {o : Ev.Obj} (h : hget H r = some o) (hb : okBytes bs) (hq : 0 ≤ q) (hq2 : q ≤ 100000000000) (hq' : q' = q + 1) :
    ∃ t : Txt, t.length ≤ 40 ∧ ev R 71 [.ptr r 0 0 0] (hset H r (rd bs q)) = some (.d (.str t), hset H r (rd bs q')) := by
  subst hq'
  have e := e71 (hset H r (rd bs q)) r bs q (hget_hset_self _ (hget_lt h)) hb hq (by omega)
  rw [hset_hset] at e
  exact ⟨_, textV_len bs q, e⟩
theorem of45 (H : Hp) (r : Nat) (bs : List Int) (q q' n : Int) {o : Ev.Obj} (h : hget H r = some o) (hb : okBytes bs) (hq : 0 ≤ q) (hq2 : q ≤ 100000000000) (hq' : q' = q + 1) :
    ev R 45 [.ptr r 0 0 0, .d (.int .i64 n)] (hset H r (rd bs q)) = some (.d (.int .i64 (pickV bs q n)), hset H r (rd bs q')) := by
  subst hq'
  have e := e45 (hset H r (rd bs q)) r bs q n (hget_hset_self _ (hget_lt h)) hb hq (by omega)
  rwa [hset_hset] at e
theorem of70 (H : Hp) (r : Nat) (bs : List Int) (q q' : Int) {o : Ev.Obj} (h : hget H r = some o) (hb : okBytes bs) (hq : 0 ≤ q) (hq2 : q ≤ 100000000000) (hq' : q' = q + 1) :
    ∃ t : Txt, t.length ≤ 40 ∧ ev R 70 [.ptr r 0 0 0] (hset H r (rd bs q)) = some (.d (.str t), hset H r (rd bs q')) := by
  obtain ⟨t, l, e⟩ := of67 H r bs q q' [[107], [108], [115], [122], [104], [107, 50], [108]] h hb hq hq2 hq' (by simp) (by simp)
  refine ⟨t, l, ev_fn (fn := f70) rfl rfl ?_⟩
  have hl := htake_self (hset H r (rd bs q'))
  rw [hlen_hset] at hl
  have hl2 := hlen_hset H r (rd bs q)
  simp only [txts, List.map_cons, List.map_nil] at e
  simp [-List.getD_eq_getElem?_getD, -List.map_map, evBody, evCode, evOps, evOper, evOp, opd, Env.get, Env.put, Env.keep, zipEnv, V.ok, V.sto, V.cells, D.cells, V.isAgg, binD, binInt, binStr, shInt, unD, eqOf, asI, leave, resOf, mapO, fzV, tupOf, view, view1, isData, hand, flatV, flatD, allD, mkAgg, mkVal, beq_lit, IntKind.bits, htake_self, htake_push, hget_hpush_self, hset_push, rowOf_self, okIn, lowIn, lowIn1, fzC_d, fzC_row, f70, e, hl, hl2]
theorem of72 (H : Hp) (r : Nat) (bs : List Int) (q q' : Int) {o : Ev.Obj} (h : hget H r = some o) (hb : okBytes bs) (hq : 0 ≤ q) (hq2 : q ≤ 100000000000) (hq' : q' = q + 1) :
    ∃ t : Txt, t.length ≤ 40 ∧ ev R 72 [.ptr r 0 0 0] (hset H r (rd bs q)) = some (.d (.str t), hset H r (rd bs q')) := by
  obtain ⟨t, l, e⟩ := of67 H r bs q q' [[48], [49], [45, 49], [50], [45, 50], [53], [49, 48, 48], [45, 49, 48, 48], [49, 48, 48, 48, 48, 48, 48, 48, 48, 48], [120]] h hb hq hq2 hq' (by simp) (by simp)
  refine ⟨t, l, ev_fn (fn := f72) rfl rfl ?_⟩
  have hl := htake_self (hset H r (rd bs q'))
  rw [hlen_hset] at hl
  have hl2 := hlen_hset H r (rd bs q)
  simp only [txts, List.map_cons, List.map_nil] at e
  simp [-List.getD_eq_getElem?_getD, -List.map_map, evBody, evCode, evOps, evOper, evOp, opd, Env.get, Env.put, Env.keep, zipEnv, V.ok, V.sto, V.cells, D.cells, V.isAgg, binD, binInt, binStr, shInt, unD, eqOf, asI, leave, resOf, mapO, fzV, tupOf, view, view1, isData, hand, flatV, flatD, allD, mkAgg, mkVal, beq_lit, IntKind.bits, htake_self, htake_push, hget_hpush_self, hset_push, rowOf_self, okIn, lowIn, lowIn1, fzC_d, fzC_row, f72, e, hl, hl2]
theorem of73 (H : Hp) (r : Nat) (bs : List Int) (q : Int) (mi : Int) (most : Nat) (hmi : mi = most) (L : List Txt) {o : Ev.Obj} (h : hget H r = some o) (hb : okBytes bs) (hq : 0 ≤ q) (hq2 : q ≤ 10000000000) (hm : most ≤ 3) :
    ∃ (N : Nat) (p9 : Int), N ≤ most ∧ (q ≤ p9 ∧ p9 ≤ q + 5) ∧ ev R 73 [.ptr r 0 0 0, .d (.int .i64 mi)] (hpush (hset H r (rd bs q)) (.row 0 1 ((L.map D.str).map V.d))) = some (.slc (hlen H + 1) 0 0 N, hpush (hpush (hset H r (rd bs p9)) (.row 0 1 ((L.map D.str).map V.d))) (rowT 0 (textsV bs N (q + 1)))) := by
  subst hmi
  have hr := hget_lt h
  have hg : hget (hpush (hset H r (rd bs q)) (.row 0 1 ((L.map D.str).map V.d))) r = some (rd bs q) := by
    rw [hget_hpush_lt _ (by rw [hlen_hset]; exact hr), hget_hset_self _ hr]
  have e := e73 _ r bs q most hg hb hq (by omega) (by omega)
  obtain ⟨k0, k1⟩ := pickV_in bs q ((most : Int) + 1) hb hq (by omega)
  have k1 := k1 (by omega)
  obtain ⟨N, hN⟩ : ∃ N, (pickV bs q ((most : Int) + 1)).toNat = N := ⟨_, rfl⟩
  rw [hN, hlen_hpush, hlen_hset, hset_push_lt (by rw [hlen_hset]; exact hr), hset_hset] at e
  exact ⟨N, q + 1 + N, by omega, by omega, e⟩
theorem app_row (H X : Hp) (hl : hlen X = hlen H) (ds ts : List Txt) (N : Nat) (hN : ts.length = N) :
    rowOf (hpush (hpush X (.row 0 1 ((ds.map D.str).map V.d))) (rowT 0 ts)) (hlen H) 0 = some (1, (ds.map D.str).map V.d) ∧
    src (hpush (hpush X (.row 0 1 ((ds.map D.str).map V.d))) (rowT 0 ts)) (.slc (hlen H + 1) 0 0 N) = some (1, (ts.map D.str).map V.d, false) ∧
    hset (hpush (hpush X (.row 0 1 ((ds.map D.str).map V.d))) (rowT 0 ts)) (hlen H) (.row 1 1 ((ds.map D.str).map V.d ++ (ts.map D.str).map V.d)) = hpush (hpush X (.row 1 1 ((ds.map D.str).map V.d ++ (ts.map D.str).map V.d))) (rowT 0 ts) ∧
    fzC (hlen H) (hpush (hpush X (.row 1 1 ((ds.map D.str).map V.d ++ (ts.map D.str).map V.d))) (rowT 0 ts)) (.slc (hlen H) 1 0 (ds.length + N)) = some (.d (.vals 1 (ds.map D.str ++ ts.map D.str))) ∧
    htake (hpush (hpush X (.row 1 1 ((ds.map D.str).map V.d ++ (ts.map D.str).map V.d))) (rowT 0 ts)) (hlen H) = X ∧
    ((ts.map D.str).map V.d).all (okIn (hlen H) (hlen H)) = true := by
  subst hN
  rw [← hl]
  refine ⟨?_, ?_, ?_, ?_, ?_, ?_⟩
  · simp only [rowOf, hget_hpush_lt _ (show hlen X < hlen (hpush X (.row 0 1 ((ds.map D.str).map V.d))) by rw [hlen_hpush]; omega), hget_hpush_self]
    rfl
  · have hr : rowOf (hpush (hpush X (.row 0 1 ((ds.map D.str).map V.d))) (rowT 0 ts)) (hlen X + 1) 0 = some (1, (ts.map D.str).map V.d) := rowT_row (by rw [hlen_hpush])
    simp only [src, hr]
    rw [if_pos (by simp), List.drop_zero, List.take_of_length_le (by simp)]
  · rw [hset_push_lt (by rw [hlen_hpush]; omega), hset_push]
  · have hr : rowOf (hpush (hpush X (.row 1 1 ((ds.map D.str).map V.d ++ (ts.map D.str).map V.d))) (rowT 0 ts)) (hlen X) 1 = some (1, (ds.map D.str).map V.d ++ (ts.map D.str).map V.d) := by
      simp only [rowOf, hget_hpush_lt _ (show hlen X < hlen (hpush X (.row 1 1 ((ds.map D.str).map V.d ++ (ts.map D.str).map V.d))) by rw [hlen_hpush]; omega), hget_hpush_self]
      rfl
    have h := fz_row (n := hlen X) (d := 7) (i := 0) (k := ds.length + ts.length) (by omega) hr (by simp) (ys := ds.map D.str ++ ts.map D.str) (by
      rw [List.drop_zero, List.take_of_length_le (by simp), ← List.map_append]; exact mapO_d _)
    show (if hlen X < hlen X then _ else (match fz (hlen X) deep _ (.slc (hlen X) 1 0 (ds.length + ts.length)) with | some x => some (V.d x) | none => none)) = _
    rw [if_neg (by omega), show deep = 7 + 1 from rfl, h]
  · simp [htake, hpush, hlen]
  · simp [okIn, lowIn]
theorem own_row (H X : Hp) (hl : hlen X = hlen H) (ds : List Txt) :
    rowOf (hpush X (.row 0 1 ((ds.map D.str).map V.d))) (hlen H) 0 = some (1, (ds.map D.str).map V.d) ∧ htake (hpush X (.row 0 1 ((ds.map D.str).map V.d))) (hlen H) = X ∧ True := by
  rw [← hl]
  exact ⟨rowOf_self _ _ _ _, htake_push _ _, trivial⟩
theorem row_below (H X : Hp) (hl : hlen X = hlen H) (g : Nat) (ys : List V) (o : Ev.Obj) : rowOf (hpush (hpush X (.row g 1 ys)) o) (hlen H) g = some (1, ys) := by
  rw [← hl]
  simp only [rowOf, hget_hpush_lt _ (show hlen X < hlen (hpush X (.row g 1 ys)) by rw [hlen_hpush]; omega), hget_hpush_self]
  simp
/-- An order is drawn: at most eight texts, each short. -/
def Ways (H : Hp) (r : Nat) (bs : List Int) (p : Int) : Prop :=
  ∃ (ts : List Txt) (p' : Int), ev R 44 [.ptr r 0 0 0] H = some (.slc (hlen H) 0 0 ts.length, hpush (hset H r (rd bs p')) (rowT 0 ts)) ∧ p ≤ p' ∧ p' ≤ p + 20 ∧ 1 ≤ ts.length ∧ ts.length ≤ 8 ∧ ∀ x ∈ ts, x.length ≤ 40
theorem way0 (H : Hp) (r : Nat) (bs : List Int) (p : Int) (h : hget H r = some (rd bs p)) (hb : okBytes bs) (hp : 0 ≤ p) (hp2 : p ≤ 1000000000) (hc : pickV bs (p + 2) 12 = 0) : Ways H r bs p := by
  obtain ⟨p1, hp1⟩ : ∃ q, q = p + 1 := ⟨_, rfl⟩
  obtain ⟨p2, hp2'⟩ : ∃ q, q = p1 + 1 := ⟨_, rfl⟩
  obtain ⟨p3, hp3⟩ : ∃ q, q = p2 + 1 := ⟨_, rfl⟩
  obtain ⟨kk, lk, qk⟩ := of70 H r bs p p1 h hb (by omega) (by omega) hp1
  rw [hset_same' h] at qk
  obtain ⟨tt, lt, qt⟩ := of71 H r bs p1 p2 h hb (by omega) (by omega) hp2'
  have qp := of45 H r bs p2 p3 12 h hb (by omega) (by omega) hp3
  rw [show p2 = p + 2 by omega] at qp
  rw [hc] at qp
  rw [show p + 2 = p2 by omega] at qp
  obtain ⟨p4, hp4⟩ : ∃ q, q = p3 + 1 := ⟨_, rfl⟩
  obtain ⟨t1, l1, q1⟩ := of67 H r bs p3 p4 [[71, 69, 84], [83, 84, 82, 76, 69, 78], [73, 78, 67, 82], [76, 80, 79, 80], [82, 80, 79, 80], [76, 76, 69, 78], [83, 77, 69, 77, 66, 69, 82, 83], [83, 67, 65, 82, 68], [90, 67, 65, 82, 68], [72, 71, 69, 84, 65, 76, 76], [72, 76, 69, 78], [84, 89, 80, 69], [84, 84, 76], [80, 69, 82, 83, 73, 83, 84]] h hb (by omega) (by omega) hp4 (by simp) (by simp [*])
  simp only [txts, List.map_cons, List.map_nil] at q1
  refine ⟨[t1, kk], p4, ?_, by omega, by omega, by simp, by simp, by simp [*]⟩
  obtain ⟨o1, o2, o3⟩ := own_row H (hset H r (rd bs p4)) (hlen_hset _ _ _) [t1, kk]
  refine ev_fn (fn := f44) rfl rfl ?_
  have hl := hlen_hset H r (rd bs p4)
  simp only [rowT, List.map_cons, List.map_nil, List.length_cons, List.length_nil, Nat.zero_add, Nat.reduceAdd] at o1 o2 ⊢
  simp [-List.getD_eq_getElem?_getD, -List.map_map, evBody, evCode, evOps, evOper, evOp, opd, Env.get, Env.put, Env.keep, zipEnv, V.ok, V.sto, V.cells, D.cells, V.isAgg, binD, binInt, binStr, shInt, unD, eqOf, asI, leave, resOf, mapO, fzV, tupOf, view, view1, isData, hand, flatV, flatD, allD, mkAgg, mkVal, beq_lit, IntKind.bits, htake_self, htake_push, hget_hpush_self, hset_push, rowOf_self, okIn, lowIn, lowIn1, fzC_d, fzC_row, f44, qk, qt, qp, q1, hl, o1, o2, ownL, ownCs, own1, ownEs, ownEl, layer]
theorem way1 (H : Hp) (r : Nat) (bs : List Int) (p : Int) (h : hget H r = some (rd bs p)) (hb : okBytes bs) (hp : 0 ≤ p) (hp2 : p ≤ 1000000000) (hc : pickV bs (p + 2) 12 = 1) : Ways H r bs p := by
  obtain ⟨p1, hp1⟩ : ∃ q, q = p + 1 := ⟨_, rfl⟩
  obtain ⟨p2, hp2'⟩ : ∃ q, q = p1 + 1 := ⟨_, rfl⟩
  obtain ⟨p3, hp3⟩ : ∃ q, q = p2 + 1 := ⟨_, rfl⟩
  obtain ⟨kk, lk, qk⟩ := of70 H r bs p p1 h hb (by omega) (by omega) hp1
  rw [hset_same' h] at qk
  obtain ⟨tt, lt, qt⟩ := of71 H r bs p1 p2 h hb (by omega) (by omega) hp2'
  have qp := of45 H r bs p2 p3 12 h hb (by omega) (by omega) hp3
  rw [show p2 = p + 2 by omega] at qp
  rw [hc] at qp
  rw [show p + 2 = p2 by omega] at qp
  obtain ⟨p4, hp4⟩ : ∃ q, q = p3 + 1 := ⟨_, rfl⟩
  obtain ⟨t1, l1, q1⟩ := of67 H r bs p3 p4 [[107], [107, 50]] h hb (by omega) (by omega) hp4 (by simp) (by simp [*])
  simp only [txts, List.map_cons, List.map_nil] at q1
  refine ⟨[[83, 69, 84], t1, tt], p4, ?_, by omega, by omega, by simp, by simp, by simp [*]⟩
  obtain ⟨o1, o2, o3⟩ := own_row H (hset H r (rd bs p4)) (hlen_hset _ _ _) [[83, 69, 84], t1, tt]
  refine ev_fn (fn := f44) rfl rfl ?_
  have hl := hlen_hset H r (rd bs p4)
  simp only [rowT, List.map_cons, List.map_nil, List.length_cons, List.length_nil, Nat.zero_add, Nat.reduceAdd] at o1 o2 ⊢
  simp [-List.getD_eq_getElem?_getD, -List.map_map, evBody, evCode, evOps, evOper, evOp, opd, Env.get, Env.put, Env.keep, zipEnv, V.ok, V.sto, V.cells, D.cells, V.isAgg, binD, binInt, binStr, shInt, unD, eqOf, asI, leave, resOf, mapO, fzV, tupOf, view, view1, isData, hand, flatV, flatD, allD, mkAgg, mkVal, beq_lit, IntKind.bits, htake_self, htake_push, hget_hpush_self, hset_push, rowOf_self, okIn, lowIn, lowIn1, fzC_d, fzC_row, f44, qk, qt, qp, q1, hl, o1, o2, ownL, ownCs, own1, ownEs, ownEl, layer]
theorem way2 (H : Hp) (r : Nat) (bs : List Int) (p : Int) (h : hget H r = some (rd bs p)) (hb : okBytes bs) (hp : 0 ≤ p) (hp2 : p ≤ 1000000000) (hc : pickV bs (p + 2) 12 = 2) : Ways H r bs p := by
  obtain ⟨p1, hp1⟩ : ∃ q, q = p + 1 := ⟨_, rfl⟩
  obtain ⟨p2, hp2'⟩ : ∃ q, q = p1 + 1 := ⟨_, rfl⟩
  obtain ⟨p3, hp3⟩ : ∃ q, q = p2 + 1 := ⟨_, rfl⟩
  obtain ⟨kk, lk, qk⟩ := of70 H r bs p p1 h hb (by omega) (by omega) hp1
  rw [hset_same' h] at qk
  obtain ⟨tt, lt, qt⟩ := of71 H r bs p1 p2 h hb (by omega) (by omega) hp2'
  have qp := of45 H r bs p2 p3 12 h hb (by omega) (by omega) hp3
  rw [show p2 = p + 2 by omega] at qp
  rw [hc] at qp
  rw [show p + 2 = p2 by omega] at qp
  obtain ⟨p4, hp4⟩ : ∃ q, q = p3 + 1 := ⟨_, rfl⟩
  obtain ⟨t1, l1, q1⟩ := of67 H r bs p3 p4 [[65, 80, 80, 69, 78, 68], [73, 78, 67, 82, 66, 89]] h hb (by omega) (by omega) hp4 (by simp) (by simp [*])
  simp only [txts, List.map_cons, List.map_nil] at q1
  obtain ⟨p5, hp5⟩ : ∃ q, q = p4 + 1 := ⟨_, rfl⟩
  obtain ⟨t2, l2, q2⟩ := of67 H r bs p4 p5 [[107], [107, 50]] h hb (by omega) (by omega) hp5 (by simp) (by simp [*])
  simp only [txts, List.map_cons, List.map_nil] at q2
  obtain ⟨p6, hp6⟩ : ∃ q, q = p5 + 1 := ⟨_, rfl⟩
  obtain ⟨t3, l3, q3⟩ := of72 H r bs p5 p6 h hb (by omega) (by omega) hp6
  obtain ⟨p7, hp7⟩ : ∃ q, q = p6 + 1 := ⟨_, rfl⟩
  obtain ⟨t4, l4, q4⟩ := of67 H r bs p6 p7 [tt, t3] h hb (by omega) (by omega) hp7 (by simp) (by simp [*])
  simp only [txts, List.map_cons, List.map_nil] at q4
  refine ⟨[t1, t2, t4], p7, ?_, by omega, by omega, by simp, by simp, by simp [*]⟩
  obtain ⟨o1, o2, o3⟩ := own_row H (hset H r (rd bs p7)) (hlen_hset _ _ _) [t1, t2, t4]
  refine ev_fn (fn := f44) rfl rfl ?_
  have hl := hlen_hset H r (rd bs p7)
  simp only [rowT, List.map_cons, List.map_nil, List.length_cons, List.length_nil, Nat.zero_add, Nat.reduceAdd] at o1 o2 ⊢
  simp [-List.getD_eq_getElem?_getD, -List.map_map, evBody, evCode, evOps, evOper, evOp, opd, Env.get, Env.put, Env.keep, zipEnv, V.ok, V.sto, V.cells, D.cells, V.isAgg, binD, binInt, binStr, shInt, unD, eqOf, asI, leave, resOf, mapO, fzV, tupOf, view, view1, isData, hand, flatV, flatD, allD, mkAgg, mkVal, beq_lit, IntKind.bits, htake_self, htake_push, hget_hpush_self, hset_push, rowOf_self, okIn, lowIn, lowIn1, fzC_d, fzC_row, f44, qk, qt, qp, q1, q2, q3, q4, hl, o1, o2, ownL, ownCs, own1, ownEs, ownEl, layer]
theorem way3 (H : Hp) (r : Nat) (bs : List Int) (p : Int) (h : hget H r = some (rd bs p)) (hb : okBytes bs) (hp : 0 ≤ p) (hp2 : p ≤ 1000000000) (hc : pickV bs (p + 2) 12 = 3) : Ways H r bs p := by
  obtain ⟨p1, hp1⟩ : ∃ q, q = p + 1 := ⟨_, rfl⟩
  obtain ⟨p2, hp2'⟩ : ∃ q, q = p1 + 1 := ⟨_, rfl⟩
  obtain ⟨p3, hp3⟩ : ∃ q, q = p2 + 1 := ⟨_, rfl⟩
  obtain ⟨kk, lk, qk⟩ := of70 H r bs p p1 h hb (by omega) (by omega) hp1
  rw [hset_same' h] at qk
  obtain ⟨tt, lt, qt⟩ := of71 H r bs p1 p2 h hb (by omega) (by omega) hp2'
  have qp := of45 H r bs p2 p3 12 h hb (by omega) (by omega) hp3
  rw [show p2 = p + 2 by omega] at qp
  rw [hc] at qp
  rw [show p + 2 = p2 by omega] at qp
  obtain ⟨p4, hp4⟩ : ∃ q, q = p3 + 1 := ⟨_, rfl⟩
  obtain ⟨t1, l1, q1⟩ := of67 H r bs p3 p4 [[76, 80, 85, 83, 72], [82, 80, 85, 83, 72]] h hb (by omega) (by omega) hp4 (by simp) (by simp [*])
  simp only [txts, List.map_cons, List.map_nil] at q1
  obtain ⟨p5, hp5⟩ : ∃ q, q = p4 + 1 := ⟨_, rfl⟩
  obtain ⟨t2, l2, q2⟩ := of67 H r bs p4 p5 [[108], [108], [107]] h hb (by omega) (by omega) hp5 (by simp) (by simp [*])
  simp only [txts, List.map_cons, List.map_nil] at q2
  obtain ⟨N, p9, nl, pl, q9⟩ := of73 H r bs p5 3 3 rfl ([t1, t2, tt] : List Txt) h hb (by omega) (by omega) (by omega)
  obtain ⟨a1, a2, a3, a4, a5, a6⟩ := app_row H (hset H r (rd bs p9)) (hlen_hset _ _ _) [t1, t2, tt] (textsV bs N (p5 + 1)) N (textsV_len bs N (p5 + 1))
  have tl := textsV_len bs N (p5 + 1)
  refine ⟨[t1, t2, tt] ++ textsV bs N (p5 + 1), p9, ?_, by omega, by omega, by simp, by simp [tl]; omega, fun x hx => ?_⟩
  · refine ev_fn (fn := f44) rfl rfl ?_
    have sh := textsV_short bs N (p5 + 1)
    clear sh
    generalize textsV bs N (p5 + 1) = ts at a1 a2 a3 a4 a5 a6 q9 tl ⊢
    simp only [List.map_cons, List.map_nil, List.cons_append, List.nil_append, List.length_cons, List.length_nil, txts, Nat.zero_add, Nat.reduceAdd] at a1 a2 a3 a4 a5 a6 q9 ⊢
    have rm : (N + 3) * 16 ≤ room := by unfold room; omega
    have rm2 : (3 + N) * 16 ≤ room := by unfold room; omega
    have hl := hlen_hset H r (rd bs p5)
    have aD := allD_d (ts.map D.str)
    have r1 : ∀ ys : List V, rowOf (hpush (hpush (hset H r (rd bs p9)) (.row 1 1 ys)) (rowT 0 ts)) (hlen H) 1 = some (1, ys) := fun ys => row_below H (hset H r (rd bs p9)) (hlen_hset _ _ _) 1 ys (rowT 0 ts)
    have hl9 := hlen_hset H r (rd bs p9)
    show _ = some (V.slc (hlen H) 0 0 _, hpush (hset H r (rd bs p9)) (.row 0 1 _))
    simp only [List.length_cons, List.length_nil, List.length_append, tl, Nat.zero_add, Nat.reduceAdd, List.map_cons, List.map_nil, List.cons_append, List.nil_append]
    simp [-List.getD_eq_getElem?_getD, -List.map_map, evBody, evCode, evOps, evOper, evOp, opd, Env.get, Env.put, Env.keep, zipEnv, V.ok, V.sto, V.cells, D.cells, V.isAgg, binD, binInt, binStr, shInt, unD, eqOf, asI, leave, resOf, mapO, fzV, tupOf, view, view1, isData, hand, flatV, flatD, allD, mkAgg, mkVal, beq_lit, IntKind.bits, htake_self, htake_push, hget_hpush_self, hset_push, rowOf_self, okIn, lowIn, lowIn1, fzC_d, fzC_row, f44, qk, qt, qp, q1, q2, hl, hl9, q9, a1, a2, a3, a5, a6, rm, rm2, tl, aD, r1, ownL, ownCs, own1, ownEs, ownEl, layer]
    omega
  · rcases List.mem_append.1 hx with hx | hx
    · simp only [List.mem_cons, List.not_mem_nil, or_false] at hx
      rcases hx with rfl | rfl | rfl <;> assumption
    · exact textsV_short bs N (p5 + 1) x hx
theorem way4 (H : Hp) (r : Nat) (bs : List Int) (p : Int) (h : hget H r = some (rd bs p)) (hb : okBytes bs) (hp : 0 ≤ p) (hp2 : p ≤ 1000000000) (hc : pickV bs (p + 2) 12 = 4) : Ways H r bs p := by
  obtain ⟨p1, hp1⟩ : ∃ q, q = p + 1 := ⟨_, rfl⟩
  obtain ⟨p2, hp2'⟩ : ∃ q, q = p1 + 1 := ⟨_, rfl⟩
  obtain ⟨p3, hp3⟩ : ∃ q, q = p2 + 1 := ⟨_, rfl⟩
  obtain ⟨kk, lk, qk⟩ := of70 H r bs p p1 h hb (by omega) (by omega) hp1
  rw [hset_same' h] at qk
  obtain ⟨tt, lt, qt⟩ := of71 H r bs p1 p2 h hb (by omega) (by omega) hp2'
  have qp := of45 H r bs p2 p3 12 h hb (by omega) (by omega) hp3
  rw [show p2 = p + 2 by omega] at qp
  rw [hc] at qp
  rw [show p + 2 = p2 by omega] at qp
  obtain ⟨p4, hp4⟩ : ∃ q, q = p3 + 1 := ⟨_, rfl⟩
  obtain ⟨t1, l1, q1⟩ := of67 H r bs p3 p4 [[76, 82, 65, 78, 71, 69], [76, 84, 82, 73, 77], [76, 83, 69, 84], [76, 82, 69, 77], [71, 69, 84, 82, 65, 78, 71, 69]] h hb (by omega) (by omega) hp4 (by simp) (by simp [*])
  simp only [txts, List.map_cons, List.map_nil] at q1
  obtain ⟨p5, hp5⟩ : ∃ q, q = p4 + 1 := ⟨_, rfl⟩
  obtain ⟨t2, l2, q2⟩ := of67 H r bs p4 p5 [[108], [108], [107]] h hb (by omega) (by omega) hp5 (by simp) (by simp [*])
  simp only [txts, List.map_cons, List.map_nil] at q2
  obtain ⟨p6, hp6⟩ : ∃ q, q = p5 + 1 := ⟨_, rfl⟩
  obtain ⟨t3, l3, q3⟩ := of72 H r bs p5 p6 h hb (by omega) (by omega) hp6
  obtain ⟨p7, hp7⟩ : ∃ q, q = p6 + 1 := ⟨_, rfl⟩
  obtain ⟨t4, l4, q4⟩ := of72 H r bs p6 p7 h hb (by omega) (by omega) hp7
  obtain ⟨p8, hp8⟩ : ∃ q, q = p7 + 1 := ⟨_, rfl⟩
  obtain ⟨t5, l5, q5⟩ := of67 H r bs p7 p8 [t4, tt] h hb (by omega) (by omega) hp8 (by simp) (by simp [*])
  simp only [txts, List.map_cons, List.map_nil] at q5
  refine ⟨[t1, t2, t3, t5], p8, ?_, by omega, by omega, by simp, by simp, by simp [*]⟩
  obtain ⟨o1, o2, o3⟩ := own_row H (hset H r (rd bs p8)) (hlen_hset _ _ _) [t1, t2, t3, t5]
  refine ev_fn (fn := f44) rfl rfl ?_
  have hl := hlen_hset H r (rd bs p8)
  simp only [rowT, List.map_cons, List.map_nil, List.length_cons, List.length_nil, Nat.zero_add, Nat.reduceAdd] at o1 o2 ⊢
  simp [-List.getD_eq_getElem?_getD, -List.map_map, evBody, evCode, evOps, evOper, evOp, opd, Env.get, Env.put, Env.keep, zipEnv, V.ok, V.sto, V.cells, D.cells, V.isAgg, binD, binInt, binStr, shInt, unD, eqOf, asI, leave, resOf, mapO, fzV, tupOf, view, view1, isData, hand, flatV, flatD, allD, mkAgg, mkVal, beq_lit, IntKind.bits, htake_self, htake_push, hget_hpush_self, hset_push, rowOf_self, okIn, lowIn, lowIn1, fzC_d, fzC_row, f44, qk, qt, qp, q1, q2, q3, q4, q5, hl, o1, o2, ownL, ownCs, own1, ownEs, ownEl, layer]
theorem way5 (H : Hp) (r : Nat) (bs : List Int) (p : Int) (h : hget H r = some (rd bs p)) (hb : okBytes bs) (hp : 0 ≤ p) (hp2 : p ≤ 1000000000) (hc : pickV bs (p + 2) 12 = 5) : Ways H r bs p := by
  obtain ⟨p1, hp1⟩ : ∃ q, q = p + 1 := ⟨_, rfl⟩
  obtain ⟨p2, hp2'⟩ : ∃ q, q = p1 + 1 := ⟨_, rfl⟩
  obtain ⟨p3, hp3⟩ : ∃ q, q = p2 + 1 := ⟨_, rfl⟩
  obtain ⟨kk, lk, qk⟩ := of70 H r bs p p1 h hb (by omega) (by omega) hp1
  rw [hset_same' h] at qk
  obtain ⟨tt, lt, qt⟩ := of71 H r bs p1 p2 h hb (by omega) (by omega) hp2'
  have qp := of45 H r bs p2 p3 12 h hb (by omega) (by omega) hp3
  rw [show p2 = p + 2 by omega] at qp
  rw [hc] at qp
  rw [show p + 2 = p2 by omega] at qp
  obtain ⟨p4, hp4⟩ : ∃ q, q = p3 + 1 := ⟨_, rfl⟩
  obtain ⟨t1, l1, q1⟩ := of67 H r bs p3 p4 [[83, 65, 68, 68], [83, 65, 68, 68], [83, 82, 69, 77]] h hb (by omega) (by omega) hp4 (by simp) (by simp [*])
  simp only [txts, List.map_cons, List.map_nil] at q1
  obtain ⟨p5, hp5⟩ : ∃ q, q = p4 + 1 := ⟨_, rfl⟩
  obtain ⟨t2, l2, q2⟩ := of67 H r bs p4 p5 [[115], [115, 50]] h hb (by omega) (by omega) hp5 (by simp) (by simp [*])
  simp only [txts, List.map_cons, List.map_nil] at q2
  obtain ⟨N, p9, nl, pl, q9⟩ := of73 H r bs p5 2 2 rfl ([t1, t2, tt] : List Txt) h hb (by omega) (by omega) (by omega)
  obtain ⟨a1, a2, a3, a4, a5, a6⟩ := app_row H (hset H r (rd bs p9)) (hlen_hset _ _ _) [t1, t2, tt] (textsV bs N (p5 + 1)) N (textsV_len bs N (p5 + 1))
  have tl := textsV_len bs N (p5 + 1)
  refine ⟨[t1, t2, tt] ++ textsV bs N (p5 + 1), p9, ?_, by omega, by omega, by simp, by simp [tl]; omega, fun x hx => ?_⟩
  · refine ev_fn (fn := f44) rfl rfl ?_
    have sh := textsV_short bs N (p5 + 1)
    clear sh
    generalize textsV bs N (p5 + 1) = ts at a1 a2 a3 a4 a5 a6 q9 tl ⊢
    simp only [List.map_cons, List.map_nil, List.cons_append, List.nil_append, List.length_cons, List.length_nil, txts, Nat.zero_add, Nat.reduceAdd] at a1 a2 a3 a4 a5 a6 q9 ⊢
    have rm : (N + 3) * 16 ≤ room := by unfold room; omega
    have rm2 : (3 + N) * 16 ≤ room := by unfold room; omega
    have hl := hlen_hset H r (rd bs p5)
    have aD := allD_d (ts.map D.str)
    have r1 : ∀ ys : List V, rowOf (hpush (hpush (hset H r (rd bs p9)) (.row 1 1 ys)) (rowT 0 ts)) (hlen H) 1 = some (1, ys) := fun ys => row_below H (hset H r (rd bs p9)) (hlen_hset _ _ _) 1 ys (rowT 0 ts)
    have hl9 := hlen_hset H r (rd bs p9)
    show _ = some (V.slc (hlen H) 0 0 _, hpush (hset H r (rd bs p9)) (.row 0 1 _))
    simp only [List.length_cons, List.length_nil, List.length_append, tl, Nat.zero_add, Nat.reduceAdd, List.map_cons, List.map_nil, List.cons_append, List.nil_append]
    simp [-List.getD_eq_getElem?_getD, -List.map_map, evBody, evCode, evOps, evOper, evOp, opd, Env.get, Env.put, Env.keep, zipEnv, V.ok, V.sto, V.cells, D.cells, V.isAgg, binD, binInt, binStr, shInt, unD, eqOf, asI, leave, resOf, mapO, fzV, tupOf, view, view1, isData, hand, flatV, flatD, allD, mkAgg, mkVal, beq_lit, IntKind.bits, htake_self, htake_push, hget_hpush_self, hset_push, rowOf_self, okIn, lowIn, lowIn1, fzC_d, fzC_row, f44, qk, qt, qp, q1, q2, hl, hl9, q9, a1, a2, a3, a5, a6, rm, rm2, tl, aD, r1, ownL, ownCs, own1, ownEs, ownEl, layer]
    omega
  · rcases List.mem_append.1 hx with hx | hx
    · simp only [List.mem_cons, List.not_mem_nil, or_false] at hx
      rcases hx with rfl | rfl | rfl <;> assumption
    · exact textsV_short bs N (p5 + 1) x hx
theorem way6 (H : Hp) (r : Nat) (bs : List Int) (p : Int) (h : hget H r = some (rd bs p)) (hb : okBytes bs) (hp : 0 ≤ p) (hp2 : p ≤ 1000000000) (hc : pickV bs (p + 2) 12 = 6) : Ways H r bs p := by
  obtain ⟨p1, hp1⟩ : ∃ q, q = p + 1 := ⟨_, rfl⟩
  obtain ⟨p2, hp2'⟩ : ∃ q, q = p1 + 1 := ⟨_, rfl⟩
  obtain ⟨p3, hp3⟩ : ∃ q, q = p2 + 1 := ⟨_, rfl⟩
  obtain ⟨kk, lk, qk⟩ := of70 H r bs p p1 h hb (by omega) (by omega) hp1
  rw [hset_same' h] at qk
  obtain ⟨tt, lt, qt⟩ := of71 H r bs p1 p2 h hb (by omega) (by omega) hp2'
  have qp := of45 H r bs p2 p3 12 h hb (by omega) (by omega) hp3
  rw [show p2 = p + 2 by omega] at qp
  rw [hc] at qp
  rw [show p + 2 = p2 by omega] at qp
  obtain ⟨p4, hp4⟩ : ∃ q, q = p3 + 1 := ⟨_, rfl⟩
  obtain ⟨t1, l1, q1⟩ := of67 H r bs p3 p4 [[83, 73, 83, 77, 69, 77, 66, 69, 82], [83, 73, 78, 84, 69, 82], [83, 85, 78, 73, 79, 78], [83, 68, 73, 70, 70]] h hb (by omega) (by omega) hp4 (by simp) (by simp [*])
  simp only [txts, List.map_cons, List.map_nil] at q1
  obtain ⟨p5, hp5⟩ : ∃ q, q = p4 + 1 := ⟨_, rfl⟩
  obtain ⟨t2, l2, q2⟩ := of67 H r bs p4 p5 [[115], [115, 50]] h hb (by omega) (by omega) hp5 (by simp) (by simp [*])
  simp only [txts, List.map_cons, List.map_nil] at q2
  obtain ⟨p6, hp6⟩ : ∃ q, q = p5 + 1 := ⟨_, rfl⟩
  obtain ⟨t3, l3, q3⟩ := of67 H r bs p5 p6 [[115], [115, 50], tt] h hb (by omega) (by omega) hp6 (by simp) (by simp [*])
  simp only [txts, List.map_cons, List.map_nil] at q3
  refine ⟨[t1, t2, t3], p6, ?_, by omega, by omega, by simp, by simp, by simp [*]⟩
  obtain ⟨o1, o2, o3⟩ := own_row H (hset H r (rd bs p6)) (hlen_hset _ _ _) [t1, t2, t3]
  refine ev_fn (fn := f44) rfl rfl ?_
  have hl := hlen_hset H r (rd bs p6)
  simp only [rowT, List.map_cons, List.map_nil, List.length_cons, List.length_nil, Nat.zero_add, Nat.reduceAdd] at o1 o2 ⊢
  simp [-List.getD_eq_getElem?_getD, -List.map_map, evBody, evCode, evOps, evOper, evOp, opd, Env.get, Env.put, Env.keep, zipEnv, V.ok, V.sto, V.cells, D.cells, V.isAgg, binD, binInt, binStr, shInt, unD, eqOf, asI, leave, resOf, mapO, fzV, tupOf, view, view1, isData, hand, flatV, flatD, allD, mkAgg, mkVal, beq_lit, IntKind.bits, htake_self, htake_push, hget_hpush_self, hset_push, rowOf_self, okIn, lowIn, lowIn1, fzC_d, fzC_row, f44, qk, qt, qp, q1, q2, q3, hl, o1, o2, ownL, ownCs, own1, ownEs, ownEl, layer]
theorem way7 (H : Hp) (r : Nat) (bs : List Int) (p : Int) (h : hget H r = some (rd bs p)) (hb : okBytes bs) (hp : 0 ≤ p) (hp2 : p ≤ 1000000000) (hc : pickV bs (p + 2) 12 = 7) : Ways H r bs p := by
  obtain ⟨p1, hp1⟩ : ∃ q, q = p + 1 := ⟨_, rfl⟩
  obtain ⟨p2, hp2'⟩ : ∃ q, q = p1 + 1 := ⟨_, rfl⟩
  obtain ⟨p3, hp3⟩ : ∃ q, q = p2 + 1 := ⟨_, rfl⟩
  obtain ⟨kk, lk, qk⟩ := of70 H r bs p p1 h hb (by omega) (by omega) hp1
  rw [hset_same' h] at qk
  obtain ⟨tt, lt, qt⟩ := of71 H r bs p1 p2 h hb (by omega) (by omega) hp2'
  have qp := of45 H r bs p2 p3 12 h hb (by omega) (by omega) hp3
  rw [show p2 = p + 2 by omega] at qp
  rw [hc] at qp
  rw [show p + 2 = p2 by omega] at qp
  obtain ⟨p4, hp4⟩ : ∃ q, q = p3 + 1 := ⟨_, rfl⟩
  obtain ⟨t1, l1, q1⟩ := of67 H r bs p3 p4 [[90, 65, 68, 68], [90, 65, 68, 68], [90, 73, 78, 67, 82, 66, 89], [90, 82, 65, 78, 71, 69], [90, 82, 65, 78, 71, 69, 66, 89, 83, 67, 79, 82, 69]] h hb (by omega) (by omega) hp4 (by simp) (by simp [*])
  simp only [txts, List.map_cons, List.map_nil] at q1
  obtain ⟨p5, hp5⟩ : ∃ q, q = p4 + 1 := ⟨_, rfl⟩
  obtain ⟨t2, l2, q2⟩ := of72 H r bs p4 p5 h hb (by omega) (by omega) hp5
  obtain ⟨p6, hp6⟩ : ∃ q, q = p5 + 1 := ⟨_, rfl⟩
  obtain ⟨t3, l3, q3⟩ := of72 H r bs p5 p6 h hb (by omega) (by omega) hp6
  obtain ⟨p7, hp7⟩ : ∃ q, q = p6 + 1 := ⟨_, rfl⟩
  obtain ⟨t4, l4, q4⟩ := of67 H r bs p6 p7 [tt, t3] h hb (by omega) (by omega) hp7 (by simp) (by simp [*])
  simp only [txts, List.map_cons, List.map_nil] at q4
  refine ⟨[t1, [122], t2, t4], p7, ?_, by omega, by omega, by simp, by simp, by simp [*]⟩
  obtain ⟨o1, o2, o3⟩ := own_row H (hset H r (rd bs p7)) (hlen_hset _ _ _) [t1, [122], t2, t4]
  refine ev_fn (fn := f44) rfl rfl ?_
  have hl := hlen_hset H r (rd bs p7)
  simp only [rowT, List.map_cons, List.map_nil, List.length_cons, List.length_nil, Nat.zero_add, Nat.reduceAdd] at o1 o2 ⊢
  simp [-List.getD_eq_getElem?_getD, -List.map_map, evBody, evCode, evOps, evOper, evOp, opd, Env.get, Env.put, Env.keep, zipEnv, V.ok, V.sto, V.cells, D.cells, V.isAgg, binD, binInt, binStr, shInt, unD, eqOf, asI, leave, resOf, mapO, fzV, tupOf, view, view1, isData, hand, flatV, flatD, allD, mkAgg, mkVal, beq_lit, IntKind.bits, htake_self, htake_push, hget_hpush_self, hset_push, rowOf_self, okIn, lowIn, lowIn1, fzC_d, fzC_row, f44, qk, qt, qp, q1, q2, q3, q4, hl, o1, o2, ownL, ownCs, own1, ownEs, ownEl, layer]
theorem way8 (H : Hp) (r : Nat) (bs : List Int) (p : Int) (h : hget H r = some (rd bs p)) (hb : okBytes bs) (hp : 0 ≤ p) (hp2 : p ≤ 1000000000) (hc : pickV bs (p + 2) 12 = 8) : Ways H r bs p := by
  obtain ⟨p1, hp1⟩ : ∃ q, q = p + 1 := ⟨_, rfl⟩
  obtain ⟨p2, hp2'⟩ : ∃ q, q = p1 + 1 := ⟨_, rfl⟩
  obtain ⟨p3, hp3⟩ : ∃ q, q = p2 + 1 := ⟨_, rfl⟩
  obtain ⟨kk, lk, qk⟩ := of70 H r bs p p1 h hb (by omega) (by omega) hp1
  rw [hset_same' h] at qk
  obtain ⟨tt, lt, qt⟩ := of71 H r bs p1 p2 h hb (by omega) (by omega) hp2'
  have qp := of45 H r bs p2 p3 12 h hb (by omega) (by omega) hp3
  rw [show p2 = p + 2 by omega] at qp
  rw [hc] at qp
  rw [show p + 2 = p2 by omega] at qp
  obtain ⟨p4, hp4⟩ : ∃ q, q = p3 + 1 := ⟨_, rfl⟩
  obtain ⟨t1, l1, q1⟩ := of67 H r bs p3 p4 [[90, 82, 69, 77], [90, 83, 67, 79, 82, 69], [90, 82, 65, 78, 75], [72, 71, 69, 84], [72, 68, 69, 76]] h hb (by omega) (by omega) hp4 (by simp) (by simp [*])
  simp only [txts, List.map_cons, List.map_nil] at q1
  obtain ⟨p5, hp5⟩ : ∃ q, q = p4 + 1 := ⟨_, rfl⟩
  obtain ⟨t2, l2, q2⟩ := of67 H r bs p4 p5 [[122], [104]] h hb (by omega) (by omega) hp5 (by simp) (by simp [*])
  simp only [txts, List.map_cons, List.map_nil] at q2
  refine ⟨[t1, t2, tt], p5, ?_, by omega, by omega, by simp, by simp, by simp [*]⟩
  obtain ⟨o1, o2, o3⟩ := own_row H (hset H r (rd bs p5)) (hlen_hset _ _ _) [t1, t2, tt]
  refine ev_fn (fn := f44) rfl rfl ?_
  have hl := hlen_hset H r (rd bs p5)
  simp only [rowT, List.map_cons, List.map_nil, List.length_cons, List.length_nil, Nat.zero_add, Nat.reduceAdd] at o1 o2 ⊢
  simp [-List.getD_eq_getElem?_getD, -List.map_map, evBody, evCode, evOps, evOper, evOp, opd, Env.get, Env.put, Env.keep, zipEnv, V.ok, V.sto, V.cells, D.cells, V.isAgg, binD, binInt, binStr, shInt, unD, eqOf, asI, leave, resOf, mapO, fzV, tupOf, view, view1, isData, hand, flatV, flatD, allD, mkAgg, mkVal, beq_lit, IntKind.bits, htake_self, htake_push, hget_hpush_self, hset_push, rowOf_self, okIn, lowIn, lowIn1, fzC_d, fzC_row, f44, qk, qt, qp, q1, q2, hl, o1, o2, ownL, ownCs, own1, ownEs, ownEl, layer]
theorem way9 (H : Hp) (r : Nat) (bs : List Int) (p : Int) (h : hget H r = some (rd bs p)) (hb : okBytes bs) (hp : 0 ≤ p) (hp2 : p ≤ 1000000000) (hc : pickV bs (p + 2) 12 = 9) : Ways H r bs p := by
  obtain ⟨p1, hp1⟩ : ∃ q, q = p + 1 := ⟨_, rfl⟩
  obtain ⟨p2, hp2'⟩ : ∃ q, q = p1 + 1 := ⟨_, rfl⟩
  obtain ⟨p3, hp3⟩ : ∃ q, q = p2 + 1 := ⟨_, rfl⟩
  obtain ⟨kk, lk, qk⟩ := of70 H r bs p p1 h hb (by omega) (by omega) hp1
  rw [hset_same' h] at qk
  obtain ⟨tt, lt, qt⟩ := of71 H r bs p1 p2 h hb (by omega) (by omega) hp2'
  have qp := of45 H r bs p2 p3 12 h hb (by omega) (by omega) hp3
  rw [show p2 = p + 2 by omega] at qp
  rw [hc] at qp
  rw [show p + 2 = p2 by omega] at qp
  obtain ⟨p4, hp4⟩ : ∃ q, q = p3 + 1 := ⟨_, rfl⟩
  obtain ⟨t1, l1, q1⟩ := of67 H r bs p3 p4 [[72, 83, 69, 84], [72, 83, 69, 84], [72, 73, 78, 67, 82, 66, 89]] h hb (by omega) (by omega) hp4 (by simp) (by simp [*])
  simp only [txts, List.map_cons, List.map_nil] at q1
  obtain ⟨p5, hp5⟩ : ∃ q, q = p4 + 1 := ⟨_, rfl⟩
  obtain ⟨t2, l2, q2⟩ := of67 H r bs p4 p5 [[97], [98], tt] h hb (by omega) (by omega) hp5 (by simp) (by simp [*])
  simp only [txts, List.map_cons, List.map_nil] at q2
  obtain ⟨p6, hp6⟩ : ∃ q, q = p5 + 1 := ⟨_, rfl⟩
  obtain ⟨t3, l3, q3⟩ := of72 H r bs p5 p6 h hb (by omega) (by omega) hp6
  obtain ⟨p7, hp7⟩ : ∃ q, q = p6 + 1 := ⟨_, rfl⟩
  obtain ⟨t4, l4, q4⟩ := of67 H r bs p6 p7 [tt, t3] h hb (by omega) (by omega) hp7 (by simp) (by simp [*])
  simp only [txts, List.map_cons, List.map_nil] at q4
  refine ⟨[t1, [104], t2, t4], p7, ?_, by omega, by omega, by simp, by simp, by simp [*]⟩
  obtain ⟨o1, o2, o3⟩ := own_row H (hset H r (rd bs p7)) (hlen_hset _ _ _) [t1, [104], t2, t4]
  refine ev_fn (fn := f44) rfl rfl ?_
  have hl := hlen_hset H r (rd bs p7)
  simp only [rowT, List.map_cons, List.map_nil, List.length_cons, List.length_nil, Nat.zero_add, Nat.reduceAdd] at o1 o2 ⊢
  simp [-List.getD_eq_getElem?_getD, -List.map_map, evBody, evCode, evOps, evOper, evOp, opd, Env.get, Env.put, Env.keep, zipEnv, V.ok, V.sto, V.cells, D.cells, V.isAgg, binD, binInt, binStr, shInt, unD, eqOf, asI, leave, resOf, mapO, fzV, tupOf, view, view1, isData, hand, flatV, flatD, allD, mkAgg, mkVal, beq_lit, IntKind.bits, htake_self, htake_push, hget_hpush_self, hset_push, rowOf_self, okIn, lowIn, lowIn1, fzC_d, fzC_row, f44, qk, qt, qp, q1, q2, q3, q4, hl, o1, o2, ownL, ownCs, own1, ownEs, ownEl, layer]
theorem way10 (H : Hp) (r : Nat) (bs : List Int) (p : Int) (h : hget H r = some (rd bs p)) (hb : okBytes bs) (hp : 0 ≤ p) (hp2 : p ≤ 1000000000) (hc : pickV bs (p + 2) 12 = 10) : Ways H r bs p := by
  obtain ⟨p1, hp1⟩ : ∃ q, q = p + 1 := ⟨_, rfl⟩
  obtain ⟨p2, hp2'⟩ : ∃ q, q = p1 + 1 := ⟨_, rfl⟩
  obtain ⟨p3, hp3⟩ : ∃ q, q = p2 + 1 := ⟨_, rfl⟩
  obtain ⟨kk, lk, qk⟩ := of70 H r bs p p1 h hb (by omega) (by omega) hp1
  rw [hset_same' h] at qk
  obtain ⟨tt, lt, qt⟩ := of71 H r bs p1 p2 h hb (by omega) (by omega) hp2'
  have qp := of45 H r bs p2 p3 12 h hb (by omega) (by omega) hp3
  rw [show p2 = p + 2 by omega] at qp
  rw [hc] at qp
  rw [show p + 2 = p2 by omega] at qp
  obtain ⟨p4, hp4⟩ : ∃ q, q = p3 + 1 := ⟨_, rfl⟩
  obtain ⟨t1, l1, q1⟩ := of67 H r bs p3 p4 [[69, 88, 80, 73, 82, 69], [69, 88, 80, 73, 82, 69, 65, 84], [82, 69, 78, 65, 77, 69]] h hb (by omega) (by omega) hp4 (by simp) (by simp [*])
  simp only [txts, List.map_cons, List.map_nil] at q1
  obtain ⟨p5, hp5⟩ : ∃ q, q = p4 + 1 := ⟨_, rfl⟩
  obtain ⟨t2, l2, q2⟩ := of67 H r bs p4 p5 [[53], [49], [49, 48, 48], [107], [108], [107, 50], [45, 49], [49, 48, 48, 48, 48, 48, 49]] h hb (by omega) (by omega) hp5 (by simp) (by simp [*])
  simp only [txts, List.map_cons, List.map_nil] at q2
  refine ⟨[t1, kk, t2], p5, ?_, by omega, by omega, by simp, by simp, by simp [*]⟩
  obtain ⟨o1, o2, o3⟩ := own_row H (hset H r (rd bs p5)) (hlen_hset _ _ _) [t1, kk, t2]
  refine ev_fn (fn := f44) rfl rfl ?_
  have hl := hlen_hset H r (rd bs p5)
  simp only [rowT, List.map_cons, List.map_nil, List.length_cons, List.length_nil, Nat.zero_add, Nat.reduceAdd] at o1 o2 ⊢
  simp [-List.getD_eq_getElem?_getD, -List.map_map, evBody, evCode, evOps, evOper, evOp, opd, Env.get, Env.put, Env.keep, zipEnv, V.ok, V.sto, V.cells, D.cells, V.isAgg, binD, binInt, binStr, shInt, unD, eqOf, asI, leave, resOf, mapO, fzV, tupOf, view, view1, isData, hand, flatV, flatD, allD, mkAgg, mkVal, beq_lit, IntKind.bits, htake_self, htake_push, hget_hpush_self, hset_push, rowOf_self, okIn, lowIn, lowIn1, fzC_d, fzC_row, f44, qk, qt, qp, q1, q2, hl, o1, o2, ownL, ownCs, own1, ownEs, ownEl, layer]
theorem way11 (H : Hp) (r : Nat) (bs : List Int) (p : Int) (h : hget H r = some (rd bs p)) (hb : okBytes bs) (hp : 0 ≤ p) (hp2 : p ≤ 1000000000) (hc : 11 ≤ pickV bs (p + 2) 12) : Ways H r bs p := by
  obtain ⟨p1, hp1⟩ : ∃ q, q = p + 1 := ⟨_, rfl⟩
  obtain ⟨p2, hp2'⟩ : ∃ q, q = p1 + 1 := ⟨_, rfl⟩
  obtain ⟨p3, hp3⟩ : ∃ q, q = p2 + 1 := ⟨_, rfl⟩
  obtain ⟨kk, lk, qk⟩ := of70 H r bs p p1 h hb (by omega) (by omega) hp1
  rw [hset_same' h] at qk
  obtain ⟨tt, lt, qt⟩ := of71 H r bs p1 p2 h hb (by omega) (by omega) hp2'
  have qp := of45 H r bs p2 p3 12 h hb (by omega) (by omega) hp3
  rw [show p2 = p + 2 by omega] at qp
  obtain ⟨_, pm⟩ := pickV_in bs (p + 2) 12 hb (by omega) (by omega)
  have pm := pm (by omega)
  rw [show pickV bs (p + 2) 12 = 11 by omega] at qp
  rw [show p + 2 = p2 by omega] at qp
  obtain ⟨p4, hp4⟩ : ∃ q, q = p3 + 1 := ⟨_, rfl⟩
  obtain ⟨t1, l1, q1⟩ := of67 H r bs p3 p4 [[68, 69, 76], [69, 88, 73, 83, 84, 83], [75, 69, 89, 83], [68, 66, 83, 73, 90, 69], [70, 76, 85, 83, 72], [78, 79, 78, 69], [68, 69, 76]] h hb (by omega) (by omega) hp4 (by simp) (by simp [*])
  simp only [txts, List.map_cons, List.map_nil] at q1
  obtain ⟨p5, hp5⟩ : ∃ q, q = p4 + 1 := ⟨_, rfl⟩
  obtain ⟨t2, l2, q2⟩ := of67 H r bs p4 p5 [kk, [42], [63], [107, 42], []] h hb (by omega) (by omega) hp5 (by simp) (by simp [*])
  simp only [txts, List.map_cons, List.map_nil] at q2
  obtain ⟨N, p9, nl, pl, q9⟩ := of73 H r bs p5 1 1 rfl ([t1, t2] : List Txt) h hb (by omega) (by omega) (by omega)
  obtain ⟨a1, a2, a3, a4, a5, a6⟩ := app_row H (hset H r (rd bs p9)) (hlen_hset _ _ _) [t1, t2] (textsV bs N (p5 + 1)) N (textsV_len bs N (p5 + 1))
  have tl := textsV_len bs N (p5 + 1)
  refine ⟨[t1, t2] ++ textsV bs N (p5 + 1), p9, ?_, by omega, by omega, by simp, by simp [tl]; omega, fun x hx => ?_⟩
  · refine ev_fn (fn := f44) rfl rfl ?_
    have sh := textsV_short bs N (p5 + 1)
    clear sh
    generalize textsV bs N (p5 + 1) = ts at a1 a2 a3 a4 a5 a6 q9 tl ⊢
    simp only [List.map_cons, List.map_nil, List.cons_append, List.nil_append, List.length_cons, List.length_nil, txts, Nat.zero_add, Nat.reduceAdd] at a1 a2 a3 a4 a5 a6 q9 ⊢
    have rm : (N + 2) * 16 ≤ room := by unfold room; omega
    have rm2 : (2 + N) * 16 ≤ room := by unfold room; omega
    have hl := hlen_hset H r (rd bs p5)
    have aD := allD_d (ts.map D.str)
    have r1 : ∀ ys : List V, rowOf (hpush (hpush (hset H r (rd bs p9)) (.row 1 1 ys)) (rowT 0 ts)) (hlen H) 1 = some (1, ys) := fun ys => row_below H (hset H r (rd bs p9)) (hlen_hset _ _ _) 1 ys (rowT 0 ts)
    have hl9 := hlen_hset H r (rd bs p9)
    show _ = some (V.slc (hlen H) 0 0 _, hpush (hset H r (rd bs p9)) (.row 0 1 _))
    simp only [List.length_cons, List.length_nil, List.length_append, tl, Nat.zero_add, Nat.reduceAdd, List.map_cons, List.map_nil, List.cons_append, List.nil_append]
    simp [-List.getD_eq_getElem?_getD, -List.map_map, evBody, evCode, evOps, evOper, evOp, opd, Env.get, Env.put, Env.keep, zipEnv, V.ok, V.sto, V.cells, D.cells, V.isAgg, binD, binInt, binStr, shInt, unD, eqOf, asI, leave, resOf, mapO, fzV, tupOf, view, view1, isData, hand, flatV, flatD, allD, mkAgg, mkVal, beq_lit, IntKind.bits, htake_self, htake_push, hget_hpush_self, hset_push, rowOf_self, okIn, lowIn, lowIn1, fzC_d, fzC_row, f44, qk, qt, qp, q1, q2, hl, hl9, q9, a1, a2, a3, a5, a6, rm, rm2, tl, aD, r1, ownL, ownCs, own1, ownEs, ownEl, layer]
    omega
  · rcases List.mem_append.1 hx with hx | hx
    · simp only [List.mem_cons, List.not_mem_nil, or_false] at hx
      rcases hx with rfl | rfl <;> assumption
    · exact textsV_short bs N (p5 + 1) x hx
theorem e44 (H : Hp) (r : Nat) (bs : List Int) (p : Int) (h : hget H r = some (rd bs p)) (hb : okBytes bs) (hp : 0 ≤ p) (hp2 : p ≤ 1000000000) : Ways H r bs p := by
  obtain ⟨k0, k1⟩ := pickV_in bs (p + 2) 12 hb (by omega) (by omega)
  have k1 := k1 (by omega)
  have c : pickV bs (p + 2) 12 = 0 ∨ pickV bs (p + 2) 12 = 1 ∨ pickV bs (p + 2) 12 = 2 ∨ pickV bs (p + 2) 12 = 3 ∨ pickV bs (p + 2) 12 = 4 ∨ pickV bs (p + 2) 12 = 5 ∨ pickV bs (p + 2) 12 = 6 ∨ pickV bs (p + 2) 12 = 7 ∨ pickV bs (p + 2) 12 = 8 ∨ pickV bs (p + 2) 12 = 9 ∨ pickV bs (p + 2) 12 = 10 ∨ 11 ≤ pickV bs (p + 2) 12 := by omega
  rcases c with c | c | c | c | c | c | c | c | c | c | c | c
  · exact way0 H r bs p h hb hp hp2 c
  · exact way1 H r bs p h hb hp hp2 c
  · exact way2 H r bs p h hb hp hp2 c
  · exact way3 H r bs p h hb hp hp2 c
  · exact way4 H r bs p h hb hp hp2 c
  · exact way5 H r bs p h hb hp hp2 c
  · exact way6 H r bs p h hb hp hp2 c
  · exact way7 H r bs p h hb hp hp2 c
  · exact way8 H r bs p h hb hp hp2 c
  · exact way9 H r bs p h hb hp hp2 c
  · exact way10 H r bs p h hb hp hp2 c
  · exact way11 H r bs p h hb hp hp2 c
end Go.Proofs.YtpmphmpaeooeeaaDoor.Code

/- Lemmas (several texts in one). -/
import Derived.Test.YtjdmiodinhlchaaGreatMBaseKeys6
/- Orders, drawn. -/
namespace Go.Proofs.YtjdmiodinhlchaaGreat.Code
open Go Go.Ev Go.Proofs
set_option maxRecDepth 100000
set_option linter.unusedSimpArgs false
set_option linter.unusedVariables false
theorem hset_same' {H : Hp} {r : Nat} {o : Ev.Obj} (h : hget H r = some o) : hset H r o = H := by
  induction H generalizing r with
  | nil => rfl
  | cons a H ih =>
    cases r with
    | zero => simp only [hget, Option.some.injEq] at h; subst h; rfl
    | succ r => exact congrArg (List.cons a) (ih h)
theorem textsV_short (bs : List Int) : ∀ (n : Nat) (p : Int), ∀ x ∈ textsV bs n p, x.length ≤ 40
  | 0, p => by simp [textsV]
  | n + 1, p => by
    intro x hx
    simp only [textsV, List.mem_cons] at hx
    rcases hx with rfl | hx
    · exact textV_len bs p
    · exact textsV_short bs n (p + 1) x hx
theorem of67 (H : Hp) (r : Nat) (bs : List Int) (q q' : Int) (xs : List Txt) {o : Ev.Obj} (h : hget H r = some o) (hb : okBytes bs) (hq : 0 ≤ q) (hq2 : q ≤ 100000000000) (hq' : q' = q + 1) (hx : 0 < xs.length) (hm : ∀ x ∈ xs, x.length ≤ 40) :
    ∃ t : Txt, t.length ≤ 40 ∧ ev R 29 [.ptr r 0 0 0, .d (txts xs)] (hset H r (rd bs q)) = some (.d (.str t), hset H r (rd bs q')) := by
  subst hq'
  have e := e_29 (hset H r (rd bs q)) r bs q xs (hget_hset_self _ (hget_lt h)) hb hq (by omega) hx
  rw [hset_hset] at e
  exact ⟨_, ofV_all bs q xs 40 hm, e⟩
theorem of71 (H : Hp) (r : Nat) (bs : List Int) (q q' : Int) {o : Ev.Obj} (h : hget H r = some o) (hb : okBytes bs) (hq : 0 ≤ q) (hq2 : q ≤ 100000000000) (hq' : q' = q + 1) :
    ∃ t : Txt, t.length ≤ 40 ∧ ev R 75 [.ptr r 0 0 0] (hset H r (rd bs q)) = some (.d (.str t), hset H r (rd bs q')) := by
  subst hq'
  have e := e_75 (hset H r (rd bs q)) r bs q (hget_hset_self _ (hget_lt h)) hb hq (by omega)
  rw [hset_hset] at e
  exact ⟨_, textV_len bs q, e⟩
theorem of45 (H : Hp) (r : Nat) (bs : List Int) (q q' n : Int) {o : Ev.Obj} (h : hget H r = some o) (hb : okBytes bs) (hq : 0 ≤ q) (hq2 : q ≤ 100000000000) (hq' : q' = q + 1) :
    ev R 54 [.ptr r 0 0 0, .d (.int .i64 n)] (hset H r (rd bs q)) = some (.d (.int .i64 (pickV bs q n)), hset H r (rd bs q')) := by
  subst hq'
  have e := e_54 (hset H r (rd bs q)) r bs q n (hget_hset_self _ (hget_lt h)) hb hq (by omega)
  rwa [hset_hset] at e
theorem of70 (H : Hp) (r : Nat) (bs : List Int) (q q' : Int) {o : Ev.Obj} (h : hget H r = some o) (hb : okBytes bs) (hq : 0 ≤ q) (hq2 : q ≤ 100000000000) (hq' : q' = q + 1) :
    ∃ t : Txt, t.length ≤ 40 ∧ ev R 69 [.ptr r 0 0 0] (hset H r (rd bs q)) = some (.d (.str t), hset H r (rd bs q')) := by
  obtain ⟨t, l, e⟩ := of67 H r bs q q' [[107], [108], [115], [122], [104], [107, 50], [108]] h hb hq hq2 hq' (by simp) (by simp)
  refine ⟨t, l, ev_fn (fn := f69) rfl rfl ?_⟩
  have hl := htake_self (hset H r (rd bs q'))
  rw [hlen_hset] at hl
  have hl2 := hlen_hset H r (rd bs q)
  simp only [txts, List.map_cons, List.map_nil] at e
  simp [evH, -List.getD_eq_getElem?_getD, -List.map_map, f69, e, hl, hl2]
theorem of72 (H : Hp) (r : Nat) (bs : List Int) (q q' : Int) {o : Ev.Obj} (h : hget H r = some o) (hb : okBytes bs) (hq : 0 ≤ q) (hq2 : q ≤ 100000000000) (hq' : q' = q + 1) :
    ∃ t : Txt, t.length ≤ 40 ∧ ev R 106 [.ptr r 0 0 0] (hset H r (rd bs q)) = some (.d (.str t), hset H r (rd bs q')) := by
  obtain ⟨t, l, e⟩ := of67 H r bs q q' [[48], [49], [45, 49], [50], [45, 50], [53], [49, 48, 48], [45, 49, 48, 48], [49, 48, 48, 48, 48, 48, 48, 48, 48, 48], [120]] h hb hq hq2 hq' (by simp) (by simp)
  refine ⟨t, l, ev_fn (fn := f106) rfl rfl ?_⟩
  have hl := htake_self (hset H r (rd bs q'))
  rw [hlen_hset] at hl
  have hl2 := hlen_hset H r (rd bs q)
  simp only [txts, List.map_cons, List.map_nil] at e
  simp [evH, -List.getD_eq_getElem?_getD, -List.map_map, f106, e, hl, hl2]
theorem of73 (H : Hp) (r : Nat) (bs : List Int) (q : Int) (mi : Int) (most : Nat) (hmi : mi = most) (L : List Txt) {o : Ev.Obj} (h : hget H r = some o) (hb : okBytes bs) (hq : 0 ≤ q) (hq2 : q ≤ 10000000000) (hm : most ≤ 3) :
    ∃ (N : Nat) (p9 : Int), N ≤ most ∧ (q ≤ p9 ∧ p9 ≤ q + 5) ∧ ev R 101 [.ptr r 0 0 0, .d (.int .i64 mi)] (hpush (hset H r (rd bs q)) (.row 0 1 ((L.map D.str).map V.d))) = some (.slc (hlen H + 1) 0 0 N, hpush (hpush (hset H r (rd bs p9)) (.row 0 1 ((L.map D.str).map V.d))) (rowT 0 (textsV bs N (q + 1)))) := by
  subst hmi
  have hr := hget_lt h
  have hg : hget (hpush (hset H r (rd bs q)) (.row 0 1 ((L.map D.str).map V.d))) r = some (rd bs q) := by
    rw [hget_hpush_lt _ (by rw [hlen_hset]; exact hr), hget_hset_self _ hr]
  have e := e_101 _ r bs q most hg hb hq (by omega) (by omega)
  obtain ⟨k0, k1⟩ := pickV_in bs q ((most : Int) + 1) hb hq (by omega)
  have k1 := k1 (by omega)
  obtain ⟨N, hN⟩ : ∃ N, (pickV bs q ((most : Int) + 1)).toNat = N := ⟨_, rfl⟩
  rw [hN, hlen_hpush, hlen_hset, hset_push_lt (by rw [hlen_hset]; exact hr), hset_hset] at e
  exact ⟨N, q + 1 + N, by omega, by omega, e⟩
theorem app_row (H X : Hp) (hl : hlen X = hlen H) (ds ts : List Txt) (N : Nat) (hN : ts.length = N) :
    rowOf (hpush (hpush X (.row 0 1 ((ds.map D.str).map V.d))) (rowT 0 ts)) (hlen H) 0 = some (1, (ds.map D.str).map V.d) ∧
    src (hpush (hpush X (.row 0 1 ((ds.map D.str).map V.d))) (rowT 0 ts)) (.slc (hlen H + 1) 0 0 N) = some (1, (ts.map D.str).map V.d, false) ∧
    hset (hpush (hpush X (.row 0 1 ((ds.map D.str).map V.d))) (rowT 0 ts)) (hlen H) (.row 1 1 ((ds.map D.str).map V.d ++ (ts.map D.str).map V.d)) = hpush (hpush X (.row 1 1 ((ds.map D.str).map V.d ++ (ts.map D.str).map V.d))) (rowT 0 ts) ∧
    fzC (hlen H) (hpush (hpush X (.row 1 1 ((ds.map D.str).map V.d ++ (ts.map D.str).map V.d))) (rowT 0 ts)) (.slc (hlen H) 1 0 (ds.length + N)) = some (.d (.vals 1 (ds.map D.str ++ ts.map D.str))) ∧
    htake (hpush (hpush X (.row 1 1 ((ds.map D.str).map V.d ++ (ts.map D.str).map V.d))) (rowT 0 ts)) (hlen H) = X ∧
    ((ts.map D.str).map V.d).all (okIn (hlen H) (hlen H)) = true := by
  subst hN
  rw [← hl]
  refine ⟨?_, ?_, ?_, ?_, ?_, ?_⟩
  · simp only [rowOf, hget_hpush_lt _ (show hlen X < hlen (hpush X (.row 0 1 ((ds.map D.str).map V.d))) by rw [hlen_hpush]; omega), hget_hpush_self]
    rfl
  · have hr : rowOf (hpush (hpush X (.row 0 1 ((ds.map D.str).map V.d))) (rowT 0 ts)) (hlen X + 1) 0 = some (1, (ts.map D.str).map V.d) := rowT_row (by rw [hlen_hpush])
    simp only [src, hr]
    rw [if_pos (by simp), List.drop_zero, List.take_of_length_le (by simp)]
  · rw [hset_push_lt (by rw [hlen_hpush]; omega), hset_push]
  · have hr : rowOf (hpush (hpush X (.row 1 1 ((ds.map D.str).map V.d ++ (ts.map D.str).map V.d))) (rowT 0 ts)) (hlen X) 1 = some (1, (ds.map D.str).map V.d ++ (ts.map D.str).map V.d) := by
      simp only [rowOf, hget_hpush_lt _ (show hlen X < hlen (hpush X (.row 1 1 ((ds.map D.str).map V.d ++ (ts.map D.str).map V.d))) by rw [hlen_hpush]; omega), hget_hpush_self]
      rfl
    have h := fz_row (n := hlen X) (d := 7) (i := 0) (k := ds.length + ts.length) (by omega) hr (by simp) (ys := ds.map D.str ++ ts.map D.str) (by
      rw [List.drop_zero, List.take_of_length_le (by simp), ← List.map_append]; exact mapO_d _)
    show (if hlen X < hlen X then _ else (match fz (hlen X) deep _ (.slc (hlen X) 1 0 (ds.length + ts.length)) with | some x => some (V.d x) | none => none)) = _
    rw [if_neg (by omega), show deep = 7 + 1 from rfl, h]
  · simp [htake, hpush, hlen]
  · simp [okIn, lowIn]
theorem own_row (H X : Hp) (hl : hlen X = hlen H) (ds : List Txt) :
    rowOf (hpush X (.row 0 1 ((ds.map D.str).map V.d))) (hlen H) 0 = some (1, (ds.map D.str).map V.d) ∧ htake (hpush X (.row 0 1 ((ds.map D.str).map V.d))) (hlen H) = X ∧ True := by
  rw [← hl]
  exact ⟨rowOf_self _ _ _ _, htake_push _ _, trivial⟩
theorem row_below (H X : Hp) (hl : hlen X = hlen H) (g : Nat) (ys : List V) (o : Ev.Obj) : rowOf (hpush (hpush X (.row g 1 ys)) o) (hlen H) g = some (1, ys) := by
  rw [← hl]
  simp only [rowOf, hget_hpush_lt _ (show hlen X < hlen (hpush X (.row g 1 ys)) by rw [hlen_hpush]; omega), hget_hpush_self]
  simp
def Ways (H : Hp) (r : Nat) (bs : List Int) (p : Int) : Prop :=
  ∃ (ts : List Txt) (p' : Int), ev R 81 [.ptr r 0 0 0] H = some (.slc (hlen H) 0 0 ts.length, hpush (hset H r (rd bs p')) (rowT 0 ts)) ∧ p ≤ p' ∧ p' ≤ p + 20 ∧ 1 ≤ ts.length ∧ ts.length ≤ 8 ∧ ∀ x ∈ ts, x.length ≤ 40
theorem way0 (H : Hp) (r : Nat) (bs : List Int) (p : Int) (h : hget H r = some (rd bs p)) (hb : okBytes bs) (hp : 0 ≤ p) (hp2 : p ≤ 1000000000) (hc : pickV bs (p + 2) 12 = 0) : Ways H r bs p := by
  obtain ⟨p1, hp1⟩ : ∃ q, q = p + 1 := ⟨_, rfl⟩
  obtain ⟨p2, hp2'⟩ : ∃ q, q = p1 + 1 := ⟨_, rfl⟩
  obtain ⟨p3, hp3⟩ : ∃ q, q = p2 + 1 := ⟨_, rfl⟩
  obtain ⟨kk, lk, qk⟩ := of70 H r bs p p1 h hb (by omega) (by omega) hp1
  rw [hset_same' h] at qk
  obtain ⟨tt, lt, qt⟩ := of71 H r bs p1 p2 h hb (by omega) (by omega) hp2'
  have qp := of45 H r bs p2 p3 12 h hb (by omega) (by omega) hp3
  rw [show p2 = p + 2 by omega] at qp
  rw [hc] at qp
  rw [show p + 2 = p2 by omega] at qp
  obtain ⟨p4, hp4⟩ : ∃ q, q = p3 + 1 := ⟨_, rfl⟩
  obtain ⟨t1, l1, q1⟩ := of67 H r bs p3 p4 [[71, 69, 84], [83, 84, 82, 76, 69, 78], [73, 78, 67, 82], [76, 80, 79, 80], [82, 80, 79, 80], [76, 76, 69, 78], [83, 77, 69, 77, 66, 69, 82, 83], [83, 67, 65, 82, 68], [90, 67, 65, 82, 68], [72, 71, 69, 84, 65, 76, 76], [72, 76, 69, 78], [84, 89, 80, 69], [84, 84, 76], [80, 69, 82, 83, 73, 83, 84]] h hb (by omega) (by omega) hp4 (by simp) (by simp [*])
  simp only [txts, List.map_cons, List.map_nil] at q1
  refine ⟨[t1, kk], p4, ?_, by omega, by omega, by simp, by simp, by simp [*]⟩
  obtain ⟨o1, o2, o3⟩ := own_row H (hset H r (rd bs p4)) (hlen_hset _ _ _) [t1, kk]
  refine ev_fn (fn := f81) rfl rfl ?_
  have hl := hlen_hset H r (rd bs p4)
  simp only [rowT, List.map_cons, List.map_nil, List.length_cons, List.length_nil, Nat.zero_add, Nat.reduceAdd] at o1 o2 ⊢
  simp [evH, -List.getD_eq_getElem?_getD, -List.map_map, f81, qk, qt, qp, q1, hl, o1, o2, evO]
theorem way1 (H : Hp) (r : Nat) (bs : List Int) (p : Int) (h : hget H r = some (rd bs p)) (hb : okBytes bs) (hp : 0 ≤ p) (hp2 : p ≤ 1000000000) (hc : pickV bs (p + 2) 12 = 1) : Ways H r bs p := by
  obtain ⟨p1, hp1⟩ : ∃ q, q = p + 1 := ⟨_, rfl⟩
  obtain ⟨p2, hp2'⟩ : ∃ q, q = p1 + 1 := ⟨_, rfl⟩
  obtain ⟨p3, hp3⟩ : ∃ q, q = p2 + 1 := ⟨_, rfl⟩
  obtain ⟨kk, lk, qk⟩ := of70 H r bs p p1 h hb (by omega) (by omega) hp1
  rw [hset_same' h] at qk
  obtain ⟨tt, lt, qt⟩ := of71 H r bs p1 p2 h hb (by omega) (by omega) hp2'
  have qp := of45 H r bs p2 p3 12 h hb (by omega) (by omega) hp3
  rw [show p2 = p + 2 by omega] at qp
  rw [hc] at qp
  rw [show p + 2 = p2 by omega] at qp
  obtain ⟨p4, hp4⟩ : ∃ q, q = p3 + 1 := ⟨_, rfl⟩
  obtain ⟨t1, l1, q1⟩ := of67 H r bs p3 p4 [[107], [107, 50]] h hb (by omega) (by omega) hp4 (by simp) (by simp [*])
  simp only [txts, List.map_cons, List.map_nil] at q1
  refine ⟨[[83, 69, 84], t1, tt], p4, ?_, by omega, by omega, by simp, by simp, by simp [*]⟩
  obtain ⟨o1, o2, o3⟩ := own_row H (hset H r (rd bs p4)) (hlen_hset _ _ _) [[83, 69, 84], t1, tt]
  refine ev_fn (fn := f81) rfl rfl ?_
  have hl := hlen_hset H r (rd bs p4)
  simp only [rowT, List.map_cons, List.map_nil, List.length_cons, List.length_nil, Nat.zero_add, Nat.reduceAdd] at o1 o2 ⊢
  simp [evH, -List.getD_eq_getElem?_getD, -List.map_map, f81, qk, qt, qp, q1, hl, o1, o2, evO]
theorem way2 (H : Hp) (r : Nat) (bs : List Int) (p : Int) (h : hget H r = some (rd bs p)) (hb : okBytes bs) (hp : 0 ≤ p) (hp2 : p ≤ 1000000000) (hc : pickV bs (p + 2) 12 = 2) : Ways H r bs p := by
  obtain ⟨p1, hp1⟩ : ∃ q, q = p + 1 := ⟨_, rfl⟩
  obtain ⟨p2, hp2'⟩ : ∃ q, q = p1 + 1 := ⟨_, rfl⟩
  obtain ⟨p3, hp3⟩ : ∃ q, q = p2 + 1 := ⟨_, rfl⟩
  obtain ⟨kk, lk, qk⟩ := of70 H r bs p p1 h hb (by omega) (by omega) hp1
  rw [hset_same' h] at qk
  obtain ⟨tt, lt, qt⟩ := of71 H r bs p1 p2 h hb (by omega) (by omega) hp2'
  have qp := of45 H r bs p2 p3 12 h hb (by omega) (by omega) hp3
  rw [show p2 = p + 2 by omega] at qp
  rw [hc] at qp
  rw [show p + 2 = p2 by omega] at qp
  obtain ⟨p4, hp4⟩ : ∃ q, q = p3 + 1 := ⟨_, rfl⟩
  obtain ⟨t1, l1, q1⟩ := of67 H r bs p3 p4 [[65, 80, 80, 69, 78, 68], [73, 78, 67, 82, 66, 89]] h hb (by omega) (by omega) hp4 (by simp) (by simp [*])
  simp only [txts, List.map_cons, List.map_nil] at q1
  obtain ⟨p5, hp5⟩ : ∃ q, q = p4 + 1 := ⟨_, rfl⟩
  obtain ⟨t2, l2, q2⟩ := of67 H r bs p4 p5 [[107], [107, 50]] h hb (by omega) (by omega) hp5 (by simp) (by simp [*])
  simp only [txts, List.map_cons, List.map_nil] at q2
  obtain ⟨p6, hp6⟩ : ∃ q, q = p5 + 1 := ⟨_, rfl⟩
  obtain ⟨t3, l3, q3⟩ := of72 H r bs p5 p6 h hb (by omega) (by omega) hp6
  obtain ⟨p7, hp7⟩ : ∃ q, q = p6 + 1 := ⟨_, rfl⟩
  obtain ⟨t4, l4, q4⟩ := of67 H r bs p6 p7 [tt, t3] h hb (by omega) (by omega) hp7 (by simp) (by simp [*])
  simp only [txts, List.map_cons, List.map_nil] at q4
  refine ⟨[t1, t2, t4], p7, ?_, by omega, by omega, by simp, by simp, by simp [*]⟩
  obtain ⟨o1, o2, o3⟩ := own_row H (hset H r (rd bs p7)) (hlen_hset _ _ _) [t1, t2, t4]
  refine ev_fn (fn := f81) rfl rfl ?_
  have hl := hlen_hset H r (rd bs p7)
  simp only [rowT, List.map_cons, List.map_nil, List.length_cons, List.length_nil, Nat.zero_add, Nat.reduceAdd] at o1 o2 ⊢
  simp [evH, -List.getD_eq_getElem?_getD, -List.map_map, f81, qk, qt, qp, q1, q2, q3, q4, hl, o1, o2, evO]
theorem way3 (H : Hp) (r : Nat) (bs : List Int) (p : Int) (h : hget H r = some (rd bs p)) (hb : okBytes bs) (hp : 0 ≤ p) (hp2 : p ≤ 1000000000) (hc : pickV bs (p + 2) 12 = 3) : Ways H r bs p := by
  obtain ⟨p1, hp1⟩ : ∃ q, q = p + 1 := ⟨_, rfl⟩
  obtain ⟨p2, hp2'⟩ : ∃ q, q = p1 + 1 := ⟨_, rfl⟩
  obtain ⟨p3, hp3⟩ : ∃ q, q = p2 + 1 := ⟨_, rfl⟩
  obtain ⟨kk, lk, qk⟩ := of70 H r bs p p1 h hb (by omega) (by omega) hp1
  rw [hset_same' h] at qk
  obtain ⟨tt, lt, qt⟩ := of71 H r bs p1 p2 h hb (by omega) (by omega) hp2'
  have qp := of45 H r bs p2 p3 12 h hb (by omega) (by omega) hp3
  rw [show p2 = p + 2 by omega] at qp
  rw [hc] at qp
  rw [show p + 2 = p2 by omega] at qp
  obtain ⟨p4, hp4⟩ : ∃ q, q = p3 + 1 := ⟨_, rfl⟩
  obtain ⟨t1, l1, q1⟩ := of67 H r bs p3 p4 [[76, 80, 85, 83, 72], [82, 80, 85, 83, 72]] h hb (by omega) (by omega) hp4 (by simp) (by simp [*])
  simp only [txts, List.map_cons, List.map_nil] at q1
  obtain ⟨p5, hp5⟩ : ∃ q, q = p4 + 1 := ⟨_, rfl⟩
  obtain ⟨t2, l2, q2⟩ := of67 H r bs p4 p5 [[108], [108], [107]] h hb (by omega) (by omega) hp5 (by simp) (by simp [*])
  simp only [txts, List.map_cons, List.map_nil] at q2
  obtain ⟨N, p9, nl, pl, q9⟩ := of73 H r bs p5 3 3 rfl ([t1, t2, tt] : List Txt) h hb (by omega) (by omega) (by omega)
  obtain ⟨a1, a2, a3, a4, a5, a6⟩ := app_row H (hset H r (rd bs p9)) (hlen_hset _ _ _) [t1, t2, tt] (textsV bs N (p5 + 1)) N (textsV_len bs N (p5 + 1))
  have tl := textsV_len bs N (p5 + 1)
  refine ⟨[t1, t2, tt] ++ textsV bs N (p5 + 1), p9, ?_, by omega, by omega, by simp, by simp [tl]; omega, fun x hx => ?_⟩
  · refine ev_fn (fn := f81) rfl rfl ?_
    have sh := textsV_short bs N (p5 + 1)
    clear sh
    generalize textsV bs N (p5 + 1) = ts at a1 a2 a3 a4 a5 a6 q9 tl ⊢
    simp only [List.map_cons, List.map_nil, List.cons_append, List.nil_append, List.length_cons, List.length_nil, txts, Nat.zero_add, Nat.reduceAdd] at a1 a2 a3 a4 a5 a6 q9 ⊢
    have rm : (N + 3) * 16 ≤ room := by unfold room; omega
    have rm2 : (3 + N) * 16 ≤ room := by unfold room; omega
    have hl := hlen_hset H r (rd bs p5)
    have aD := allD_d (ts.map D.str)
    have r1 : ∀ ys : List V, rowOf (hpush (hpush (hset H r (rd bs p9)) (.row 1 1 ys)) (rowT 0 ts)) (hlen H) 1 = some (1, ys) := fun ys => row_below H (hset H r (rd bs p9)) (hlen_hset _ _ _) 1 ys (rowT 0 ts)
    have hl9 := hlen_hset H r (rd bs p9)
    show _ = some (V.slc (hlen H) 0 0 _, hpush (hset H r (rd bs p9)) (.row 0 1 _))
    simp only [List.length_cons, List.length_nil, List.length_append, tl, Nat.zero_add, Nat.reduceAdd, List.map_cons, List.map_nil, List.cons_append, List.nil_append]
    simp [evH, -List.getD_eq_getElem?_getD, -List.map_map, f81, qk, qt, qp, q1, q2, hl, hl9, q9, a1, a2, a3, a5, a6, rm, rm2, tl, aD, r1, evO]
    omega
  · rcases List.mem_append.1 hx with hx | hx
    · simp only [List.mem_cons, List.not_mem_nil, or_false] at hx
      rcases hx with rfl | rfl | rfl <;> assumption
    · exact textsV_short bs N (p5 + 1) x hx
theorem way4 (H : Hp) (r : Nat) (bs : List Int) (p : Int) (h : hget H r = some (rd bs p)) (hb : okBytes bs) (hp : 0 ≤ p) (hp2 : p ≤ 1000000000) (hc : pickV bs (p + 2) 12 = 4) : Ways H r bs p := by
  obtain ⟨p1, hp1⟩ : ∃ q, q = p + 1 := ⟨_, rfl⟩
  obtain ⟨p2, hp2'⟩ : ∃ q, q = p1 + 1 := ⟨_, rfl⟩
  obtain ⟨p3, hp3⟩ : ∃ q, q = p2 + 1 := ⟨_, rfl⟩
  obtain ⟨kk, lk, qk⟩ := of70 H r bs p p1 h hb (by omega) (by omega) hp1
  rw [hset_same' h] at qk
  obtain ⟨tt, lt, qt⟩ := of71 H r bs p1 p2 h hb (by omega) (by omega) hp2'
  have qp := of45 H r bs p2 p3 12 h hb (by omega) (by omega) hp3
  rw [show p2 = p + 2 by omega] at qp
  rw [hc] at qp
  rw [show p + 2 = p2 by omega] at qp
  obtain ⟨p4, hp4⟩ : ∃ q, q = p3 + 1 := ⟨_, rfl⟩
  obtain ⟨t1, l1, q1⟩ := of67 H r bs p3 p4 [[76, 82, 65, 78, 71, 69], [76, 84, 82, 73, 77], [76, 83, 69, 84], [76, 82, 69, 77], [71, 69, 84, 82, 65, 78, 71, 69]] h hb (by omega) (by omega) hp4 (by simp) (by simp [*])
  simp only [txts, List.map_cons, List.map_nil] at q1
  obtain ⟨p5, hp5⟩ : ∃ q, q = p4 + 1 := ⟨_, rfl⟩
  obtain ⟨t2, l2, q2⟩ := of67 H r bs p4 p5 [[108], [108], [107]] h hb (by omega) (by omega) hp5 (by simp) (by simp [*])
  simp only [txts, List.map_cons, List.map_nil] at q2
  obtain ⟨p6, hp6⟩ : ∃ q, q = p5 + 1 := ⟨_, rfl⟩
  obtain ⟨t3, l3, q3⟩ := of72 H r bs p5 p6 h hb (by omega) (by omega) hp6
  obtain ⟨p7, hp7⟩ : ∃ q, q = p6 + 1 := ⟨_, rfl⟩
  obtain ⟨t4, l4, q4⟩ := of72 H r bs p6 p7 h hb (by omega) (by omega) hp7
  obtain ⟨p8, hp8⟩ : ∃ q, q = p7 + 1 := ⟨_, rfl⟩
  obtain ⟨t5, l5, q5⟩ := of67 H r bs p7 p8 [t4, tt] h hb (by omega) (by omega) hp8 (by simp) (by simp [*])
  simp only [txts, List.map_cons, List.map_nil] at q5
  refine ⟨[t1, t2, t3, t5], p8, ?_, by omega, by omega, by simp, by simp, by simp [*]⟩
  obtain ⟨o1, o2, o3⟩ := own_row H (hset H r (rd bs p8)) (hlen_hset _ _ _) [t1, t2, t3, t5]
  refine ev_fn (fn := f81) rfl rfl ?_
  have hl := hlen_hset H r (rd bs p8)
  simp only [rowT, List.map_cons, List.map_nil, List.length_cons, List.length_nil, Nat.zero_add, Nat.reduceAdd] at o1 o2 ⊢
  simp [evH, -List.getD_eq_getElem?_getD, -List.map_map, f81, qk, qt, qp, q1, q2, q3, q4, q5, hl, o1, o2, evO]
theorem way5 (H : Hp) (r : Nat) (bs : List Int) (p : Int) (h : hget H r = some (rd bs p)) (hb : okBytes bs) (hp : 0 ≤ p) (hp2 : p ≤ 1000000000) (hc : pickV bs (p + 2) 12 = 5) : Ways H r bs p := by
  obtain ⟨p1, hp1⟩ : ∃ q, q = p + 1 := ⟨_, rfl⟩
  obtain ⟨p2, hp2'⟩ : ∃ q, q = p1 + 1 := ⟨_, rfl⟩
  obtain ⟨p3, hp3⟩ : ∃ q, q = p2 + 1 := ⟨_, rfl⟩
  obtain ⟨kk, lk, qk⟩ := of70 H r bs p p1 h hb (by omega) (by omega) hp1
  rw [hset_same' h] at qk
  obtain ⟨tt, lt, qt⟩ := of71 H r bs p1 p2 h hb (by omega) (by omega) hp2'
  have qp := of45 H r bs p2 p3 12 h hb (by omega) (by omega) hp3
  rw [show p2 = p + 2 by omega] at qp
  rw [hc] at qp
  rw [show p + 2 = p2 by omega] at qp
  obtain ⟨p4, hp4⟩ : ∃ q, q = p3 + 1 := ⟨_, rfl⟩
  obtain ⟨t1, l1, q1⟩ := of67 H r bs p3 p4 [[83, 65, 68, 68], [83, 65, 68, 68], [83, 82, 69, 77]] h hb (by omega) (by omega) hp4 (by simp) (by simp [*])
  simp only [txts, List.map_cons, List.map_nil] at q1
  obtain ⟨p5, hp5⟩ : ∃ q, q = p4 + 1 := ⟨_, rfl⟩
  obtain ⟨t2, l2, q2⟩ := of67 H r bs p4 p5 [[115], [115, 50]] h hb (by omega) (by omega) hp5 (by simp) (by simp [*])
  simp only [txts, List.map_cons, List.map_nil] at q2
  obtain ⟨N, p9, nl, pl, q9⟩ := of73 H r bs p5 2 2 rfl ([t1, t2, tt] : List Txt) h hb (by omega) (by omega) (by omega)
  obtain ⟨a1, a2, a3, a4, a5, a6⟩ := app_row H (hset H r (rd bs p9)) (hlen_hset _ _ _) [t1, t2, tt] (textsV bs N (p5 + 1)) N (textsV_len bs N (p5 + 1))
  have tl := textsV_len bs N (p5 + 1)
  refine ⟨[t1, t2, tt] ++ textsV bs N (p5 + 1), p9, ?_, by omega, by omega, by simp, by simp [tl]; omega, fun x hx => ?_⟩
  · refine ev_fn (fn := f81) rfl rfl ?_
    have sh := textsV_short bs N (p5 + 1)
    clear sh
    generalize textsV bs N (p5 + 1) = ts at a1 a2 a3 a4 a5 a6 q9 tl ⊢
    simp only [List.map_cons, List.map_nil, List.cons_append, List.nil_append, List.length_cons, List.length_nil, txts, Nat.zero_add, Nat.reduceAdd] at a1 a2 a3 a4 a5 a6 q9 ⊢
    have rm : (N + 3) * 16 ≤ room := by unfold room; omega
    have rm2 : (3 + N) * 16 ≤ room := by unfold room; omega
    have hl := hlen_hset H r (rd bs p5)
    have aD := allD_d (ts.map D.str)
    have r1 : ∀ ys : List V, rowOf (hpush (hpush (hset H r (rd bs p9)) (.row 1 1 ys)) (rowT 0 ts)) (hlen H) 1 = some (1, ys) := fun ys => row_below H (hset H r (rd bs p9)) (hlen_hset _ _ _) 1 ys (rowT 0 ts)
    have hl9 := hlen_hset H r (rd bs p9)
    show _ = some (V.slc (hlen H) 0 0 _, hpush (hset H r (rd bs p9)) (.row 0 1 _))
    simp only [List.length_cons, List.length_nil, List.length_append, tl, Nat.zero_add, Nat.reduceAdd, List.map_cons, List.map_nil, List.cons_append, List.nil_append]
    simp [evH, -List.getD_eq_getElem?_getD, -List.map_map, f81, qk, qt, qp, q1, q2, hl, hl9, q9, a1, a2, a3, a5, a6, rm, rm2, tl, aD, r1, evO]
    omega
  · rcases List.mem_append.1 hx with hx | hx
    · simp only [List.mem_cons, List.not_mem_nil, or_false] at hx
      rcases hx with rfl | rfl | rfl <;> assumption
    · exact textsV_short bs N (p5 + 1) x hx
theorem way6 (H : Hp) (r : Nat) (bs : List Int) (p : Int) (h : hget H r = some (rd bs p)) (hb : okBytes bs) (hp : 0 ≤ p) (hp2 : p ≤ 1000000000) (hc : pickV bs (p + 2) 12 = 6) : Ways H r bs p := by
  obtain ⟨p1, hp1⟩ : ∃ q, q = p + 1 := ⟨_, rfl⟩
  obtain ⟨p2, hp2'⟩ : ∃ q, q = p1 + 1 := ⟨_, rfl⟩
  obtain ⟨p3, hp3⟩ : ∃ q, q = p2 + 1 := ⟨_, rfl⟩
  obtain ⟨kk, lk, qk⟩ := of70 H r bs p p1 h hb (by omega) (by omega) hp1
  rw [hset_same' h] at qk
  obtain ⟨tt, lt, qt⟩ := of71 H r bs p1 p2 h hb (by omega) (by omega) hp2'
  have qp := of45 H r bs p2 p3 12 h hb (by omega) (by omega) hp3
  rw [show p2 = p + 2 by omega] at qp
  rw [hc] at qp
  rw [show p + 2 = p2 by omega] at qp
  obtain ⟨p4, hp4⟩ : ∃ q, q = p3 + 1 := ⟨_, rfl⟩
  obtain ⟨t1, l1, q1⟩ := of67 H r bs p3 p4 [[83, 73, 83, 77, 69, 77, 66, 69, 82], [83, 73, 78, 84, 69, 82], [83, 85, 78, 73, 79, 78], [83, 68, 73, 70, 70]] h hb (by omega) (by omega) hp4 (by simp) (by simp [*])
  simp only [txts, List.map_cons, List.map_nil] at q1
  obtain ⟨p5, hp5⟩ : ∃ q, q = p4 + 1 := ⟨_, rfl⟩
  obtain ⟨t2, l2, q2⟩ := of67 H r bs p4 p5 [[115], [115, 50]] h hb (by omega) (by omega) hp5 (by simp) (by simp [*])
  simp only [txts, List.map_cons, List.map_nil] at q2
  obtain ⟨p6, hp6⟩ : ∃ q, q = p5 + 1 := ⟨_, rfl⟩
  obtain ⟨t3, l3, q3⟩ := of67 H r bs p5 p6 [[115], [115, 50], tt] h hb (by omega) (by omega) hp6 (by simp) (by simp [*])
  simp only [txts, List.map_cons, List.map_nil] at q3
  refine ⟨[t1, t2, t3], p6, ?_, by omega, by omega, by simp, by simp, by simp [*]⟩
  obtain ⟨o1, o2, o3⟩ := own_row H (hset H r (rd bs p6)) (hlen_hset _ _ _) [t1, t2, t3]
  refine ev_fn (fn := f81) rfl rfl ?_
  have hl := hlen_hset H r (rd bs p6)
  simp only [rowT, List.map_cons, List.map_nil, List.length_cons, List.length_nil, Nat.zero_add, Nat.reduceAdd] at o1 o2 ⊢
  simp [evH, -List.getD_eq_getElem?_getD, -List.map_map, f81, qk, qt, qp, q1, q2, q3, hl, o1, o2, evO]
theorem way7 (H : Hp) (r : Nat) (bs : List Int) (p : Int) (h : hget H r = some (rd bs p)) (hb : okBytes bs) (hp : 0 ≤ p) (hp2 : p ≤ 1000000000) (hc : pickV bs (p + 2) 12 = 7) : Ways H r bs p := by
  obtain ⟨p1, hp1⟩ : ∃ q, q = p + 1 := ⟨_, rfl⟩
  obtain ⟨p2, hp2'⟩ : ∃ q, q = p1 + 1 := ⟨_, rfl⟩
  obtain ⟨p3, hp3⟩ : ∃ q, q = p2 + 1 := ⟨_, rfl⟩
  obtain ⟨kk, lk, qk⟩ := of70 H r bs p p1 h hb (by omega) (by omega) hp1
  rw [hset_same' h] at qk
  obtain ⟨tt, lt, qt⟩ := of71 H r bs p1 p2 h hb (by omega) (by omega) hp2'
  have qp := of45 H r bs p2 p3 12 h hb (by omega) (by omega) hp3
  rw [show p2 = p + 2 by omega] at qp
  rw [hc] at qp
  rw [show p + 2 = p2 by omega] at qp
  obtain ⟨p4, hp4⟩ : ∃ q, q = p3 + 1 := ⟨_, rfl⟩
  obtain ⟨t1, l1, q1⟩ := of67 H r bs p3 p4 [[90, 65, 68, 68], [90, 65, 68, 68], [90, 73, 78, 67, 82, 66, 89], [90, 82, 65, 78, 71, 69], [90, 82, 65, 78, 71, 69, 66, 89, 83, 67, 79, 82, 69]] h hb (by omega) (by omega) hp4 (by simp) (by simp [*])
  simp only [txts, List.map_cons, List.map_nil] at q1
  obtain ⟨p5, hp5⟩ : ∃ q, q = p4 + 1 := ⟨_, rfl⟩
  obtain ⟨t2, l2, q2⟩ := of72 H r bs p4 p5 h hb (by omega) (by omega) hp5
  obtain ⟨p6, hp6⟩ : ∃ q, q = p5 + 1 := ⟨_, rfl⟩
  obtain ⟨t3, l3, q3⟩ := of72 H r bs p5 p6 h hb (by omega) (by omega) hp6
  obtain ⟨p7, hp7⟩ : ∃ q, q = p6 + 1 := ⟨_, rfl⟩
  obtain ⟨t4, l4, q4⟩ := of67 H r bs p6 p7 [tt, t3] h hb (by omega) (by omega) hp7 (by simp) (by simp [*])
  simp only [txts, List.map_cons, List.map_nil] at q4
  refine ⟨[t1, [122], t2, t4], p7, ?_, by omega, by omega, by simp, by simp, by simp [*]⟩
  obtain ⟨o1, o2, o3⟩ := own_row H (hset H r (rd bs p7)) (hlen_hset _ _ _) [t1, [122], t2, t4]
  refine ev_fn (fn := f81) rfl rfl ?_
  have hl := hlen_hset H r (rd bs p7)
  simp only [rowT, List.map_cons, List.map_nil, List.length_cons, List.length_nil, Nat.zero_add, Nat.reduceAdd] at o1 o2 ⊢
  simp [evH, -List.getD_eq_getElem?_getD, -List.map_map, f81, qk, qt, qp, q1, q2, q3, q4, hl, o1, o2, evO]
theorem way8 (H : Hp) (r : Nat) (bs : List Int) (p : Int) (h : hget H r = some (rd bs p)) (hb : okBytes bs) (hp : 0 ≤ p) (hp2 : p ≤ 1000000000) (hc : pickV bs (p + 2) 12 = 8) : Ways H r bs p := by
  obtain ⟨p1, hp1⟩ : ∃ q, q = p + 1 := ⟨_, rfl⟩
  obtain ⟨p2, hp2'⟩ : ∃ q, q = p1 + 1 := ⟨_, rfl⟩
  obtain ⟨p3, hp3⟩ : ∃ q, q = p2 + 1 := ⟨_, rfl⟩
  obtain ⟨kk, lk, qk⟩ := of70 H r bs p p1 h hb (by omega) (by omega) hp1
  rw [hset_same' h] at qk
  obtain ⟨tt, lt, qt⟩ := of71 H r bs p1 p2 h hb (by omega) (by omega) hp2'
  have qp := of45 H r bs p2 p3 12 h hb (by omega) (by omega) hp3
  rw [show p2 = p + 2 by omega] at qp
  rw [hc] at qp
  rw [show p + 2 = p2 by omega] at qp
  obtain ⟨p4, hp4⟩ : ∃ q, q = p3 + 1 := ⟨_, rfl⟩
  obtain ⟨t1, l1, q1⟩ := of67 H r bs p3 p4 [[90, 82, 69, 77], [90, 83, 67, 79, 82, 69], [90, 82, 65, 78, 75], [72, 71, 69, 84], [72, 68, 69, 76]] h hb (by omega) (by omega) hp4 (by simp) (by simp [*])
  simp only [txts, List.map_cons, List.map_nil] at q1
  obtain ⟨p5, hp5⟩ : ∃ q, q = p4 + 1 := ⟨_, rfl⟩
  obtain ⟨t2, l2, q2⟩ := of67 H r bs p4 p5 [[122], [104]] h hb (by omega) (by omega) hp5 (by simp) (by simp [*])
  simp only [txts, List.map_cons, List.map_nil] at q2
  refine ⟨[t1, t2, tt], p5, ?_, by omega, by omega, by simp, by simp, by simp [*]⟩
  obtain ⟨o1, o2, o3⟩ := own_row H (hset H r (rd bs p5)) (hlen_hset _ _ _) [t1, t2, tt]
  refine ev_fn (fn := f81) rfl rfl ?_
  have hl := hlen_hset H r (rd bs p5)
  simp only [rowT, List.map_cons, List.map_nil, List.length_cons, List.length_nil, Nat.zero_add, Nat.reduceAdd] at o1 o2 ⊢
  simp [evH, -List.getD_eq_getElem?_getD, -List.map_map, f81, qk, qt, qp, q1, q2, hl, o1, o2, evO]
theorem way9 (H : Hp) (r : Nat) (bs : List Int) (p : Int) (h : hget H r = some (rd bs p)) (hb : okBytes bs) (hp : 0 ≤ p) (hp2 : p ≤ 1000000000) (hc : pickV bs (p + 2) 12 = 9) : Ways H r bs p := by
  obtain ⟨p1, hp1⟩ : ∃ q, q = p + 1 := ⟨_, rfl⟩
  obtain ⟨p2, hp2'⟩ : ∃ q, q = p1 + 1 := ⟨_, rfl⟩
  obtain ⟨p3, hp3⟩ : ∃ q, q = p2 + 1 := ⟨_, rfl⟩
  obtain ⟨kk, lk, qk⟩ := of70 H r bs p p1 h hb (by omega) (by omega) hp1
  rw [hset_same' h] at qk
  obtain ⟨tt, lt, qt⟩ := of71 H r bs p1 p2 h hb (by omega) (by omega) hp2'
  have qp := of45 H r bs p2 p3 12 h hb (by omega) (by omega) hp3
  rw [show p2 = p + 2 by omega] at qp
  rw [hc] at qp
  rw [show p + 2 = p2 by omega] at qp
  obtain ⟨p4, hp4⟩ : ∃ q, q = p3 + 1 := ⟨_, rfl⟩
  obtain ⟨t1, l1, q1⟩ := of67 H r bs p3 p4 [[72, 83, 69, 84], [72, 83, 69, 84], [72, 73, 78, 67, 82, 66, 89]] h hb (by omega) (by omega) hp4 (by simp) (by simp [*])
  simp only [txts, List.map_cons, List.map_nil] at q1
  obtain ⟨p5, hp5⟩ : ∃ q, q = p4 + 1 := ⟨_, rfl⟩
  obtain ⟨t2, l2, q2⟩ := of67 H r bs p4 p5 [[97], [98], tt] h hb (by omega) (by omega) hp5 (by simp) (by simp [*])
  simp only [txts, List.map_cons, List.map_nil] at q2
  obtain ⟨p6, hp6⟩ : ∃ q, q = p5 + 1 := ⟨_, rfl⟩
  obtain ⟨t3, l3, q3⟩ := of72 H r bs p5 p6 h hb (by omega) (by omega) hp6
  obtain ⟨p7, hp7⟩ : ∃ q, q = p6 + 1 := ⟨_, rfl⟩
  obtain ⟨t4, l4, q4⟩ := of67 H r bs p6 p7 [tt, t3] h hb (by omega) (by omega) hp7 (by simp) (by simp [*])
  simp only [txts, List.map_cons, List.map_nil] at q4
  refine ⟨[t1, [104], t2, t4], p7, ?_, by omega, by omega, by simp, by simp, by simp [*]⟩
  obtain ⟨o1, o2, o3⟩ := own_row H (hset H r (rd bs p7)) (hlen_hset _ _ _) [t1, [104], t2, t4]
  refine ev_fn (fn := f81) rfl rfl ?_
  have hl := hlen_hset H r (rd bs p7)
  simp only [rowT, List.map_cons, List.map_nil, List.length_cons, List.length_nil, Nat.zero_add, Nat.reduceAdd] at o1 o2 ⊢
  simp [evH, -List.getD_eq_getElem?_getD, -List.map_map, f81, qk, qt, qp, q1, q2, q3, q4, hl, o1, o2, evO]
theorem way10 (H : Hp) (r : Nat) (bs : List Int) (p : Int) (h : hget H r = some (rd bs p)) (hb : okBytes bs) (hp : 0 ≤ p) (hp2 : p ≤ 1000000000) (hc : pickV bs (p + 2) 12 = 10) : Ways H r bs p := by
  obtain ⟨p1, hp1⟩ : ∃ q, q = p + 1 := ⟨_, rfl⟩
  obtain ⟨p2, hp2'⟩ : ∃ q, q = p1 + 1 := ⟨_, rfl⟩
  obtain ⟨p3, hp3⟩ : ∃ q, q = p2 + 1 := ⟨_, rfl⟩
  obtain ⟨kk, lk, qk⟩ := of70 H r bs p p1 h hb (by omega) (by omega) hp1
  rw [hset_same' h] at qk
  obtain ⟨tt, lt, qt⟩ := of71 H r bs p1 p2 h hb (by omega) (by omega) hp2'
  have qp := of45 H r bs p2 p3 12 h hb (by omega) (by omega) hp3
  rw [show p2 = p + 2 by omega] at qp
  rw [hc] at qp
  rw [show p + 2 = p2 by omega] at qp
  obtain ⟨p4, hp4⟩ : ∃ q, q = p3 + 1 := ⟨_, rfl⟩
  obtain ⟨t1, l1, q1⟩ := of67 H r bs p3 p4 [[69, 88, 80, 73, 82, 69], [69, 88, 80, 73, 82, 69, 65, 84], [82, 69, 78, 65, 77, 69]] h hb (by omega) (by omega) hp4 (by simp) (by simp [*])
  simp only [txts, List.map_cons, List.map_nil] at q1
  obtain ⟨p5, hp5⟩ : ∃ q, q = p4 + 1 := ⟨_, rfl⟩
  obtain ⟨t2, l2, q2⟩ := of67 H r bs p4 p5 [[53], [49], [49, 48, 48], [107], [108], [107, 50], [45, 49], [49, 48, 48, 48, 48, 48, 49]] h hb (by omega) (by omega) hp5 (by simp) (by simp [*])
  simp only [txts, List.map_cons, List.map_nil] at q2
  refine ⟨[t1, kk, t2], p5, ?_, by omega, by omega, by simp, by simp, by simp [*]⟩
  obtain ⟨o1, o2, o3⟩ := own_row H (hset H r (rd bs p5)) (hlen_hset _ _ _) [t1, kk, t2]
  refine ev_fn (fn := f81) rfl rfl ?_
  have hl := hlen_hset H r (rd bs p5)
  simp only [rowT, List.map_cons, List.map_nil, List.length_cons, List.length_nil, Nat.zero_add, Nat.reduceAdd] at o1 o2 ⊢
  simp [evH, -List.getD_eq_getElem?_getD, -List.map_map, f81, qk, qt, qp, q1, q2, hl, o1, o2, evO]
theorem way11 (H : Hp) (r : Nat) (bs : List Int) (p : Int) (h : hget H r = some (rd bs p)) (hb : okBytes bs) (hp : 0 ≤ p) (hp2 : p ≤ 1000000000) (hc : 11 ≤ pickV bs (p + 2) 12) : Ways H r bs p := by
  obtain ⟨p1, hp1⟩ : ∃ q, q = p + 1 := ⟨_, rfl⟩
  obtain ⟨p2, hp2'⟩ : ∃ q, q = p1 + 1 := ⟨_, rfl⟩
  obtain ⟨p3, hp3⟩ : ∃ q, q = p2 + 1 := ⟨_, rfl⟩
  obtain ⟨kk, lk, qk⟩ := of70 H r bs p p1 h hb (by omega) (by omega) hp1
  rw [hset_same' h] at qk
  obtain ⟨tt, lt, qt⟩ := of71 H r bs p1 p2 h hb (by omega) (by omega) hp2'
  have qp := of45 H r bs p2 p3 12 h hb (by omega) (by omega) hp3
  rw [show p2 = p + 2 by omega] at qp
  obtain ⟨_, pm⟩ := pickV_in bs (p + 2) 12 hb (by omega) (by omega)
  have pm := pm (by omega)
  rw [show pickV bs (p + 2) 12 = 11 by omega] at qp
  rw [show p + 2 = p2 by omega] at qp
  obtain ⟨p4, hp4⟩ : ∃ q, q = p3 + 1 := ⟨_, rfl⟩
  obtain ⟨t1, l1, q1⟩ := of67 H r bs p3 p4 [[68, 69, 76], [69, 88, 73, 83, 84, 83], [75, 69, 89, 83], [68, 66, 83, 73, 90, 69], [70, 76, 85, 83, 72], [78, 79, 78, 69], [68, 69, 76]] h hb (by omega) (by omega) hp4 (by simp) (by simp [*])
  simp only [txts, List.map_cons, List.map_nil] at q1
  obtain ⟨p5, hp5⟩ : ∃ q, q = p4 + 1 := ⟨_, rfl⟩
  obtain ⟨t2, l2, q2⟩ := of67 H r bs p4 p5 [kk, [42], [63], [107, 42], []] h hb (by omega) (by omega) hp5 (by simp) (by simp [*])
  simp only [txts, List.map_cons, List.map_nil] at q2
  obtain ⟨N, p9, nl, pl, q9⟩ := of73 H r bs p5 1 1 rfl ([t1, t2] : List Txt) h hb (by omega) (by omega) (by omega)
  obtain ⟨a1, a2, a3, a4, a5, a6⟩ := app_row H (hset H r (rd bs p9)) (hlen_hset _ _ _) [t1, t2] (textsV bs N (p5 + 1)) N (textsV_len bs N (p5 + 1))
  have tl := textsV_len bs N (p5 + 1)
  refine ⟨[t1, t2] ++ textsV bs N (p5 + 1), p9, ?_, by omega, by omega, by simp, by simp [tl]; omega, fun x hx => ?_⟩
  · refine ev_fn (fn := f81) rfl rfl ?_
    have sh := textsV_short bs N (p5 + 1)
    clear sh
    generalize textsV bs N (p5 + 1) = ts at a1 a2 a3 a4 a5 a6 q9 tl ⊢
    simp only [List.map_cons, List.map_nil, List.cons_append, List.nil_append, List.length_cons, List.length_nil, txts, Nat.zero_add, Nat.reduceAdd] at a1 a2 a3 a4 a5 a6 q9 ⊢
    have rm : (N + 2) * 16 ≤ room := by unfold room; omega
    have rm2 : (2 + N) * 16 ≤ room := by unfold room; omega
    have hl := hlen_hset H r (rd bs p5)
    have aD := allD_d (ts.map D.str)
    have r1 : ∀ ys : List V, rowOf (hpush (hpush (hset H r (rd bs p9)) (.row 1 1 ys)) (rowT 0 ts)) (hlen H) 1 = some (1, ys) := fun ys => row_below H (hset H r (rd bs p9)) (hlen_hset _ _ _) 1 ys (rowT 0 ts)
    have hl9 := hlen_hset H r (rd bs p9)
    show _ = some (V.slc (hlen H) 0 0 _, hpush (hset H r (rd bs p9)) (.row 0 1 _))
    simp only [List.length_cons, List.length_nil, List.length_append, tl, Nat.zero_add, Nat.reduceAdd, List.map_cons, List.map_nil, List.cons_append, List.nil_append]
    simp [evH, -List.getD_eq_getElem?_getD, -List.map_map, f81, qk, qt, qp, q1, q2, hl, hl9, q9, a1, a2, a3, a5, a6, rm, rm2, tl, aD, r1, evO]
    omega
  · rcases List.mem_append.1 hx with hx | hx
    · simp only [List.mem_cons, List.not_mem_nil, or_false] at hx
      rcases hx with rfl | rfl <;> assumption
    · exact textsV_short bs N (p5 + 1) x hx
theorem e_81 (H : Hp) (r : Nat) (bs : List Int) (p : Int) (h : hget H r = some (rd bs p)) (hb : okBytes bs) (hp : 0 ≤ p) (hp2 : p ≤ 1000000000) : Ways H r bs p := by
  obtain ⟨k0, k1⟩ := pickV_in bs (p + 2) 12 hb (by omega) (by omega)
  have k1 := k1 (by omega)
  have c : pickV bs (p + 2) 12 = 0 ∨ pickV bs (p + 2) 12 = 1 ∨ pickV bs (p + 2) 12 = 2 ∨ pickV bs (p + 2) 12 = 3 ∨ pickV bs (p + 2) 12 = 4 ∨ pickV bs (p + 2) 12 = 5 ∨ pickV bs (p + 2) 12 = 6 ∨ pickV bs (p + 2) 12 = 7 ∨ pickV bs (p + 2) 12 = 8 ∨ pickV bs (p + 2) 12 = 9 ∨ pickV bs (p + 2) 12 = 10 ∨ 11 ≤ pickV bs (p + 2) 12 := by omega
  rcases c with c | c | c | c | c | c | c | c | c | c | c | c
  · exact way0 H r bs p h hb hp hp2 c
  · exact way1 H r bs p h hb hp hp2 c
  · exact way2 H r bs p h hb hp hp2 c
  · exact way3 H r bs p h hb hp hp2 c
  · exact way4 H r bs p h hb hp hp2 c
  · exact way5 H r bs p h hb hp hp2 c
  · exact way6 H r bs p h hb hp hp2 c
  · exact way7 H r bs p h hb hp hp2 c
  · exact way8 H r bs p h hb hp hp2 c
  · exact way9 H r bs p h hb hp hp2 c
  · exact way10 H r bs p h hb hp hp2 c
  · exact way11 H r bs p h hb hp hp2 c
end Go.Proofs.YtjdmiodinhlchaaGreat.Code
/- The reader of a code behind other objects: draws out of it. -/
namespace Go.Proofs.YtjdmiodinhlchaaGreat.Code
open Go Go.Ev Go.Proofs
set_option maxRecDepth 100000
set_option maxHeartbeats 2000000
set_option linter.unusedSimpArgs false
set_option linter.unusedVariables false
def rh (H : Hp) (r : Nat) (bs : List Int) (q : Int) (l : Hp) : Hp := ap (hset H r (rd bs q)) l
section
variable (H l : Hp) (r : Nat) (bs : List Int) (q : Int)
theorem rh_push (o : Ev.Obj) : hpush (rh H r bs q l) o = rh H r bs q ((l : List Ev.Obj) ++ [o]) := ap_push _ _ _
theorem rh_len : hlen (rh H r bs q l) = hlen H + l.length := by unfold rh; rw [ap_len, hlen_hset]
theorem rh_get (k : Nat) : hget (rh H r bs q l) (hlen H + k) = hget l k := by
  have := ap_get (hset H r (rd bs q)) l k
  rwa [hlen_hset] at this
theorem rh_get0 : hget (rh H r bs q l) (hlen H) = hget l 0 := rh_get H l r bs q 0
theorem rh_set (k : Nat) (o : Ev.Obj) : hset (rh H r bs q l) (hlen H + k) o = rh H r bs q (hset l k o) := by
  have := ap_set (hset H r (rd bs q)) l k o
  rwa [hlen_hset] at this
theorem rh_set0 (o : Ev.Obj) : hset (rh H r bs q l) (hlen H) o = rh H r bs q (hset l 0 o) := rh_set H l r bs q 0 o
theorem rh_take : htake (rh H r bs q l) (hlen H) = hset H r (rd bs q) := by
  have := ap_take (hset H r (rd bs q)) l
  rwa [hlen_hset] at this
theorem rh_takeN (k : Nat) : htake (rh H r bs q l) (hlen H + k) = rh H r bs q (l.take k) := by
  have := ap_takeN (hset H r (rd bs q)) l k
  rwa [hlen_hset] at this
theorem rh_rd (hr : r < hlen H) : hget (rh H r bs q l) r = some (rd bs q) := by
  unfold rh
  rw [hget_at, ap, List.getElem?_append_left (by simpa [hlen_hset, hlen] using (show r < hlen (hset H r (rd bs q)) by rw [hlen_hset]; exact hr)), ← hget_at]
  exact hget_hset_self _ hr
theorem rh_move (hr : r < hlen H) (q' : Int) : hset (rh H r bs q l) r (rd bs q') = rh H r bs q' l := by
  unfold rh
  have : hlen (hset H r (rd bs q)) = (hset H r (rd bs q)).length := rfl
  rw [hset_at, ap, ap, List.set_append_left _ _ (by rw [← this, hlen_hset]; exact hr), ← hset_at, hset_hset]
theorem rh_fzC (k g i n : Nat) : fzC (hlen H) (rh H r bs q l) (.slc (hlen H + k) g i n) = (match hget l k with
    | some (.row g' e xs) => bif Nat.beq g' g then (if i + n ≤ xs.length then (match mapO (fz (hlen H) 7 (rh H r bs q l)) ((xs.drop i).take n) with | some ys => some (.d (.vals e ys)) | none => none) else none) else none
    | _ => none) := by
  have := fzC_ap (hset H r (rd bs q)) l k g i n
  rwa [hlen_hset] at this
theorem rh_fzC0 (g i n : Nat) : fzC (hlen H) (rh H r bs q l) (.slc (hlen H) g i n) = (match hget l 0 with
    | some (.row g' e xs) => bif Nat.beq g' g then (if i + n ≤ xs.length then (match mapO (fz (hlen H) 7 (rh H r bs q l)) ((xs.drop i).take n) with | some ys => some (.d (.vals e ys)) | none => none) else none) else none
    | _ => none) := rh_fzC H l r bs q 0 g i n
theorem rh_row (m k g e n : Nat) (ds : List D) (hm : m ≤ k) (h : hget l k = some (.row g e (ds.map V.d))) (hn : n = ds.length) : fzC (hlen H + m) (rh H r bs q l) (.slc (hlen H + k) g 0 n) = some (.d (.vals e ds)) := by
  have hr : rowOf (rh H r bs q l) (hlen H + k) g = some (e, ds.map V.d) := by
    unfold rowOf
    rw [rh_get, h]
    simp
  have hmm : mapO (fz (hlen H + m) 7 (rh H r bs q l)) (((ds.map V.d).drop 0).take n) = some ds := by
    rw [List.drop_zero, List.take_of_length_le (by rw [List.length_map]; omega)]
    exact mapO_fz_all (allD_d' ds)
  have := fz_row (n := hlen H + m) (d := 7) (r := hlen H + k) (g := g) (i := 0) (k := n) (by omega) hr (by rw [List.length_map]; omega) hmm
  show (if hlen H + k < hlen H + m then _ else (match fz (hlen H + m) deep _ (.slc (hlen H + k) g 0 n) with | some x => some (V.d x) | none => none)) = _
  rw [if_neg (by omega), show deep = 7 + 1 from rfl, this]
theorem rh_nil {p : Int} (h : hget H r = some (rd bs p)) : H = rh H r bs p [] := by
  unfold rh
  rw [ap_nil, hset_same' h]
theorem rh_ap (l' : Hp) : ap (rh H r bs q l) l' = rh H r bs q ((l : List Ev.Obj) ++ l') := by
  unfold rh; rw [ap_ap]
end
theorem rh_call {H l : Hp} {r : Nat} {bs : List Int} {q q' : Int} {k : Nat} {args : List V} {v : V} (hr : r < hlen H) (h : ev R k args (rh H r bs q l) = some (v, hset (rh H r bs q l) r (rd bs q'))) : ev R k args (rh H r bs q l) = some (v, rh H r bs q' l) := by
  rw [h, rh_move H l r bs q hr]
theorem rh_pick {H l : Hp} {r : Nat} {bs : List Int} {q : Int} (n : Int) (hr : r < hlen H) (hb : okBytes bs) (h0 : 0 ≤ q) (h1 : q ≤ 1000000000000) : ev R 54 [.ptr r 0 0 0, .d (.int .i64 n)] (rh H r bs q l) = some (.d (.int .i64 (pickV bs q n)), rh H r bs (q + 1) l) :=
  rh_call hr (e_54 _ r bs q n (rh_rd H l r bs q hr) hb h0 h1)
theorem rh_of {H l : Hp} {r : Nat} {bs : List Int} {q : Int} (xs : List Txt) (hr : r < hlen H) (hb : okBytes bs) (h0 : 0 ≤ q) (h1 : q ≤ 1000000000000) (hx : 0 < xs.length) : ev R 29 [.ptr r 0 0 0, .d (txts xs)] (rh H r bs q l) = some (.d (.str (ofV bs q xs)), rh H r bs (q + 1) l) :=
  rh_call hr (e_29 _ r bs q xs (rh_rd H l r bs q hr) hb h0 h1 hx)
abbrev ints (ns : List Int) : D := .vals 1 (ns.map (D.int .i64))
def oneV (bs : List Int) (q : Int) (ns : List Int) : Int := ns.getD (pickV bs q ns.length).toNat 0
theorem oneV_mem (bs : List Int) (q : Int) (ns : List Int) (hb : okBytes bs) (h0 : 0 ≤ q) (h1 : q ≤ 1000000000000) (hn : 0 < ns.length) : oneV bs q ns ∈ ns := by
  unfold oneV
  have := pickV_in bs q ns.length hb h0 h1
  have h2 := this.2 (by omega)
  have hi : (pickV bs q ns.length).toNat < ns.length := by omega
  rw [List.getD_eq_getElem?_getD, List.getElem?_eq_getElem hi]
  exact List.getElem_mem hi
theorem e_33 (H : Hp) (r : Nat) (bs : List Int) (p : Int) (ns : List Int) (h : hget H r = some (rd bs p)) (hb : okBytes bs) (hp : 0 ≤ p) (hp2 : p ≤ 1000000000000) (hx : 0 < ns.length) (hx2 : ns.length ≤ 1000000) : ev R 33 [.ptr r 0 0 0, .d (ints ns)] H = some (.d (.int .i64 (oneV bs p ns)), hset H r (rd bs (p + 1))) := by
  refine ev_fn (fn := f33) rfl rfl ?_
  have e := e_54 H r bs p ns.length h hb hp hp2
  obtain ⟨k0, k1⟩ := pickV_in bs p ns.length hb hp hp2
  have k1 := k1 (by omega)
  unfold oneV
  generalize pickV bs p ns.length = z at *
  obtain ⟨k, rfl⟩ := Int.eq_ofNat_of_zero_le k0
  have hk : k < ns.length := by omega
  have g : (ns.map (D.int .i64)).getD k .nilp = .int .i64 (ns.getD k 0) := by simp [List.getD_eq_getElem?_getD, hk]
  simp [evH, -List.getD_eq_getElem?_getD, -List.map_map, f33, e, k0, k1, hk, g, htake_hset]
theorem rh_one {H l : Hp} {r : Nat} {bs : List Int} {q : Int} (ns : List Int) (hr : r < hlen H) (hb : okBytes bs) (h0 : 0 ≤ q) (h1 : q ≤ 1000000000000) (hx : 0 < ns.length) (hx2 : ns.length ≤ 1000000) : ev R 33 [.ptr r 0 0 0, .d (ints ns)] (rh H r bs q l) = some (.d (.int .i64 (oneV bs q ns)), rh H r bs (q + 1) l) :=
  rh_call hr (e_33 _ r bs q ns (rh_rd H l r bs q hr) hb h0 h1 hx hx2)
theorem rh_order {H l : Hp} {r : Nat} {bs : List Int} {q : Int} (hr : r < hlen H) (hb : okBytes bs) (h0 : 0 ≤ q) (h1 : q ≤ 1000000000) :
    ∃ (ts : List Txt) (q' : Int), ev R 81 [.ptr r 0 0 0] (rh H r bs q l) = some (.slc (hlen H + l.length) 0 0 ts.length, rh H r bs q' ((l : List Ev.Obj) ++ [.row 0 1 ((ts.map D.str).map V.d)])) ∧ q ≤ q' ∧ q' ≤ q + 20 ∧ 1 ≤ ts.length ∧ ts.length ≤ 8 ∧ ∀ x ∈ ts, x.length ≤ 40 := by
  obtain ⟨ts, q', he, a, b, c, d, f⟩ := e_81 _ r bs q (rh_rd H l r bs q hr) hb h0 h1
  refine ⟨ts, q', ?_, a, b, c, d, f⟩
  rw [he, rh_move H l r bs q hr, rh_push, rh_len]
  rfl
end Go.Proofs.YtjdmiodinhlchaaGreat.Code
/- The reference: orders to texts. -/
namespace Go.Proofs.YtjdmiodinhlchaaGreat.Code
open Go Go.Ev Go.Proofs
set_option maxRecDepth 100000
set_option maxHeartbeats 2000000
set_option linter.unusedSimpArgs false
set_option linter.unusedVariables false
def intRe (n : Int) : Re := .mk 2 n [] [] []
def textRe (s : Txt) : Re := .mk 3 0 s [] []
def noneRe : Re := .mk 4 0 [] [] []
def textsRe (xs : List Txt) : Re := .mk 5 0 [] xs []
def okRe : Re := .mk 0 0 [] [] []
def pairD (p : Ba × Re) : V := .tup [.d (baD p.1), .d (reD p.2)]
def withText (e : En) (s : Txt) : En := ⟨e.key, e.till, 1, s, e.list, e.scores, e.fields⟩
def rGET (b : Ba) (k : Txt) : Ba × Re := (b, if (rGet b k).kind = 1 then textRe (rGet b k).text else noneRe)
def rSTRLEN (b : Ba) (k : Txt) : Ba × Re := (b, intRe (rGet b k).text.length)
def rSET (b : Ba) (k t : Txt) : Ba × Re := rKeep b ⟨k, 0, 1, t, [], [], []⟩ okRe
def rAPPEND (b : Ba) (k t : Txt) : Ba × Re := if 40 < ((rGet b k).text ++ t).length then (b, errRe [108, 111, 110, 103]) else rKeep b (withText (rGet b k) ((rGet b k).text ++ t)) (intRe ((rGet b k).text ++ t).length)
def subT (s : Txt) (f t : Int) : Txt := (s.take (endsV s.length f t).2.toNat).drop (endsV s.length f t).1.toNat
def rGETRANGE (b : Ba) (k f t : Txt) : Ba × Re := if (intV f).2 = true ∧ (intV t).2 = true then (b, textRe (subT (rGet b k).text (intV f).1 (intV t).1)) else (b, errRe [110, 117, 109, 98, 101, 114])
def rADD (b : Ba) (k y : Txt) : Ba × Re := if (addV (rGet b k).text (decide ((rGet b k).kind = 1)) y).2 = true then rKeep b (withText (rGet b k) (decZ (addV (rGet b k).text (decide ((rGet b k).kind = 1)) y).1)) (intRe (addV (rGet b k).text (decide ((rGet b k).kind = 1)) y).1) else (b, errRe [110, 117, 109, 98, 101, 114])
theorem p_110_GET (b : Ba) (k : Txt) (hb : BaG b) (hk : k.length ≤ 40) : pureCall (ev R) 110 [.d (baD b), .d (txts [[71, 69, 84], k])] = some (pairD (rGET b k)) := pureCall_eq fun H => by
  refine ev_fn (fn := f110) rfl rfl ?_
  have p1 := p_47 b k hb.sm
  unfold rGET
  generalize rGet b k = e at *
  have p2 := p_129
  have p3 := p_130 e.text
  by_cases a : e.kind = 1
  · simp (maxSteps := 1000000) [evL, -List.getD_eq_getElem?_getD, -List.map_map, f110, p1, p2, p3, eq_true a, pairD, textRe, noneRe]
  · simp (maxSteps := 1000000) [evL, -List.getD_eq_getElem?_getD, -List.map_map, f110, p1, p2, p3, eq_false a, pairD, textRe, noneRe]
theorem p_110_STRLEN (b : Ba) (k : Txt) (hb : BaG b) (hk : k.length ≤ 40) : pureCall (ev R) 110 [.d (baD b), .d (txts [[83, 84, 82, 76, 69, 78], k])] = some (pairD (rSTRLEN b k)) := pureCall_eq fun H => by
  refine ev_fn (fn := f110) rfl rfl ?_
  have p1 := p_47 b k hb.sm
  unfold rSTRLEN
  generalize rGet b k = e at *
  have p2 := p_131 e.text.length
  simp (maxSteps := 1000000) [evL, -List.getD_eq_getElem?_getD, -List.map_map, f110, p1, p2, pairD, intRe]
theorem p_110_SET (b : Ba) (k t : Txt) (hb : BaG b) (hk : k.length ≤ 40) (ht : t.length ≤ 40) : pureCall (ev R) 110 [.d (baD b), .d (txts [[83, 69, 84], k, t])] = some (pairD (rSET b k t)) := pureCall_eq fun H => by
  refine ev_fn (fn := f110) rfl rfl ?_
  have p1 := p_47 b k hb.sm
  unfold rSET
  have q : EnQ ⟨k, 0, 1, t, [], [], []⟩ := ⟨by simp; omega, by simp; omega, by simp, by simp, by simp, by simp, by simp, by simp, by simp, by simp⟩
  have p2 := p_132 b ⟨k, 0, 1, t, [], [], []⟩ okRe hb.sm q.sm q.fit
  generalize rKeep b ⟨k, 0, 1, t, [], [], []⟩ okRe = P at *
  unfold okRe at p2
  simp (maxSteps := 1000000) [evL, -List.getD_eq_getElem?_getD, -List.map_map, f110, p1, p2, pairD]
theorem p_110_APPEND (b : Ba) (k t : Txt) (hb : BaG b) (hk : k.length ≤ 40) (ht : t.length ≤ 40) : pureCall (ev R) 110 [.d (baD b), .d (txts [[65, 80, 80, 69, 78, 68], k, t])] = some (pairD (rAPPEND b k t)) := pureCall_eq fun H => by
  refine ev_fn (fn := f110) rfl rfl ?_
  have p1 := p_47 b k hb.sm
  have q := rGet_q hb (t := k) (by omega)
  unfold rAPPEND
  have p4 := p_108 [108, 111, 110, 103]
  generalize rGet b k = e at *
  obtain ⟨key, till, kind, text, list, scores, fields⟩ := e
  obtain ⟨q1, q2, q3, q4, q5, q6, q7, q8, q9, q10⟩ := q
  dsimp only [withText] at *
  have r : text.length + t.length ≤ strRoom := by unfold strRoom; omega
  by_cases a : 40 < (text ++ t).length
  · have a' : (40 : Int) < (text.length : Int) + (t.length : Int) := by rw [List.length_append] at a; omega
    rw [if_pos a]
    simp (maxSteps := 1000000) [evL, -List.getD_eq_getElem?_getD, -List.map_map, f110, p1, p4, a', r, pairD, errRe]
  · have a' : ¬ (40 : Int) < (text.length : Int) + (t.length : Int) := by rw [List.length_append] at a; omega
    rw [if_neg a]
    have q : EnQ ⟨key, till, 1, text ++ t, list, scores, fields⟩ := ⟨q1, by dsimp only; omega, q3, q4, q5, q6, q7, q8, q9, by dsimp only; omega⟩
    have p2 := p_131 ((text.length : Int) + (t.length : Int))
    have p3 := p_132 b _ (intRe (text ++ t).length) hb.sm q.sm q.fit
    generalize rKeep b ⟨key, till, 1, text ++ t, list, scores, fields⟩ (intRe (text ++ t).length) = P at *
    have hc : (((text ++ t).length : Nat) : Int) = (text.length : Int) + (t.length : Int) := by rw [List.length_append]; omega
    rw [hc] at p3
    unfold intRe at p3
    simp (maxSteps := 1000000) [evL, -List.getD_eq_getElem?_getD, -List.map_map, f110, p1, p2, p3, a', r, pairD]
theorem p_110_GETRANGE (b : Ba) (k f t : Txt) (hb : BaG b) (hk : k.length ≤ 40) (hf : f.length ≤ 40) (ht : t.length ≤ 40) : pureCall (ev R) 110 [.d (baD b), .d (txts [[71, 69, 84, 82, 65, 78, 71, 69], k, f, t])] = some (pairD (rGETRANGE b k f t)) := pureCall_eq fun H => by
  refine ev_fn (fn := f110) rfl rfl ?_
  have p1 := p_47 b k hb.sm
  have q := rGet_q hb (t := k) (by omega)
  unfold rGETRANGE
  have p2 := p_133 f (by omega)
  have p3 := p_133 t (by omega)
  have i2 := intV_in f
  have i3 := intV_in t
  have p4 := p_108 [110, 117, 109, 98, 101, 114]
  generalize rGet b k = e at *
  generalize intV f = F at *
  generalize intV t = T at *
  obtain ⟨m, mo⟩ := F
  obtain ⟨n, no⟩ := T
  dsimp only at *
  have p5 := p_134 e.text.length m n (by have := q.text; omega) i2 i3
  obtain ⟨b1, b2, b3⟩ := endsV_in e.text.length m n
  have hr : subT e.text m n = ((e.text.take (endsV e.text.length m n).2.toNat).drop (endsV e.text.length m n).1.toNat) := rfl
  have p6 := p_130 (subT e.text m n)
  generalize (endsV e.text.length m n).1 = x at *
  generalize (endsV e.text.length m n).2 = y at *
  obtain ⟨A, rfl⟩ : ∃ A : Nat, x = (A : Int) := ⟨x.toNat, by omega⟩
  obtain ⟨B, rfl⟩ : ∃ B : Nat, y = (B : Int) := ⟨y.toNat, by omega⟩
  simp only [Int.toNat_natCast] at hr
  have hr := hr.symm
  generalize subT e.text m n = S at *
  have b4 : (0 : Int) ≤ (B : Int) := by omega
  have b5 : A ≤ B := by omega
  have b6 : B ≤ e.text.length := by omega
  cases mo <;> cases no
  · simp (maxSteps := 1000000) [evL, -List.getD_eq_getElem?_getD, -List.map_map, f110, p1, p2, p3, p4, pairD, errRe]
  · simp (maxSteps := 1000000) [evL, -List.getD_eq_getElem?_getD, -List.map_map, f110, p1, p2, p3, p4, pairD, errRe]
  · simp (maxSteps := 1000000) [evL, -List.getD_eq_getElem?_getD, -List.map_map, f110, p1, p2, p3, p4, pairD, errRe]
  · simp (maxSteps := 1000000) [evL, -List.getD_eq_getElem?_getD, -List.map_map, f110, p1, p2, p3, p5, p6, b1, b2, b3, b4, b5, b6, hr, pairD, textRe]
theorem decV_len10p : ∀ (k n : Nat), n < 10 ^ (k + 1) → (decV n).length ≤ k + 1
  | 0, n, h => by
    rw [decV]; split
    · simp
    · omega
  | k + 1, n, h => by
    rw [decV]; split
    · simp
    · have := decV_len10p k (n / 10) (by rw [Nat.pow_succ] at h; omega)
      rw [List.length_append]; simp; omega
theorem decZ_short (z : Int) (h : -1000000000 ≤ z ∧ z ≤ 1000000000) : (decZ z).length ≤ 1000000 := by
  unfold decZ
  split
  · have := decV_len10p 9 z.natAbs (by omega)
    rw [List.length_cons]; omega
  · have := decV_len10p 9 z.toNat (by omega)
    omega
theorem p_83 (z : Int) (h : -1000000000 ≤ z ∧ z ≤ 1000000000) : pureCall (ev R) 83 [.d (.int .i64 z)] = some (.d (.str (decZ z))) := pureCall_eq fun H => e_83z H z h
theorem addV_in (t : Txt) (th : Bool) (y : Txt) : -1000000000 ≤ (addV t th y).1 ∧ (addV t th y).1 ≤ 1000000000 := by
  unfold addV
  split
  · dsimp only; omega
  · by_cases h : (intV y).2 = true ∧ -1000000000 ≤ (if th = true then (intV t).1 else 0) + (intV y).1 ∧ (if th = true then (intV t).1 else 0) + (intV y).1 ≤ 1000000000
    · rw [if_pos h]; exact ⟨h.2.1, h.2.2⟩
    · rw [if_neg h]; dsimp only; omega
theorem p_110_INCR (b : Ba) (k : Txt) (hb : BaG b) (hk : k.length ≤ 40) : pureCall (ev R) 110 [.d (baD b), .d (txts [[73, 78, 67, 82], k])] = some (pairD (rADD b k [49])) := pureCall_eq fun H => by
  refine ev_fn (fn := f110) rfl rfl ?_
  have p1 := p_47 b k hb.sm
  have q := rGet_q hb (t := k) (by omega)
  unfold rADD
  have p4 := p_108 [110, 117, 109, 98, 101, 114]
  generalize rGet b k = e at *
  obtain ⟨key, till, kind, text, list, scores, fields⟩ := e
  obtain ⟨q1, q2, q3, q4, q5, q6, q7, q8, q9, q10⟩ := q
  dsimp only [withText] at *
  have p5 := p_135 text (decide (kind = 1)) [49] q2 (by decide)
  have ai := addV_in text (decide (kind = 1)) [49]
  generalize addV text (decide (kind = 1)) [49] = A at *
  obtain ⟨a, ao⟩ := A
  dsimp only at *
  have p6 := p_83 a ai
  have dl := decZ_short a ai
  have q : EnQ ⟨key, till, 1, decZ a, list, scores, fields⟩ := ⟨q1, dl, q3, q4, q5, q6, q7, q8, q9, by dsimp only; omega⟩
  have p2 := p_131 a
  have p3 := p_132 b _ (intRe a) hb.sm q.sm q.fit
  generalize rKeep b ⟨key, till, 1, decZ a, list, scores, fields⟩ (intRe a) = P at *
  unfold intRe at p3
  cases ao
  · simp (maxSteps := 1000000) [evL, -List.getD_eq_getElem?_getD, -List.map_map, f110, p1, p5, p4, pairD, errRe]
  · simp (maxSteps := 1000000) [evL, -List.getD_eq_getElem?_getD, -List.map_map, f110, p1, p5, p6, p2, p3, pairD]
theorem p_110_INCRBY (b : Ba) (k y : Txt) (hb : BaG b) (hk : k.length ≤ 40) (hy : y.length ≤ 40) : pureCall (ev R) 110 [.d (baD b), .d (txts [[73, 78, 67, 82, 66, 89], k, y])] = some (pairD (rADD b k y)) := pureCall_eq fun H => by
  refine ev_fn (fn := f110) rfl rfl ?_
  have p1 := p_47 b k hb.sm
  have q := rGet_q hb (t := k) (by omega)
  unfold rADD
  have p4 := p_108 [110, 117, 109, 98, 101, 114]
  generalize rGet b k = e at *
  obtain ⟨key, till, kind, text, list, scores, fields⟩ := e
  obtain ⟨q1, q2, q3, q4, q5, q6, q7, q8, q9, q10⟩ := q
  dsimp only [withText] at *
  have p5 := p_135 text (decide (kind = 1)) y q2 (by omega)
  have ai := addV_in text (decide (kind = 1)) y
  generalize addV text (decide (kind = 1)) y = A at *
  obtain ⟨a, ao⟩ := A
  dsimp only at *
  have p6 := p_83 a ai
  have dl := decZ_short a ai
  have q : EnQ ⟨key, till, 1, decZ a, list, scores, fields⟩ := ⟨q1, dl, q3, q4, q5, q6, q7, q8, q9, by dsimp only; omega⟩
  have p2 := p_131 a
  have p3 := p_132 b _ (intRe a) hb.sm q.sm q.fit
  generalize rKeep b ⟨key, till, 1, decZ a, list, scores, fields⟩ (intRe a) = P at *
  unfold intRe at p3
  cases ao
  · simp (maxSteps := 1000000) [evL, -List.getD_eq_getElem?_getD, -List.map_map, f110, p1, p5, p4, pairD, errRe]
  · simp (maxSteps := 1000000) [evL, -List.getD_eq_getElem?_getD, -List.map_map, f110, p1, p5, p6, p2, p3, pairD]
end Go.Proofs.YtjdmiodinhlchaaGreat.Code
/- What lists, sets, scores and fields become: as pairs, and how long they are. -/
namespace Go.Proofs.YtjdmiodinhlchaaGreat.Code
open Go Go.Ev Go.Proofs
set_option maxRecDepth 100000
set_option maxHeartbeats 2000000
set_option linter.unusedSimpArgs false
set_option linter.unusedVariables false
def vPush (xs : List Txt) (f : Bool) (ts : List Txt) : List Txt × Bool := if okTexts xs = true then (if okTexts ts = true ∧ xs.length + ts.length ≤ 16 then (rPush xs f ts, true) else (xs, false)) else ([], false)
def vPop (xs : List Txt) (f : Bool) : List Txt × Txt × Bool := if okTexts xs = true ∧ 0 < xs.length then (if f = true then (xs.tail, xs.getD 0 [], true) else (xs.take (xs.length - 1), xs.getD (xs.length - 1) [], true)) else ([], [], false)
def vSet (xs : List Txt) (k : Int) (t : Txt) : List Txt × Bool := if okTexts xs = true then (match rSet xs k t with | some ys => (ys, true) | none => (xs, false)) else ([], false)
def vDrop (xs : List Txt) (c : Int) (t : Txt) : List Txt × Int := if okTexts xs = true ∧ place c = true then ((rLDrop xs c t).1, (rLDrop xs c t).2) else ([], 0)
def vRange (xs : List Txt) (f t : Int) : List Txt := if okTexts xs = true ∧ place f = true ∧ place t = true then rRange xs f t else []
def vSAdd (xs ts : List Txt) : List Txt × Int × Bool := if setV xs = true then (if okTexts ts = true ∧ (rAll xs ts).length ≤ 16 then (rAll xs ts, (rAll xs ts).length - xs.length, true) else (xs, 0, false)) else ([], 0, false)
def vSDrop (xs ys : List Txt) : List Txt × Int := if setV xs = true then (rLess xs ys, xs.length - (rLess xs ys).length) else ([], 0)
def vBoth (xs ys : List Txt) : List Txt := if setV xs = true ∧ setV ys = true then rBoth xs ys else []
def vAny (xs ys : List Txt) : List Txt := if setV xs = true ∧ setV ys = true then rAll xs ys else []
def vLess (xs ys : List Txt) : List Txt := if setV xs = true ∧ setV ys = true then rLess xs ys else []
def vZPut (xs : List Sc) (x : Sc) : List Sc × Bool × Bool := if scoresV xs = true then (if scoresV (rSPut xs x) = true then (rSPut xs x, decide ((rWithout xs x.1).length = xs.length), true) else (xs, false, false)) else ([], false, false)
def vZDrop (xs : List Sc) (t : Txt) : List Sc × Bool := if scoresV xs = true then (rWithout xs t, decide ((rWithout xs t).length < xs.length)) else ([], false)
def vZAt (xs : List Sc) (f t : Int) : List Sc := if scoresV xs = true ∧ place f = true ∧ place t = true then rScAt xs f t else []
def vFPut (xs : List Pr) (x : Pr) : List Pr × Bool × Bool := if fieldsV xs = true then (if fieldsV (rFPut xs x) = true then (rFPut xs x, !fHas xs x.1, true) else (xs, false, false)) else ([], false, false)
def vFDrop (xs : List Pr) (t : Txt) : List Pr × Bool := if fieldsV xs = true then (if fHas xs t = true then delAt xs (fAt xs t) else xs, fHas xs t) else ([], false)
def vFGet (xs : List Pr) (t : Txt) : Txt × Bool := if fieldsV xs = true ∧ fHas xs t = true then ((xs.getD (fAt xs t) ([], [])).2, true) else ([], false)
theorem v_136 (xs : List Txt) (f : Bool) (ts : List Txt) (hx : xs.length ≤ 1000000) (ht : ts.length ≤ 1000000) : pureCall (ev R) 136 [.d (txts xs), .d (.bool f), .d (txts ts)] = some (.tup [.d (txts (vPush xs f ts).1), .d (.bool (vPush xs f ts).2)]) := by
  rw [p_136 xs f ts hx ht]; unfold vPush; split <;> (try split) <;> rfl
theorem v_137 (xs : List Txt) (f : Bool) (hx : xs.length ≤ 1000000) : pureCall (ev R) 137 [.d (txts xs), .d (.bool f)] = some (.tup [.d (txts (vPop xs f).1), .d (.str (vPop xs f).2.1), .d (.bool (vPop xs f).2.2)]) := by
  rw [p_137 xs f hx]; unfold vPop; split <;> (try split) <;> rfl
theorem v_138 (xs : List Txt) (k : Int) (t : Txt) (hx : xs.length ≤ 1000000) (hk : In64 k) : pureCall (ev R) 138 [.d (txts xs), .d (.int .i64 k), .d (.str t)] = some (.tup [.d (txts (vSet xs k t).1), .d (.bool (vSet xs k t).2)]) := by
  rw [p_138 xs k t hx hk]; unfold vSet; cases okTexts xs <;> cases rSet xs k t <;> rfl
theorem v_139 (xs : List Txt) (c : Int) (t : Txt) (hx : xs.length ≤ 1000000) : pureCall (ev R) 139 [.d (txts xs), .d (.int .i64 c), .d (.str t)] = some (.tup [.d (txts (vDrop xs c t).1), .d (.int .i64 (vDrop xs c t).2)]) := by
  rw [p_139 xs c t hx]; unfold vDrop; split <;> (try split) <;> rfl
theorem v_140 (xs : List Txt) (f t : Int) (hx : xs.length ≤ 1000000) : pureCall (ev R) 140 [.d (txts xs), .d (.int .i64 f), .d (.int .i64 t)] = some (.d (txts (vRange xs f t))) := p_140 xs f t hx
theorem v_142 (xs ts : List Txt) (hx : xs.length ≤ 500000) (ht : ts.length ≤ 500000) : pureCall (ev R) 142 [.d (txts xs), .d (txts ts)] = some (.tup [.d (txts (vSAdd xs ts).1), .d (.int .i64 (vSAdd xs ts).2.1), .d (.bool (vSAdd xs ts).2.2)]) := by
  rw [p_142 xs ts hx ht]; unfold vSAdd; split <;> (try split) <;> rfl
theorem v_143 (xs ys : List Txt) (hx : xs.length ≤ 1000000) (hy : ys.length ≤ 1000000) : pureCall (ev R) 143 [.d (txts xs), .d (txts ys)] = some (.tup [.d (txts (vSDrop xs ys).1), .d (.int .i64 (vSDrop xs ys).2)]) := by
  rw [p_143 xs ys hx hy]; unfold vSDrop; split <;> (try split) <;> rfl
theorem v_146 (xs ys : List Txt) (hx : xs.length ≤ 1000000) (hy : ys.length ≤ 1000000) : pureCall (ev R) 146 [.d (txts xs), .d (txts ys)] = some (.d (txts (vBoth xs ys))) := p_146 xs ys hx hy
theorem v_147 (xs ys : List Txt) (hx : xs.length ≤ 500000) (hy : ys.length ≤ 500000) : pureCall (ev R) 147 [.d (txts xs), .d (txts ys)] = some (.d (txts (vAny xs ys))) := p_147 xs ys hx hy
theorem v_148 (xs ys : List Txt) (hx : xs.length ≤ 1000000) (hy : ys.length ≤ 1000000) : pureCall (ev R) 148 [.d (txts xs), .d (txts ys)] = some (.d (txts (vLess xs ys))) := p_148 xs ys hx hy
theorem v_126 (xs : List Sc) (x : Sc) (hx : xs.length ≤ 1000000) : pureCall (ev R) 126 [.d (scs xs), .d (scD x)] = some (.tup [.d (scs (vZPut xs x).1), .d (.bool (vZPut xs x).2.1), .d (.bool (vZPut xs x).2.2)]) := by
  rw [p_126 xs x hx]; unfold vZPut; split <;> (try split) <;> rfl
theorem v_149 (xs : List Sc) (t : Txt) (hx : xs.length ≤ 1000000) : pureCall (ev R) 149 [.d (scs xs), .d (.str t)] = some (.tup [.d (scs (vZDrop xs t).1), .d (.bool (vZDrop xs t).2)]) := by
  rw [p_149 xs t hx]; unfold vZDrop; split <;> (try split) <;> rfl
theorem v_152 (xs : List Sc) (f t : Int) (hx : xs.length ≤ 1000000) : pureCall (ev R) 152 [.d (scs xs), .d (.int .i64 f), .d (.int .i64 t)] = some (.d (scs (vZAt xs f t))) := p_152 xs f t hx
theorem v_105 (xs : List Pr) (x : Pr) (hx : xs.length ≤ 1000000) : pureCall (ev R) 105 [.d (prs xs), .d (prD x)] = some (.tup [.d (prs (vFPut xs x).1), .d (.bool (vFPut xs x).2.1), .d (.bool (vFPut xs x).2.2)]) := by
  rw [p_105 xs x hx]; unfold vFPut; split <;> (try split) <;> rfl
theorem v_155 (xs : List Pr) (t : Txt) (hx : xs.length ≤ 1000000) : pureCall (ev R) 155 [.d (prs xs), .d (.str t)] = some (.tup [.d (prs (vFDrop xs t).1), .d (.bool (vFDrop xs t).2)]) := by
  rw [p_155 xs t hx]; unfold vFDrop; split <;> (try split) <;> rfl
theorem v_154 (xs : List Pr) (t : Txt) (hx : xs.length ≤ 1000000) : pureCall (ev R) 154 [.d (prs xs), .d (.str t)] = some (.tup [.d (.str (vFGet xs t).1), .d (.bool (vFGet xs t).2)]) := by
  rw [p_154 xs t hx]; unfold vFGet; split <;> (try split) <;> rfl
/-! ### How long they are -/
def TxQ (xs : List Txt) : Prop := xs.length ≤ 1000 ∧ ∀ x ∈ xs, x.length ≤ 1000000
theorem TxQ.nil : TxQ [] := ⟨by simp, by simp⟩
theorem TxQ.of {xs ys : List Txt} (h : TxQ xs) (hl : ys.length ≤ xs.length) (hm : ∀ y ∈ ys, y ∈ xs) : TxQ ys := ⟨Nat.le_trans hl h.1, fun y hy => h.2 y (hm y hy)⟩
theorem vPush_q (xs : List Txt) (f : Bool) (ts : List Txt) (hx : TxQ xs) : TxQ (vPush xs f ts).1 := by
  unfold vPush
  split
  · split
    · rename_i h1 h2
      refine ⟨?_, fun x hm => ?_⟩
      · cases f <;> simp [rPush] <;> omega
      · have : x ∈ xs ∨ x ∈ ts := by
          cases f <;> simp [rPush] at hm
          · exact hm
          · exact hm.symm
        rcases this with h | h
        · have := okTexts_each h1 x h; omega
        · have := okTexts_each h2.1 x h; omega
    · exact hx
  · exact TxQ.nil
theorem vPop_q (xs : List Txt) (f : Bool) (hx : TxQ xs) : TxQ (vPop xs f).1 := by
  unfold vPop
  split
  · split
    · exact hx.of (by simp) fun y hy => List.mem_of_mem_tail hy
    · exact hx.of (by simp) fun y hy => List.mem_of_mem_take hy
  · exact TxQ.nil
theorem vSet_q (xs : List Txt) (k : Int) (t : Txt) (hx : TxQ xs) : TxQ (vSet xs k t).1 := by
  unfold vSet
  split
  · split
    · rename_i ys hy
      unfold rSet at hy
      split at hy
      · rename_i h
        simp only [Option.some.injEq] at hy
        subst hy
        refine ⟨by rw [List.length_set]; exact hx.1, fun y hy => ?_⟩
        rcases List.mem_or_eq_of_mem_set hy with h1 | h1
        · exact hx.2 y h1
        · subst h1; have := h.2.1; omega
      · simp at hy
    · exact hx
  · exact TxQ.nil
theorem dropAll_mem (xs : List Txt) (t : Txt) (c m : Int) : (dropAll xs t c m).1.length ≤ xs.length ∧ ∀ y ∈ (dropAll xs t c m).1, y ∈ xs := by
  unfold dropAll
  have key : ∀ (n i : Nat) (s : List Txt × Nat), i + n = xs.length → s.1.length ≤ i → (∀ y ∈ s.1, y ∈ xs) → ((List.range' i n).foldl (fun s i => dropStep xs t c m i s) s).1.length ≤ xs.length ∧ ∀ y ∈ ((List.range' i n).foldl (fun s i => dropStep xs t c m i s) s).1, y ∈ xs := by
    intro n
    induction n with
    | zero => intro i s h1 h2 h3; exact ⟨by simp only [List.range'_zero, List.foldl_nil]; omega, h3⟩
    | succ n ih =>
      intro i s h1 h2 h3
      rw [List.range'_succ, List.foldl_cons]
      refine ih (i + 1) _ (by omega) ?_ ?_
      · unfold dropStep
        split
        · dsimp only; omega
        · dsimp only; rw [List.length_append]; simp; omega
      · unfold dropStep
        split
        · exact h3
        · intro y hy
          simp only [List.mem_append, List.mem_singleton] at hy
          rcases hy with hy | rfl
          · exact h3 y hy
          · exact getD_in (by omega)
  exact key xs.length 0 ([], 0) (by omega) (by simp) (by simp)
theorem vDrop_q (xs : List Txt) (c : Int) (t : Txt) (hx : TxQ xs) : TxQ (vDrop xs c t).1 := by
  unfold vDrop
  split
  · unfold rLDrop
    split
    · have := dropAll_mem xs.reverse t c (-c)
      refine hx.of ?_ fun y hy => ?_
      · simpa using this.1
      · have := this.2 y (by simpa using hy)
        simpa using this
    · have := dropAll_mem xs t c c
      exact hx.of this.1 this.2
  · exact TxQ.nil
theorem vRange_q (xs : List Txt) (f t : Int) (hx : TxQ xs) : TxQ (vRange xs f t) := by
  unfold vRange
  split
  · unfold rRange
    refine hx.of ?_ fun y hy => ?_
    · rw [List.length_drop, List.length_take]; omega
    · exact List.mem_of_mem_take (List.mem_of_mem_drop hy)
  · exact TxQ.nil
theorem rPut_mem {xs : List Txt} {t y : Txt} (h : y ∈ rPut xs t) : y = t ∨ y ∈ xs := by
  unfold rPut at h
  split at h
  · exact .inr h
  · exact insAt_mem h
theorem rAll_mem : ∀ {ts xs : List Txt} {y : Txt}, y ∈ rAll xs ts → y ∈ xs ∨ y ∈ ts
  | [], xs, y, h => .inl h
  | t :: ts, xs, y, h => by
    have h : y ∈ rAll (rPut xs t) ts := h
    rcases rAll_mem h with h1 | h1
    · rcases rPut_mem h1 with rfl | h2
      · exact .inr (by simp)
      · exact .inl h2
    · exact .inr (by simp [h1])
theorem vSAdd_q (xs ts : List Txt) (hx : TxQ xs) : TxQ (vSAdd xs ts).1 := by
  unfold vSAdd
  split
  · split
    · rename_i h1 h2
      refine ⟨by dsimp only; omega, fun y hy => ?_⟩
      rcases rAll_mem hy with h | h
      · exact hx.2 y h
      · have := okTexts_each h2.1 y h; omega
    · exact hx
  · exact TxQ.nil
theorem vSDrop_q (xs ys : List Txt) (hx : TxQ xs) : TxQ (vSDrop xs ys).1 := by
  unfold vSDrop
  split
  · exact hx.of (List.length_filter_le _ _) fun y hy => (List.mem_filter.1 hy).1
  · exact TxQ.nil
def ScQ (xs : List Sc) : Prop := xs.length ≤ 1000 ∧ ∀ x ∈ xs, x.1.length ≤ 1000000 ∧ -2000000000 ≤ x.2 ∧ x.2 ≤ 2000000000
theorem ScQ.nil : ScQ [] := ⟨by simp, by simp⟩
theorem ScQ.of {xs ys : List Sc} (h : ScQ xs) (hl : ys.length ≤ xs.length) (hm : ∀ y ∈ ys, y ∈ xs) : ScQ ys := ⟨Nat.le_trans hl h.1, fun y hy => h.2 y (hm y hy)⟩
theorem vZPut_q (xs : List Sc) (x : Sc) (hx : ScQ xs) : ScQ (vZPut xs x).1 := by
  unfold vZPut
  split
  · split
    · rename_i h1 h2
      have := scoresV_in h2
      exact ⟨by dsimp only; omega, fun y hy => by have := this.2 y hy; omega⟩
    · exact hx
  · exact ScQ.nil
theorem vZDrop_q (xs : List Sc) (t : Txt) (hx : ScQ xs) : ScQ (vZDrop xs t).1 := by
  unfold vZDrop
  split
  · exact hx.of (List.length_filter_le _ _) fun y hy => (List.mem_filter.1 hy).1
  · exact ScQ.nil
theorem vZAt_q (xs : List Sc) (f t : Int) (hx : ScQ xs) : ScQ (vZAt xs f t) := by
  unfold vZAt
  split
  · unfold rScAt
    refine hx.of ?_ fun y hy => ?_
    · rw [List.length_drop, List.length_take]; omega
    · exact List.mem_of_mem_take (List.mem_of_mem_drop hy)
  · exact ScQ.nil
theorem rBy_q (xs : List Sc) (f t : Int) (hx : ScQ xs) : ScQ (rBy xs f t) := by
  unfold rBy
  split
  · exact hx.of (List.length_filter_le _ _) fun y hy => (List.mem_filter.1 hy).1
  · exact ScQ.nil
def PrQ (xs : List Pr) : Prop := xs.length ≤ 1000 ∧ ∀ x ∈ xs, x.1.length ≤ 1000000 ∧ x.2.length ≤ 1000000
theorem PrQ.nil : PrQ [] := ⟨by simp, by simp⟩
theorem PrQ.of {xs ys : List Pr} (h : PrQ xs) (hl : ys.length ≤ xs.length) (hm : ∀ y ∈ ys, y ∈ xs) : PrQ ys := ⟨Nat.le_trans hl h.1, fun y hy => h.2 y (hm y hy)⟩
theorem vFPut_q (xs : List Pr) (x : Pr) (hx : PrQ xs) : PrQ (vFPut xs x).1 := by
  unfold vFPut
  split
  · split
    · rename_i h1 h2
      have := fieldsV_in h2
      exact ⟨by dsimp only; omega, fun y hy => by have := this.2 y hy; omega⟩
    · exact hx
  · exact PrQ.nil
theorem delAt_mem {α : Type} {xs : List α} {k : Nat} {y : α} (h : y ∈ delAt xs k) : y ∈ xs := by
  unfold delAt at h
  rw [List.mem_append] at h
  rcases h with h | h
  · exact List.mem_of_mem_take h
  · exact List.mem_of_mem_drop h
theorem delAt_le {α : Type} (xs : List α) (k : Nat) : (delAt xs k).length ≤ xs.length := by
  unfold delAt
  rw [List.length_append, List.length_take, List.length_drop]; omega
theorem vFDrop_q (xs : List Pr) (t : Txt) (hx : PrQ xs) : PrQ (vFDrop xs t).1 := by
  unfold vFDrop
  split
  · dsimp only
    split
    · exact hx.of (delAt_le _ _) fun y hy => delAt_mem hy
    · exact hx
  · exact PrQ.nil
end Go.Proofs.YtjdmiodinhlchaaGreat.Code

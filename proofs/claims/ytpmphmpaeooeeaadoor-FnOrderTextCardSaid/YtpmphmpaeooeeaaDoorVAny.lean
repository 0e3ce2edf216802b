/- Any order, drawn; lists of texts compared. -/
import Derived.Test.YtpmphmpaeooeeaaDoorVPutImpl
namespace Go.Proofs.YtpmphmpaeooeeaaDoor.Code
open Go Go.Ev Go.Proofs
set_option maxRecDepth 100000
set_option linter.unusedSimpArgs false
set_option linter.unusedVariables false
theorem l17 (n0 : Nat) (xs : List Txt) (hx : xs.length ≤ 9223372036854775807) (ys : List Txt) (hy : ys.length = xs.length) (H : Hp) : ∀ (n i : Nat) (e : Env), i + n = xs.length → e.get 0 = .d (txts xs) → e.get 1 = .d (txts ys) → e.get 5 = .d (.int .i64 i) →
    ∃ e', evLoop (evCode (ev R) R.glob n0 evLoop f17l0) [0, 1, 5] ⟨e, H⟩ = some ((match seek (differ xs ys) n i with | some _ => .ret | none => .exit 0), ⟨e', H⟩) ∧
      (∀ j, seek (differ xs ys) n i = some j → e'.get 4 = .d (.bool false))
  | 0, i, e, hn, h0, h1, h5 => by
    have c : ¬ (i : Int) < (xs.length : Int) := by omega
    have c' : ¬ i < xs.length := by omega
    have gy : i < ys.length → (ys.map D.str).getD i .nilp = .str (ys.getD i []) := fun h => txts_get ys i h
    rw [evLoop_eq]
    refine ⟨?_, ?_, ?_⟩
    rotate_left
    · simp [-List.getD_eq_getElem?_getD, -List.map_map, evBody, evCode, evOps, evOper, evOp, opd, Env.get, Env.put, Env.keep, zipEnv, V.ok, V.sto, V.cells, D.cells, V.isAgg, binD, binInt, binStr, shInt, unD, eqOf, asI, leave, resOf, mapO, fzV, tupOf, view, view1, isData, hand, flatV, flatD, allD, mkAgg, mkVal, beq_lit, IntKind.bits, htake_self, htake_push, hget_hpush_self, hset_push, rowOf_self, okIn, lowIn, lowIn1, fzC_d, fzC_row, f17l0, h0, h1, h5, txts, c, c', seek, hy, gy]
      rfl
    · intro j hj; simp [seek] at hj
  | n + 1, i, e, hn, h0, h1, h5 => by
    have c : (i : Int) < (xs.length : Int) := by omega
    have c' : i < xs.length := by omega
    have g := txts_get xs i c'
    have w1 : IntKind.i64.wrap ((i : Int) + 1) = ((i + 1 : Nat) : Int) := by rw [IntWalk.i64_in _ (by omega)]; rfl
    have gy : i < ys.length → (ys.map D.str).getD i .nilp = .str (ys.getD i []) := fun h => txts_get ys i h
    have ih := l17 n0 xs hx ys hy H n (i + 1)
    rw [evLoop_eq]
    generalize evLoop (evCode (ev R) R.glob n0 evLoop f17l0) [0, 1, 5] = F at ih ⊢
    by_cases hb : ¬ xs.getD i [] = ys.getD i []
    · skip
      refine ⟨?_, ?_, ?_⟩
      rotate_left
      · simp [-List.getD_eq_getElem?_getD, -List.map_map, evBody, evCode, evOps, evOper, evOp, opd, Env.get, Env.put, Env.keep, zipEnv, V.ok, V.sto, V.cells, D.cells, V.isAgg, binD, binInt, binStr, shInt, unD, eqOf, asI, leave, resOf, mapO, fzV, tupOf, view, view1, isData, hand, flatV, flatD, allD, mkAgg, mkVal, beq_lit, IntKind.bits, htake_self, htake_push, hget_hpush_self, hset_push, rowOf_self, okIn, lowIn, lowIn1, fzC_d, fzC_row, f17l0, h0, h1, h5, txts, c, c', g, seek, differ, hb, hy, gy]
        rfl
      · intro j hj
        simp [seek, differ, hb, -List.getD_eq_getElem?_getD] at hj
        try subst hj
        simp [-List.getD_eq_getElem?_getD, -List.map_map, evBody, evCode, evOps, evOper, evOp, opd, Env.get, Env.put, Env.keep, zipEnv, V.ok, V.sto, V.cells, D.cells, V.isAgg, binD, binInt, binStr, shInt, unD, eqOf, asI, leave, resOf, mapO, fzV, tupOf, view, view1, isData, hand, flatV, flatD, allD, mkAgg, mkVal, beq_lit, IntKind.bits, htake_self, htake_push, hget_hpush_self, hset_push, rowOf_self, okIn, lowIn, lowIn1, fzC_d, fzC_row]
    · rw [Classical.not_not] at hb
      have hs : seek (differ xs ys) (n + 1) i = seek (differ xs ys) n (i + 1) := by simp [seek, differ, hb, -List.getD_eq_getElem?_getD]
      rw [hs]
      simp [-List.getD_eq_getElem?_getD, -List.map_map, evBody, evCode, evOps, evOper, evOp, opd, Env.get, Env.put, Env.keep, zipEnv, V.ok, V.sto, V.cells, D.cells, V.isAgg, binD, binInt, binStr, shInt, unD, eqOf, asI, leave, resOf, mapO, fzV, tupOf, view, view1, isData, hand, flatV, flatD, allD, mkAgg, mkVal, beq_lit, IntKind.bits, htake_self, htake_push, hget_hpush_self, hset_push, rowOf_self, okIn, lowIn, lowIn1, fzC_d, fzC_row, f17l0, h0, h1, h5, txts, c, c', g, w1, hb, hy, gy]
      refine ih _ (by omega) ?_ ?_ ?_ <;> rfl
theorem e17_same (H : Hp) (xs : List Txt) (hx : xs.length ≤ 9223372036854775807) : ev R 17 [.d (txts xs), .d (txts xs)] H = some (.d (.bool true), H) := by
  refine ev_fn (fn := f17) rfl rfl ?_
  obtain ⟨e', he, h1⟩ := l17 (hlen H) xs hx xs rfl H xs.length 0 [(0, .d (txts xs)), (1, .d (txts xs)), (5, .d (.int .i64 0))] (by omega) rfl rfl rfl
  have hr : seek (differ xs xs) xs.length 0 = none := by
    cases hr : seek (differ xs xs) xs.length 0 with
    | none => rfl
    | some j =>
      have := (seek_some hr).2.2.1
      simp [differ] at this
  simp only [hr] at he
  simp [-List.getD_eq_getElem?_getD, -List.map_map, evBody, evCode, evOps, evOper, evOp, opd, Env.get, Env.put, Env.keep, zipEnv, V.ok, V.sto, V.cells, D.cells, V.isAgg, binD, binInt, binStr, shInt, unD, eqOf, asI, leave, resOf, mapO, fzV, tupOf, view, view1, isData, hand, flatV, flatD, allD, mkAgg, mkVal, beq_lit, IntKind.bits, htake_self, htake_push, hget_hpush_self, hset_push, rowOf_self, okIn, lowIn, lowIn1, fzC_d, fzC_row, f17, he]
def r38a : ACode := (.reg false [⟨some 2, none, .mv (.nil 1)⟩])
def r38b : ACode := (.reg false [⟨some 4, none, .mv (.t 0)⟩,
  ⟨some 5, none, .call (.f 44) [(false, .t 4)] false⟩,
  ⟨some 3, none, .mv (.t 5)⟩])
def p38 : ACode := (.seq (.reg false [⟨some 6, none, .mv (.t 3)⟩,
  ⟨some 7, none, .len false (.t 6)⟩,
  ⟨some 8, none, .bin .eql .val (.t 7) (.c (.int .i64 (3)))⟩,
  ⟨some 9, none, .mv (.t 8)⟩,
  ⟨some 10, some (9, true), .mv (.t 0)⟩,
  ⟨some 11, some (9, true), .call (.f 45) [(false, .t 10), (false, .c (.int .i64 (2)))] false⟩,
  ⟨some 12, some (9, true), .bin .eql .val (.t 11) (.c (.int .i64 (0)))⟩,
  ⟨some 13, none, .pick (.t 9) (.t 12) (.c (.bool false))⟩,
  ⟨some 14, none, .mv (.t 13)⟩,
  ⟨some 15, some (14, true), .mv (.t 3)⟩,
  ⟨some 16, some (14, true), .iaddr 1 (.t 15) (.c (.int .i64 (0)))⟩,
  ⟨some 17, some (14, true), .load false 1 (.t 16)⟩,
  ⟨some 18, some (14, true), .bin .eql .val (.t 17) (.c (.str [68, 66, 83, 73, 90, 69]))⟩,
  ⟨some 19, some (14, true), .mv (.t 18)⟩,
  ⟨some 20, some (19, false), .mv (.t 3)⟩,
  ⟨some 21, some (19, false), .iaddr 1 (.t 20) (.c (.int .i64 (0)))⟩,
  ⟨some 22, some (19, false), .load false 1 (.t 21)⟩,
  ⟨some 23, some (19, false), .bin .eql .val (.t 22) (.c (.str [70, 76, 85, 83, 72]))⟩,
  ⟨some 24, some (14, true), .pick (.t 19) (.c (.bool true)) (.t 23)⟩,
  ⟨some 25, none, .pick (.t 14) (.t 24) (.c (.bool false))⟩]) [0, 3, 25]
 (.cond (.t 25) (.reg false [⟨some 26, none, .mv (.t 3)⟩,
  ⟨some 27, none, .slice (some 1) (.t 26) none (some (.c (.int .i64 (1))))⟩,
  ⟨some 3, none, .mv (.t 27)⟩]) (.skip)))
def s38 : ACode := (.seq (.seq (.reg false [⟨some 28, none, .mv (.t 0)⟩,
  ⟨some 29, none, .call (.f 45) [(false, .t 28), (false, .c (.int .i64 (24)))] false⟩]) [0, 3, 29]
 (.block 0 (.seq (.reg false [⟨some 31, none, .bin .eql .val (.t 29) (.c (.int .i64 (0)))⟩,
  ⟨some 30, none, .mv (.t 31)⟩]) [0, 3, 29, 30]
 (.cond (.t 30) (.reg false [⟨some 32, none, .mv (.t 3)⟩,
  ⟨some 33, none, .mv (.t 0)⟩,
  ⟨some 34, none, .mv (.t 3)⟩,
  ⟨some 35, none, .len false (.t 34)⟩,
  ⟨some 36, none, .call (.f 45) [(false, .t 33), (false, .t 35)] false⟩,
  ⟨some 37, none, .slice (some 1) (.t 32) none (some (.t 36))⟩,
  ⟨some 3, none, .mv (.t 37)⟩]) (.seq (.reg false [⟨some 39, none, .bin .eql .val (.t 29) (.c (.int .i64 (1)))⟩,
  ⟨some 38, none, .mv (.t 39)⟩]) [0, 3, 29, 38]
 (.cond (.t 38) (.reg false [⟨some 40, none, .mv (.t 3)⟩,
  ⟨some 41, none, .lit false 1 [.c (.str [109, 111, 114, 101]), .c (.str [109, 111, 114, 101]), .c (.str [109, 111, 114, 101]), .c (.str [109, 111, 114, 101]), .c (.str [109, 111, 114, 101]), .c (.str [109, 111, 114, 101])]⟩,
  ⟨some 42, none, .append 1 16 (.t 40) (.t 41)⟩,
  ⟨some 3, none, .mv (.t 42)⟩]) (.seq (.reg false [⟨some 44, none, .bin .eql .val (.t 29) (.c (.int .i64 (2)))⟩,
  ⟨some 43, none, .mv (.t 44)⟩]) [0, 3, 29, 43]
 (.cond (.t 43) (.reg false [⟨some 45, none, .mv (.t 3)⟩,
  ⟨some 46, none, .mv (.t 0)⟩,
  ⟨some 47, none, .lit false 1 [.c (.str [103, 101, 116]), .c (.str [70, 76, 85, 83, 72]), .c (.str [])]⟩,
  ⟨some 48, none, .call (.f 67) [(false, .t 46), (false, .t 47)] false⟩,
  ⟨some 49, none, .iaddr 1 (.t 45) (.c (.int .i64 (0)))⟩,
  ⟨none, none, .store 1 (.t 49) (.t 48)⟩]) (.seq (.reg false [⟨some 51, none, .bin .eql .val (.t 29) (.c (.int .i64 (3)))⟩,
  ⟨some 50, none, .mv (.t 51)⟩]) [0, 3, 50]
 (.cond (.t 50) (.reg false [⟨some 52, none, .mv (.t 0)⟩,
  ⟨some 53, none, .lit false 1 [.c (.str [68, 66, 83, 73, 90, 69]), .c (.str [70, 76, 85, 83, 72])]⟩,
  ⟨some 54, none, .call (.f 67) [(false, .t 52), (false, .t 53)] false⟩,
  ⟨some 55, none, .lit false 1 [.t 54]⟩,
  ⟨some 3, none, .mv (.t 55)⟩]) (.skip))))))))))) [3]
 (.seq (.reg false [⟨some 56, none, .mv (.t 3)⟩,
  ⟨some 2, none, .mv (.t 56)⟩]) [2]
 (.ret)))
theorem f38_is : f38.body = .seq r38a [0] (.seq r38b [0, 3] (.seq p38 [0, 3] s38)) := rfl
theorem evCode_seq (n0 : Nat) (a : ACode) (lv : List Nat) (b : ACode) (st : St) : evCode (ev R) R.glob n0 evLoop (.seq a lv b) st = (match evCode (ev R) R.glob n0 evLoop a st with
    | some (.normal, st') => evCode (ev R) R.glob n0 evLoop b ⟨st'.env.keep lv, st'.hp⟩
    | r => r) := rfl
/-- A list that lies behind the reader. -/
def behind (H : Hp) (r : Nat) (bs : List Int) (q : Int) (ts : List Txt) : Hp := hpush (hset H r (rd bs q)) (rowT 0 ts)
theorem behind_row (H : Hp) (r : Nat) (bs : List Int) (q : Int) (ts : List Txt) : rowOf (behind H r bs q ts) (hlen H) 0 = some (1, (ts.map D.str).map V.d) := rowT_row (hlen_hset _ _ _).symm
theorem behind_load (H : Hp) (r : Nat) (bs : List Int) (q : Int) (ts : List Txt) (i : Nat) (hi : i < ts.length) : hload (behind H r bs q ts) (hlen H) 0 i 0 1 = some [.d (.str (ts.getD i []))] := by
  simp [hload, behind_row, hi, V.cells, D.cells]
theorem behind_of (H : Hp) (r : Nat) (bs : List Int) (q q' : Int) (ts xs : List Txt) {o : Ev.Obj} (h : hget H r = some o) (hb : okBytes bs) (hq : 0 ≤ q) (hq2 : q ≤ 100000000000) (hq' : q' = q + 1) (hx : 0 < xs.length) (hm : ∀ x ∈ xs, x.length ≤ 40) :
    ∃ t : Txt, t.length ≤ 40 ∧ ev R 67 [.ptr r 0 0 0, .d (txts xs)] (behind H r bs q ts) = some (.d (.str t), behind H r bs q' ts) := by
  subst hq'
  have hr := hget_lt h
  have hg : hget (behind H r bs q ts) r = some (rd bs q) := by
    unfold behind
    rw [hget_hpush_lt _ (by rw [hlen_hset]; exact hr), hget_hset_self _ hr]
  have e := e67 (behind H r bs q ts) r bs q xs hg hb hq (by omega) hx
  refine ⟨_, ofV_all bs q xs 40 hm, ?_⟩
  rw [e]
  congr 2
  unfold behind
  rw [hset_push_lt (by rw [hlen_hset]; exact hr), hset_hset]
theorem behind_pick (H : Hp) (r : Nat) (bs : List Int) (q q' n : Int) (ts : List Txt) {o : Ev.Obj} (h : hget H r = some o) (hb : okBytes bs) (hq : 0 ≤ q) (hq2 : q ≤ 100000000000) (hq' : q' = q + 1) :
    ev R 45 [.ptr r 0 0 0, .d (.int .i64 n)] (behind H r bs q ts) = some (.d (.int .i64 (pickV bs q n)), behind H r bs q' ts) := by
  subst hq'
  have hr := hget_lt h
  have hg : hget (behind H r bs q ts) r = some (rd bs q) := by
    unfold behind
    rw [hget_hpush_lt _ (by rw [hlen_hset]; exact hr), hget_hset_self _ hr]
  rw [e45 (behind H r bs q ts) r bs q n hg hb hq (by omega)]
  congr 2
  unfold behind
  rw [hset_push_lt (by rw [hlen_hset]; exact hr), hset_hset]
theorem behind_fz (H : Hp) (r : Nat) (bs : List Int) (q : Int) (g : Nat) (ts : List Txt) (k : Nat) (hk : k ≤ ts.length) : fzC (hlen H) (hpush (hset H r (rd bs q)) (.row g 1 ((ts.map D.str).map V.d))) (.slc (hlen H) g 0 k) = some (.d (txts (ts.take k))) := by
  have hl := hlen_hset H r (rd bs q)
  rw [← hl, fzC_row_part _ g 1 (ts.map D.str) k (by simpa using hk)]
  simp [txts]
theorem behind_take (H : Hp) (r : Nat) (bs : List Int) (q : Int) (o : Ev.Obj) : htake (hpush (hset H r (rd bs q)) o) (hlen H) = hset H r (rd bs q) := by
  have hl := hlen_hset H r (rd bs q)
  rw [← hl]
  exact htake_push _ _
theorem behind_set (H : Hp) (r : Nat) (bs : List Int) (q : Int) (ts : List Txt) (o : Ev.Obj) : hset (behind H r bs q ts) (hlen H) o = hpush (hset H r (rd bs q)) o := by
  have hl := hlen_hset H r (rd bs q)
  unfold behind
  rw [← hl]
  exact hset_push _ _ _
theorem st38p (H : Hp) (r : Nat) (bs : List Int) (q : Int) (ts : List Txt) {o : Ev.Obj} (h : hget H r = some o) (hb : okBytes bs) (hq : 0 ≤ q) (hq2 : q ≤ 1000000000) (h1 : 1 ≤ ts.length) (h8 : ts.length ≤ 8) (e : Env) (g0 : e.get 0 = .ptr r 0 0 0) (g3 : e.get 3 = .slc (hlen H) 0 0 ts.length) :
    ∃ e' q' n1, evCode (ev R) R.glob (hlen H) evLoop p38 ⟨e, behind H r bs q ts⟩ = some (.normal, ⟨e', behind H r bs q' ts⟩) ∧ e'.get 0 = .ptr r 0 0 0 ∧ e'.get 3 = .slc (hlen H) 0 0 n1 ∧ q ≤ q' ∧ q' ≤ q + 1 ∧ (n1 = ts.length ∨ (n1 = 1 ∧ ts.length = 3)) := by
  obtain ⟨q1, hq1⟩ : ∃ x, x = q + 1 := ⟨_, rfl⟩
  have a := behind_pick H r bs q q1 2 ts h hb hq (by omega) hq1
  generalize pickV bs q 2 = c at a
  have b := behind_load H r bs q1 ts 0 (by omega)
  have rw1 := behind_row H r bs q1 ts
  have l0 : 0 < ts.length := h1
  have l0' : (0 : Int) < (ts.length : Int) := by omega
  by_cases n3 : ts.length = 3
  · have n3' : (ts.length : Int) = 3 := by omega
    have le1 : (1 : Int) ≤ (ts.length : Int) := by omega
    by_cases c0 : c = 0
    · subst c0
      by_cases d1 : ts.getD 0 [] = [68, 66, 83, 73, 90, 69]
      · refine ⟨?_, q1, 1, ?_, ?_, ?_, by omega, by omega, .inr ⟨rfl, n3⟩⟩
        rotate_left
        · simp [-List.getD_eq_getElem?_getD, -List.map_map, evBody, evCode, evOps, evOper, evOp, opd, Env.get, Env.put, Env.keep, zipEnv, V.ok, V.sto, V.cells, D.cells, V.isAgg, binD, binInt, binStr, shInt, unD, eqOf, asI, leave, resOf, mapO, fzV, tupOf, view, view1, isData, hand, flatV, flatD, allD, mkAgg, mkVal, beq_lit, IntKind.bits, htake_self, htake_push, hget_hpush_self, hset_push, rowOf_self, okIn, lowIn, lowIn1, fzC_d, fzC_row, p38, g0, g3, a, b, rw1, n3, n3', d1, bound]
          try rfl
        · simp [-List.getD_eq_getElem?_getD, -List.map_map, evBody, evCode, evOps, evOper, evOp, opd, Env.get, Env.put, Env.keep, zipEnv, V.ok, V.sto, V.cells, D.cells, V.isAgg, binD, binInt, binStr, shInt, unD, eqOf, asI, leave, resOf, mapO, fzV, tupOf, view, view1, isData, hand, flatV, flatD, allD, mkAgg, mkVal, beq_lit, IntKind.bits, htake_self, htake_push, hget_hpush_self, hset_push, rowOf_self, okIn, lowIn, lowIn1, fzC_d, fzC_row, g0]
        · simp [-List.getD_eq_getElem?_getD, -List.map_map, evBody, evCode, evOps, evOper, evOp, opd, Env.get, Env.put, Env.keep, zipEnv, V.ok, V.sto, V.cells, D.cells, V.isAgg, binD, binInt, binStr, shInt, unD, eqOf, asI, leave, resOf, mapO, fzV, tupOf, view, view1, isData, hand, flatV, flatD, allD, mkAgg, mkVal, beq_lit, IntKind.bits, htake_self, htake_push, hget_hpush_self, hset_push, rowOf_self, okIn, lowIn, lowIn1, fzC_d, fzC_row]
      · by_cases d2 : ts.getD 0 [] = [70, 76, 85, 83, 72]
        · refine ⟨?_, q1, 1, ?_, ?_, ?_, by omega, by omega, .inr ⟨rfl, n3⟩⟩
          rotate_left
          · simp [-List.getD_eq_getElem?_getD, -List.map_map, evBody, evCode, evOps, evOper, evOp, opd, Env.get, Env.put, Env.keep, zipEnv, V.ok, V.sto, V.cells, D.cells, V.isAgg, binD, binInt, binStr, shInt, unD, eqOf, asI, leave, resOf, mapO, fzV, tupOf, view, view1, isData, hand, flatV, flatD, allD, mkAgg, mkVal, beq_lit, IntKind.bits, htake_self, htake_push, hget_hpush_self, hset_push, rowOf_self, okIn, lowIn, lowIn1, fzC_d, fzC_row, p38, g0, g3, a, b, rw1, n3, n3', d1, d2, bound]
            try rfl
          · simp [-List.getD_eq_getElem?_getD, -List.map_map, evBody, evCode, evOps, evOper, evOp, opd, Env.get, Env.put, Env.keep, zipEnv, V.ok, V.sto, V.cells, D.cells, V.isAgg, binD, binInt, binStr, shInt, unD, eqOf, asI, leave, resOf, mapO, fzV, tupOf, view, view1, isData, hand, flatV, flatD, allD, mkAgg, mkVal, beq_lit, IntKind.bits, htake_self, htake_push, hget_hpush_self, hset_push, rowOf_self, okIn, lowIn, lowIn1, fzC_d, fzC_row, g0]
          · simp [-List.getD_eq_getElem?_getD, -List.map_map, evBody, evCode, evOps, evOper, evOp, opd, Env.get, Env.put, Env.keep, zipEnv, V.ok, V.sto, V.cells, D.cells, V.isAgg, binD, binInt, binStr, shInt, unD, eqOf, asI, leave, resOf, mapO, fzV, tupOf, view, view1, isData, hand, flatV, flatD, allD, mkAgg, mkVal, beq_lit, IntKind.bits, htake_self, htake_push, hget_hpush_self, hset_push, rowOf_self, okIn, lowIn, lowIn1, fzC_d, fzC_row]
        · refine ⟨?_, q1, ts.length, ?_, ?_, ?_, by omega, by omega, .inl rfl⟩
          rotate_left
          · simp [-List.getD_eq_getElem?_getD, -List.map_map, evBody, evCode, evOps, evOper, evOp, opd, Env.get, Env.put, Env.keep, zipEnv, V.ok, V.sto, V.cells, D.cells, V.isAgg, binD, binInt, binStr, shInt, unD, eqOf, asI, leave, resOf, mapO, fzV, tupOf, view, view1, isData, hand, flatV, flatD, allD, mkAgg, mkVal, beq_lit, IntKind.bits, htake_self, htake_push, hget_hpush_self, hset_push, rowOf_self, okIn, lowIn, lowIn1, fzC_d, fzC_row, p38, g0, g3, a, b, rw1, n3, n3', d1, d2]
            try rfl
          · simp [-List.getD_eq_getElem?_getD, -List.map_map, evBody, evCode, evOps, evOper, evOp, opd, Env.get, Env.put, Env.keep, zipEnv, V.ok, V.sto, V.cells, D.cells, V.isAgg, binD, binInt, binStr, shInt, unD, eqOf, asI, leave, resOf, mapO, fzV, tupOf, view, view1, isData, hand, flatV, flatD, allD, mkAgg, mkVal, beq_lit, IntKind.bits, htake_self, htake_push, hget_hpush_self, hset_push, rowOf_self, okIn, lowIn, lowIn1, fzC_d, fzC_row, g0]
          · simp [-List.getD_eq_getElem?_getD, -List.map_map, evBody, evCode, evOps, evOper, evOp, opd, Env.get, Env.put, Env.keep, zipEnv, V.ok, V.sto, V.cells, D.cells, V.isAgg, binD, binInt, binStr, shInt, unD, eqOf, asI, leave, resOf, mapO, fzV, tupOf, view, view1, isData, hand, flatV, flatD, allD, mkAgg, mkVal, beq_lit, IntKind.bits, htake_self, htake_push, hget_hpush_self, hset_push, rowOf_self, okIn, lowIn, lowIn1, fzC_d, fzC_row, g3]
            exact n3.symm
    · refine ⟨?_, q1, ts.length, ?_, ?_, ?_, by omega, by omega, .inl rfl⟩
      rotate_left
      · simp [-List.getD_eq_getElem?_getD, -List.map_map, evBody, evCode, evOps, evOper, evOp, opd, Env.get, Env.put, Env.keep, zipEnv, V.ok, V.sto, V.cells, D.cells, V.isAgg, binD, binInt, binStr, shInt, unD, eqOf, asI, leave, resOf, mapO, fzV, tupOf, view, view1, isData, hand, flatV, flatD, allD, mkAgg, mkVal, beq_lit, IntKind.bits, htake_self, htake_push, hget_hpush_self, hset_push, rowOf_self, okIn, lowIn, lowIn1, fzC_d, fzC_row, p38, g0, g3, a, n3, n3', c0]
        try rfl
      · simp [-List.getD_eq_getElem?_getD, -List.map_map, evBody, evCode, evOps, evOper, evOp, opd, Env.get, Env.put, Env.keep, zipEnv, V.ok, V.sto, V.cells, D.cells, V.isAgg, binD, binInt, binStr, shInt, unD, eqOf, asI, leave, resOf, mapO, fzV, tupOf, view, view1, isData, hand, flatV, flatD, allD, mkAgg, mkVal, beq_lit, IntKind.bits, htake_self, htake_push, hget_hpush_self, hset_push, rowOf_self, okIn, lowIn, lowIn1, fzC_d, fzC_row, g0]
      · simp [-List.getD_eq_getElem?_getD, -List.map_map, evBody, evCode, evOps, evOper, evOp, opd, Env.get, Env.put, Env.keep, zipEnv, V.ok, V.sto, V.cells, D.cells, V.isAgg, binD, binInt, binStr, shInt, unD, eqOf, asI, leave, resOf, mapO, fzV, tupOf, view, view1, isData, hand, flatV, flatD, allD, mkAgg, mkVal, beq_lit, IntKind.bits, htake_self, htake_push, hget_hpush_self, hset_push, rowOf_self, okIn, lowIn, lowIn1, fzC_d, fzC_row, g3]
        exact n3.symm
  · have n3' : ¬ (ts.length : Int) = 3 := by omega
    refine ⟨?_, q, ts.length, ?_, ?_, ?_, by omega, by omega, .inl rfl⟩
    rotate_left
    · simp [-List.getD_eq_getElem?_getD, -List.map_map, evBody, evCode, evOps, evOper, evOp, opd, Env.get, Env.put, Env.keep, zipEnv, V.ok, V.sto, V.cells, D.cells, V.isAgg, binD, binInt, binStr, shInt, unD, eqOf, asI, leave, resOf, mapO, fzV, tupOf, view, view1, isData, hand, flatV, flatD, allD, mkAgg, mkVal, beq_lit, IntKind.bits, htake_self, htake_push, hget_hpush_self, hset_push, rowOf_self, okIn, lowIn, lowIn1, fzC_d, fzC_row, p38, g0, g3, n3, n3']
      try rfl
    · simp [-List.getD_eq_getElem?_getD, -List.map_map, evBody, evCode, evOps, evOper, evOp, opd, Env.get, Env.put, Env.keep, zipEnv, V.ok, V.sto, V.cells, D.cells, V.isAgg, binD, binInt, binStr, shInt, unD, eqOf, asI, leave, resOf, mapO, fzV, tupOf, view, view1, isData, hand, flatV, flatD, allD, mkAgg, mkVal, beq_lit, IntKind.bits, htake_self, htake_push, hget_hpush_self, hset_push, rowOf_self, okIn, lowIn, lowIn1, fzC_d, fzC_row, g0]
    · simp [-List.getD_eq_getElem?_getD, -List.map_map, evBody, evCode, evOps, evOper, evOp, opd, Env.get, Env.put, Env.keep, zipEnv, V.ok, V.sto, V.cells, D.cells, V.isAgg, binD, binInt, binStr, shInt, unD, eqOf, asI, leave, resOf, mapO, fzV, tupOf, view, view1, isData, hand, flatV, flatD, allD, mkAgg, mkVal, beq_lit, IntKind.bits, htake_self, htake_push, hget_hpush_self, hset_push, rowOf_self, okIn, lowIn, lowIn1, fzC_d, fzC_row, g3]
/-- What the draw hands back. -/
def Any38 (H : Hp) (r : Nat) (bs : List Int) (o : Option (Out × St)) : Prop :=
  ∃ e' Z ts' q', o = some (.ret, ⟨e', Z⟩) ∧ fzV (hlen H) Z (e'.get 2) = some (.d (txts ts')) ∧ htake Z (hlen H) = hset H r (rd bs q') ∧ ts'.length ≤ 14
theorem fzV_slc (n : Nat) (X : Hp) (r g i k : Nat) : fzV n X (.slc r g i k) = fzC n X (.slc r g i k) := rfl
theorem fzV_d (n : Nat) (X : Hp) (x : D) : fzV n X (.d x) = some (.d x) := rfl
theorem st38s (H : Hp) (r : Nat) (bs : List Int) (q : Int) (ts : List Txt) {o : Ev.Obj} (h : hget H r = some o) (hb : okBytes bs) (hq : 0 ≤ q) (hq2 : q ≤ 2000000000) (h1 : 1 ≤ ts.length) (h8 : ts.length ≤ 8) (n1 : Nat) (hn1 : n1 = ts.length ∨ (n1 = 1 ∧ ts.length = 3)) (e : Env) (g0 : e.get 0 = .ptr r 0 0 0) (g3 : e.get 3 = .slc (hlen H) 0 0 n1) :
    Any38 H r bs (evCode (ev R) R.glob (hlen H) evLoop s38 ⟨e, behind H r bs q ts⟩) := by
  obtain ⟨q1, hq1⟩ : ∃ x, x = q + 1 := ⟨_, rfl⟩
  obtain ⟨q2, hq2'⟩ : ∃ x, x = q1 + 1 := ⟨_, rfl⟩
  have a := behind_pick H r bs q q1 24 ts h hb hq (by omega) hq1
  generalize pickV bs q 24 = c at a
  have rw1 := behind_row H r bs q1 ts
  have n1l : n1 ≤ ts.length := by omega
  have n1p : 1 ≤ n1 := by omega
  by_cases c0 : c = 0
  · subst c0
    have a2 := behind_pick H r bs q1 q2 n1 ts h hb (by omega) (by omega) hq2'
    obtain ⟨k0, k1⟩ := pickV_in bs q1 n1 hb (by omega) (by omega)
    have k1 := k1 (by omega)
    obtain ⟨k, hk⟩ : ∃ k : Nat, pickV bs q1 n1 = k := ⟨(pickV bs q1 n1).toNat, by omega⟩
    rw [hk] at a2 k1
    have kl : (k : Int) ≤ (n1 : Int) := by omega
    have kl' : k ≤ n1 := by omega
    have rw2 := behind_row H r bs q2 ts
    have f := behind_fz H r bs q2 0 ts k (by omega)
    refine ⟨?_, behind H r bs q2 ts, ts.take k, q2, ?_, ?_, behind_take .., by simp; omega⟩
    rotate_left
    · simp [-List.getD_eq_getElem?_getD, -List.map_map, evBody, evCode, evOps, evOper, evOp, opd, Env.get, Env.put, Env.keep, zipEnv, V.ok, V.sto, V.cells, D.cells, V.isAgg, binD, binInt, binStr, shInt, unD, eqOf, asI, leave, resOf, mapO, fzV, tupOf, view, view1, isData, hand, flatV, flatD, allD, mkAgg, mkVal, beq_lit, IntKind.bits, htake_self, htake_push, hget_hpush_self, hset_push, rowOf_self, okIn, lowIn, lowIn1, fzC_d, fzC_row, s38, g0, g3, a, a2, rw2, kl, kl', bound]
      try rfl
    · simp [-List.getD_eq_getElem?_getD, -List.map_map, evBody, evCode, evOps, evOper, evOp, opd, Env.get, Env.put, Env.keep, zipEnv, V.ok, V.sto, V.cells, D.cells, V.isAgg, binD, binInt, binStr, shInt, unD, eqOf, asI, leave, resOf, mapO, fzV, tupOf, view, view1, isData, hand, flatV, flatD, allD, mkAgg, mkVal, beq_lit, IntKind.bits, htake_self, htake_push, hget_hpush_self, hset_push, rowOf_self, okIn, lowIn, lowIn1, fzC_d, fzC_row]
      exact f
  · by_cases c1 : c = 1
    · subst c1
      have more : [V.d (.str [109, 111, 114, 101]), V.d (.str [109, 111, 114, 101]), V.d (.str [109, 111, 114, 101]), V.d (.str [109, 111, 114, 101]), V.d (.str [109, 111, 114, 101]), V.d (.str [109, 111, 114, 101])] = (([[109, 111, 114, 101], [109, 111, 114, 101], [109, 111, 114, 101], [109, 111, 114, 101], [109, 111, 114, 101], [109, 111, 114, 101]] : List Txt).map D.str).map V.d := rfl
      have rm : (n1 + 6) * 16 ≤ room := by unfold room; omega
      rcases hn1 with rfl | ⟨rfl, h3⟩
      · have st := behind_set H r bs q1 ts (.row 1 1 ((ts.map D.str).map V.d ++ [V.d (.str [109, 111, 114, 101]), V.d (.str [109, 111, 114, 101]), V.d (.str [109, 111, 114, 101]), V.d (.str [109, 111, 114, 101]), V.d (.str [109, 111, 114, 101]), V.d (.str [109, 111, 114, 101])]))
        have f := behind_fz H r bs q1 1 (ts ++ [[109, 111, 114, 101], [109, 111, 114, 101], [109, 111, 114, 101], [109, 111, 114, 101], [109, 111, 114, 101], [109, 111, 114, 101]]) (ts.length + 6) (by simp)
        refine ⟨?_, hpush (hset H r (rd bs q1)) (.row 1 1 ((ts.map D.str).map V.d ++ [V.d (.str [109, 111, 114, 101]), V.d (.str [109, 111, 114, 101]), V.d (.str [109, 111, 114, 101]), V.d (.str [109, 111, 114, 101]), V.d (.str [109, 111, 114, 101]), V.d (.str [109, 111, 114, 101])])), (ts ++ [[109, 111, 114, 101], [109, 111, 114, 101], [109, 111, 114, 101], [109, 111, 114, 101], [109, 111, 114, 101], [109, 111, 114, 101]]).take (ts.length + 6), q1, ?_, ?_, behind_take .., ?_⟩
        rotate_left
        · simp [-List.getD_eq_getElem?_getD, -List.map_map, evBody, evCode, evOps, evOper, evOp, opd, Env.get, Env.put, Env.keep, zipEnv, V.ok, V.sto, V.cells, D.cells, V.isAgg, binD, binInt, binStr, shInt, unD, eqOf, asI, leave, resOf, mapO, fzV, tupOf, view, view1, isData, hand, flatV, flatD, allD, mkAgg, mkVal, beq_lit, IntKind.bits, htake_self, htake_push, hget_hpush_self, hset_push, rowOf_self, okIn, lowIn, lowIn1, fzC_d, fzC_row, s38, g0, g3, a, rw1, src, rm, st]
          try rfl
        · simp [-List.getD_eq_getElem?_getD, -List.map_map, evBody, evCode, evOps, evOper, evOp, opd, Env.get, Env.put, Env.keep, zipEnv, V.ok, V.sto, V.cells, D.cells, V.isAgg, binD, binInt, binStr, shInt, unD, eqOf, asI, leave, resOf, mapO, fzV, tupOf, view, view1, isData, hand, flatV, flatD, allD, mkAgg, mkVal, beq_lit, IntKind.bits, htake_self, htake_push, hget_hpush_self, hset_push, rowOf_self, okIn, lowIn, lowIn1, fzC_d, fzC_row]
          rw [List.map_append, List.map_append] at f
          exact f
        · simp; omega
      · have st := behind_set H r bs q1 ts (.row 1 1 (((ts.map D.str).map V.d).take 1 ++ [V.d (.str [109, 111, 114, 101]), V.d (.str [109, 111, 114, 101]), V.d (.str [109, 111, 114, 101]), V.d (.str [109, 111, 114, 101]), V.d (.str [109, 111, 114, 101]), V.d (.str [109, 111, 114, 101])]))
        have f := behind_fz H r bs q1 1 (ts.take 1 ++ [[109, 111, 114, 101], [109, 111, 114, 101], [109, 111, 114, 101], [109, 111, 114, 101], [109, 111, 114, 101], [109, 111, 114, 101]]) 7 (by simp; omega)
        have rm7 : 7 * 16 ≤ room := by unfold room; omega
        have x1 : ¬ 1 = ts.length := by omega
        have x2 : ¬ 7 ≤ ts.length := by omega
        have x3 : 1 ≤ ts.length := h1
        refine ⟨?_, hpush (hset H r (rd bs q1)) (.row 1 1 (((ts.map D.str).map V.d).take 1 ++ [V.d (.str [109, 111, 114, 101]), V.d (.str [109, 111, 114, 101]), V.d (.str [109, 111, 114, 101]), V.d (.str [109, 111, 114, 101]), V.d (.str [109, 111, 114, 101]), V.d (.str [109, 111, 114, 101])])), (ts.take 1 ++ [[109, 111, 114, 101], [109, 111, 114, 101], [109, 111, 114, 101], [109, 111, 114, 101], [109, 111, 114, 101], [109, 111, 114, 101]]).take 7, q1, ?_, ?_, behind_take .., ?_⟩
        rotate_left
        · simp [-List.getD_eq_getElem?_getD, -List.map_map, evBody, evCode, evOps, evOper, evOp, opd, Env.get, Env.put, Env.keep, zipEnv, V.ok, V.sto, V.cells, D.cells, V.isAgg, binD, binInt, binStr, shInt, unD, eqOf, asI, leave, resOf, mapO, fzV, tupOf, view, view1, isData, hand, flatV, flatD, allD, mkAgg, mkVal, beq_lit, IntKind.bits, htake_self, htake_push, hget_hpush_self, hset_push, rowOf_self, okIn, lowIn, lowIn1, fzC_d, fzC_row, s38, g0, g3, a, rw1, src, rm7, x1, x2, x3, st]
          try rfl
        · simp [-List.getD_eq_getElem?_getD, -List.map_map, evBody, evCode, evOps, evOper, evOp, opd, Env.get, Env.put, Env.keep, zipEnv, V.ok, V.sto, V.cells, D.cells, V.isAgg, binD, binInt, binStr, shInt, unD, eqOf, asI, leave, resOf, mapO, fzV, tupOf, view, view1, isData, hand, flatV, flatD, allD, mkAgg, mkVal, beq_lit, IntKind.bits, htake_self, htake_push, hget_hpush_self, hset_push, rowOf_self, okIn, lowIn, lowIn1, fzC_d, fzC_row]
          rw [List.map_append, List.map_append, List.map_take, List.map_take] at f
          exact f
        · simp; omega
    · by_cases c2 : c = 2
      · subst c2
        obtain ⟨t, lt, a3⟩ := behind_of H r bs q1 q2 ts [[103, 101, 116], [70, 76, 85, 83, 72], []] h hb (by omega) (by omega) hq2' (by simp) (by simp)
        simp only [txts, List.map_cons, List.map_nil] at a3
        have rw2 := behind_row H r bs q2 ts
        have st : hstore (behind H r bs q2 ts) (hlen H) 0 0 0 [.d (.str t)] = some (hpush (hset H r (rd bs q2)) (.row 0 1 (((ts.set 0 t).map D.str).map V.d))) := by
          have l0 : 0 < ts.length := h1
          simp [hstore, rw2, l0, V.cells, D.cells, reCell, V.isAgg, behind_set, List.map_set]
        have f := behind_fz H r bs q2 0 (ts.set 0 t) n1 (by simpa using n1l)
        have i0 : (0 : Int) < (n1 : Int) := by omega
        have i0' : 0 < n1 := by omega
        refine ⟨?_, hpush (hset H r (rd bs q2)) (.row 0 1 (((ts.set 0 t).map D.str).map V.d)), (ts.set 0 t).take n1, q2, ?_, ?_, behind_take .., by simp; omega⟩
        rotate_left
        · simp [-List.getD_eq_getElem?_getD, -List.map_map, evBody, evCode, evOps, evOper, evOp, opd, Env.get, Env.put, Env.keep, zipEnv, V.ok, V.sto, V.cells, D.cells, V.isAgg, binD, binInt, binStr, shInt, unD, eqOf, asI, leave, resOf, mapO, fzV, tupOf, view, view1, isData, hand, flatV, flatD, allD, mkAgg, mkVal, beq_lit, IntKind.bits, htake_self, htake_push, hget_hpush_self, hset_push, rowOf_self, okIn, lowIn, lowIn1, fzC_d, fzC_row, s38, g0, g3, a, a3, rw2, i0, i0', st]
          try rfl
        · rw [List.map_set, List.map_set] at f
          simp [-List.getD_eq_getElem?_getD, -List.map_map, evBody, evCode, evOps, evOper, evOp, opd, Env.get, Env.put, Env.keep, zipEnv, V.ok, V.sto, V.cells, D.cells, V.isAgg, binD, binInt, binStr, shInt, unD, eqOf, asI, leave, resOf, mapO, fzV, tupOf, view, view1, isData, hand, flatV, flatD, allD, mkAgg, mkVal, beq_lit, IntKind.bits, htake_self, htake_push, hget_hpush_self, hset_push, rowOf_self, okIn, lowIn, lowIn1, fzC_d, fzC_row]
          exact f
      · by_cases c3 : c = 3
        · subst c3
          obtain ⟨t, lt, a3⟩ := behind_of H r bs q1 q2 ts [[68, 66, 83, 73, 90, 69], [70, 76, 85, 83, 72]] h hb (by omega) (by omega) hq2' (by simp) (by simp)
          simp only [txts, List.map_cons, List.map_nil] at a3
          refine ⟨?_, behind H r bs q2 ts, [t], q2, ?_, ?_, behind_take .., by simp⟩
          rotate_left
          · simp [-List.getD_eq_getElem?_getD, -List.map_map, evBody, evCode, evOps, evOper, evOp, opd, Env.get, Env.put, Env.keep, zipEnv, V.ok, V.sto, V.cells, D.cells, V.isAgg, binD, binInt, binStr, shInt, unD, eqOf, asI, leave, resOf, mapO, fzV, tupOf, view, view1, isData, hand, flatV, flatD, allD, mkAgg, mkVal, beq_lit, IntKind.bits, htake_self, htake_push, hget_hpush_self, hset_push, rowOf_self, okIn, lowIn, lowIn1, fzC_d, fzC_row, s38, g0, g3, a, a3]
            try rfl
          · simp [-List.getD_eq_getElem?_getD, -List.map_map, evBody, evCode, evOps, evOper, evOp, opd, Env.get, Env.put, Env.keep, zipEnv, V.ok, V.sto, V.cells, D.cells, V.isAgg, binD, binInt, binStr, shInt, unD, eqOf, asI, leave, resOf, mapO, fzV, tupOf, view, view1, isData, hand, flatV, flatD, allD, mkAgg, mkVal, beq_lit, IntKind.bits, htake_self, htake_push, hget_hpush_self, hset_push, rowOf_self, okIn, lowIn, lowIn1, fzC_d, fzC_row, fzV_d]
        · have f := behind_fz H r bs q1 0 ts n1 n1l
          refine ⟨?_, behind H r bs q1 ts, ts.take n1, q1, ?_, ?_, behind_take .., by simp; omega⟩
          rotate_left
          · simp [-List.getD_eq_getElem?_getD, -List.map_map, evBody, evCode, evOps, evOper, evOp, opd, Env.get, Env.put, Env.keep, zipEnv, V.ok, V.sto, V.cells, D.cells, V.isAgg, binD, binInt, binStr, shInt, unD, eqOf, asI, leave, resOf, mapO, fzV, tupOf, view, view1, isData, hand, flatV, flatD, allD, mkAgg, mkVal, beq_lit, IntKind.bits, htake_self, htake_push, hget_hpush_self, hset_push, rowOf_self, okIn, lowIn, lowIn1, fzC_d, fzC_row, s38, g0, g3, a, c0, c1, c2, c3]
            try rfl
          · simp [-List.getD_eq_getElem?_getD, -List.map_map, evBody, evCode, evOps, evOper, evOp, opd, Env.get, Env.put, Env.keep, zipEnv, V.ok, V.sto, V.cells, D.cells, V.isAgg, binD, binInt, binStr, shInt, unD, eqOf, asI, leave, resOf, mapO, fzV, tupOf, view, view1, isData, hand, flatV, flatD, allD, mkAgg, mkVal, beq_lit, IntKind.bits, htake_self, htake_push, hget_hpush_self, hset_push, rowOf_self, okIn, lowIn, lowIn1, fzC_d, fzC_row, g3]
            exact f
theorem e38 (H : Hp) (r : Nat) (bs : List Int) (p : Int) (h : hget H r = some (rd bs p)) (hb : okBytes bs) (hp : 0 ≤ p) (hp2 : p ≤ 100000000) :
    ∃ ts' q', ts'.length ≤ 14 ∧ ev R 38 [.ptr r 0 0 0] H = some (.d (txts ts'), hset H r (rd bs q')) := by
  obtain ⟨ts, p1, a1, b1, b2, b3, b4, b5⟩ := e44 H r bs p h hb hp (by omega)
  have hA : evCode (ev R) R.glob (hlen H) evLoop r38a ⟨[(0, .ptr r 0 0 0)], H⟩ = some (.normal, ⟨[(2, .nils 1), (0, .ptr r 0 0 0)], H⟩) := by
    simp [-List.getD_eq_getElem?_getD, -List.map_map, evBody, evCode, evOps, evOper, evOp, opd, Env.get, Env.put, Env.keep, zipEnv, V.ok, V.sto, V.cells, D.cells, V.isAgg, binD, binInt, binStr, shInt, unD, eqOf, asI, leave, resOf, mapO, fzV, tupOf, view, view1, isData, hand, flatV, flatD, allD, mkAgg, mkVal, beq_lit, IntKind.bits, htake_self, htake_push, hget_hpush_self, hset_push, rowOf_self, okIn, lowIn, lowIn1, fzC_d, fzC_row, r38a]
  have hB : ∃ e', evCode (ev R) R.glob (hlen H) evLoop r38b ⟨[(0, .ptr r 0 0 0)], H⟩ = some (.normal, ⟨e', behind H r bs p1 ts⟩) ∧ e'.get 0 = .ptr r 0 0 0 ∧ e'.get 3 = .slc (hlen H) 0 0 ts.length := by
    refine ⟨?_, ?_, ?_, ?_⟩
    rotate_left
    · have e1 : hpush (hset H r (rd bs p1)) (rowT 0 ts) = behind H r bs p1 ts := rfl
      rw [e1] at a1
      simp [-List.getD_eq_getElem?_getD, -List.map_map, evBody, evCode, evOps, evOper, evOp, opd, Env.get, Env.put, Env.keep, zipEnv, V.ok, V.sto, V.cells, D.cells, V.isAgg, binD, binInt, binStr, shInt, unD, eqOf, asI, leave, resOf, mapO, fzV, tupOf, view, view1, isData, hand, flatV, flatD, allD, mkAgg, mkVal, beq_lit, IntKind.bits, htake_self, htake_push, hget_hpush_self, hset_push, rowOf_self, okIn, lowIn, lowIn1, fzC_d, fzC_row, r38b, a1]
      rfl
    · simp [-List.getD_eq_getElem?_getD, -List.map_map, evBody, evCode, evOps, evOper, evOp, opd, Env.get, Env.put, Env.keep, zipEnv, V.ok, V.sto, V.cells, D.cells, V.isAgg, binD, binInt, binStr, shInt, unD, eqOf, asI, leave, resOf, mapO, fzV, tupOf, view, view1, isData, hand, flatV, flatD, allD, mkAgg, mkVal, beq_lit, IntKind.bits, htake_self, htake_push, hget_hpush_self, hset_push, rowOf_self, okIn, lowIn, lowIn1, fzC_d, fzC_row]
    · simp [-List.getD_eq_getElem?_getD, -List.map_map, evBody, evCode, evOps, evOper, evOp, opd, Env.get, Env.put, Env.keep, zipEnv, V.ok, V.sto, V.cells, D.cells, V.isAgg, binD, binInt, binStr, shInt, unD, eqOf, asI, leave, resOf, mapO, fzV, tupOf, view, view1, isData, hand, flatV, flatD, allD, mkAgg, mkVal, beq_lit, IntKind.bits, htake_self, htake_push, hget_hpush_self, hset_push, rowOf_self, okIn, lowIn, lowIn1, fzC_d, fzC_row]
  obtain ⟨eB, hB, gB0, gB3⟩ := hB
  obtain ⟨eP, qP, n1, hP, gP0, gP3, p4, p5, p6⟩ := st38p H r bs p1 ts h hb (by omega) (by omega) b3 b4 [(0, .ptr r 0 0 0), (3, .slc (hlen H) 0 0 ts.length)] rfl rfl
  obtain ⟨eS, Z, ts', qS, hS, fS, tS, lS⟩ := st38s H r bs qP ts h hb (by omega) (by omega) b3 b4 n1 p6 [(0, .ptr r 0 0 0), (3, .slc (hlen H) 0 0 n1)] rfl rfl
  have hb2 : evCode (ev R) R.glob (hlen H) evLoop f38.body ⟨[(0, .ptr r 0 0 0)], H⟩ = some (.ret, ⟨eS, Z⟩) := by
    rw [f38_is, evCode_seq, hA]
    show evCode (ev R) R.glob (hlen H) evLoop (.seq r38b [0, 3] (.seq p38 [0, 3] s38)) ⟨[(0, .ptr r 0 0 0)], H⟩ = _
    rw [evCode_seq, hB]
    simp only [Env.keep, gB0, gB3]
    rw [evCode_seq, hP]
    simp only [Env.keep, gP0, gP3]
    exact hS
  refine ⟨ts', qS, lS, ev_fn (fn := f38) rfl rfl ?_⟩
  have hargs : zipEnv 0 [V.ptr r 0 0 0] = [(0, .ptr r 0 0 0)] := rfl
  unfold evBody
  rw [if_pos (show [V.ptr r 0 0 0].length = f38.np from rfl), hargs, hb2]
  have hres : f38.res = [.tmp 2] := rfl
  have hown : f38.own = false := rfl
  simp only [leave, hres, hown, resOf, mapO, fS, tS, tupOf]
theorem e12 (H : Hp) (bs : List Int) (h : ∀ i, 0 ≤ bs.getD i 0 ∧ bs.getD i 0 ≤ 255) : ∃ ts : List Txt, ts.length ≤ 14 ∧ ev R 12 [.d (bytesD bs)] H = some (.d (txts ts), H) := by
  have hb := opened_ok bs h
  have q0 := e39 H bs
  obtain ⟨ts, q, l, a1⟩ := e38 (hpush H (rd (opened bs) 0)) (hlen H) (opened bs) 0 (hget_hpush_self _ _) hb (by omega) (by omega)
  rw [hset_push] at a1
  refine ⟨ts, l, ev_fn (fn := f12) rfl rfl ?_⟩
  simp [-List.getD_eq_getElem?_getD, -List.map_map, evBody, evCode, evOps, evOper, evOp, opd, Env.get, Env.put, Env.keep, zipEnv, V.ok, V.sto, V.cells, D.cells, V.isAgg, binD, binInt, binStr, shInt, unD, eqOf, asI, leave, resOf, mapO, fzV, tupOf, view, view1, isData, hand, flatV, flatD, allD, mkAgg, mkVal, beq_lit, IntKind.bits, htake_self, htake_push, hget_hpush_self, hset_push, rowOf_self, okIn, lowIn, lowIn1, fzC_d, fzC_row, f12, q0, a1]
end Go.Proofs.YtpmphmpaeooeeaaDoor.Code

/- Lists of lists of texts, marked in place and found so again. -/
import Derived.Test.YtpmphmpaeooeeaaDoorVOrderImpl
import Derived.Test.YtpmphmpaeooeeaaDoorVTextss
namespace Go.Proofs.YtpmphmpaeooeeaaDoor.Code
open Go Go.Ev Go.Proofs
set_option maxRecDepth 100000
set_option linter.unusedSimpArgs false
set_option linter.unusedVariables false
theorem textss_get (xss : List (List Txt)) (i : Nat) (hi : i < xss.length) : (textss xss).getD i .nilp = txts (xss.getD i []) := by
  simp [textss, List.getD_eq_getElem?_getD, hi]
theorem textss_len (xss : List (List Txt)) : (textss xss).length = xss.length := by simp [textss]
def digM (n : Nat) (out : Txt) : Txt := if h : n = 0 then out else digM (n / 10) (UInt8.ofNat (48 + n % 10) :: out)
termination_by n
decreasing_by omega
theorem digM_len (n : Nat) : ∀ out : Txt, (digM n out).length ≤ out.length + n := by
  induction n using Nat.strongRecOn with
  | _ n ih =>
    intro out
    rw [digM]
    split
    · omega
    · have := ih (n / 10) (by omega) (UInt8.ofNat (48 + n % 10) :: out)
      rw [List.length_cons] at this
      omega
/-- The text of a mark. -/
def markV (n : Nat) : Txt := if n = 0 then [109, 48] else 109 :: digM n []
theorem l76 (n0 : Nat) (H : Hp) (n : Nat) : ∀ (out : Txt) (e : Env), out.length + n ≤ 1000000 → e.get 0 = .d (.int .i64 n) → e.get 3 = .d (.str out) →
    ∃ e', evLoop (evCode (ev R) R.glob n0 evLoop f76l0) [0, 3] ⟨e, H⟩ = some (.exit 0, ⟨e', H⟩) ∧ e'.get 3 = .d (.str (digM n out)) := by
  induction n using Nat.strongRecOn with
  | _ n ih =>
    intro out e hl h0 h3
    rw [evLoop_eq, digM]
    by_cases c : n = 0
    · subst c
      rw [dif_pos rfl]
      refine ⟨?_, ?_, ?_⟩
      rotate_left
      · simp [-List.getD_eq_getElem?_getD, -List.map_map, evBody, evCode, evOps, evOper, evOp, opd, Env.get, Env.put, Env.keep, zipEnv, V.ok, V.sto, V.cells, D.cells, V.isAgg, binD, binInt, binStr, shInt, unD, eqOf, asI, leave, resOf, mapO, fzV, tupOf, view, view1, isData, hand, flatV, flatD, allD, mkAgg, mkVal, beq_lit, IntKind.bits, htake_self, htake_push, hget_hpush_self, hset_push, rowOf_self, okIn, lowIn, lowIn1, fzC_d, fzC_row, f76l0, h0, h3]
        try rfl
      · simp [-List.getD_eq_getElem?_getD, -List.map_map, evBody, evCode, evOps, evOper, evOp, opd, Env.get, Env.put, Env.keep, zipEnv, V.ok, V.sto, V.cells, D.cells, V.isAgg, binD, binInt, binStr, shInt, unD, eqOf, asI, leave, resOf, mapO, fzV, tupOf, view, view1, isData, hand, flatV, flatD, allD, mkAgg, mkVal, beq_lit, IntKind.bits, htake_self, htake_push, hget_hpush_self, hset_push, rowOf_self, okIn, lowIn, lowIn1, fzC_d, fzC_row, h3]
    · rw [dif_neg c]
      have ih := ih (n / 10) (by omega) (UInt8.ofNat (48 + n % 10) :: out)
      obtain ⟨k, hk⟩ : ∃ k : Int, ((n / 10 : Nat) : Int) = k := ⟨_, rfl⟩
      obtain ⟨d, hd⟩ : ∃ d : Int, (n : Int).tmod 10 = d := ⟨_, rfl⟩
      have hd' : d = ((n % 10 : Nat) : Int) := by rw [← hd, Int.tmod_eq_emod_of_nonneg (by omega)]; omega
      have w0 : IntKind.i64.wrap ((n : Int).tdiv 10) = k := by rw [Int.tdiv_eq_ediv_of_nonneg (by omega), IntWalk.i64_in _ (by omega)]; omega
      have w0' : IntKind.i64.wrap ((n : Int) / 10) = k := by rw [IntWalk.i64_in _ (by omega)]; omega
      have hd2 : (n : Int) % 10 = d := by omega
      have w1 : IntKind.i64.wrap (48 + d) = 48 + d := IntWalk.i64_in _ (by omega)
      have w2 : IntKind.u8.wrap (48 + d) = 48 + d := IntWalk.u8_in _ (by omega)
      have t : (48 + d).toNat = 48 + n % 10 := by omega
      have l : 1 + out.length ≤ strRoom := by unfold strRoom; omega
      have l' : out.length + 1 ≤ strRoom := by unfold strRoom; omega
      have c1 : (0 : Int) < (n : Int) := by omega
      have c2 : 0 < n := by omega
      rw [hk] at ih
      obtain ⟨N, hN⟩ : ∃ N, 48 + n % 10 = N := ⟨_, rfl⟩
      rw [hN] at t ih ⊢
      generalize digM (n / 10) (UInt8.ofNat N :: out) = res at ih ⊢
      generalize evLoop (evCode (ev R) R.glob n0 evLoop f76l0) [0, 3] = F at ih ⊢
      simp [-List.getD_eq_getElem?_getD, -List.map_map, evBody, evCode, evOps, evOper, evOp, opd, Env.get, Env.put, Env.keep, zipEnv, V.ok, V.sto, V.cells, D.cells, V.isAgg, binD, binInt, binStr, shInt, unD, eqOf, asI, leave, resOf, mapO, fzV, tupOf, view, view1, isData, hand, flatV, flatD, allD, mkAgg, mkVal, beq_lit, IntKind.bits, htake_self, htake_push, hget_hpush_self, hset_push, rowOf_self, okIn, lowIn, lowIn1, fzC_d, fzC_row, f76l0, h0, h3, c1, c2, c, w0, w0', hd, hd2, w1, w2, t, l, l', src, strOf]
      refine ih _ (by simp; omega) ?_ ?_ <;> rfl
theorem e76 (H : Hp) (n : Nat) (hn : n ≤ 100000) : ev R 76 [.d (.int .i64 n)] H = some (.d (.str (markV n)), H) := by
  refine ev_fn (fn := f76) rfl rfl ?_
  unfold markV
  by_cases c : n = 0
  · subst c
    simp [-List.getD_eq_getElem?_getD, -List.map_map, evBody, evCode, evOps, evOper, evOp, opd, Env.get, Env.put, Env.keep, zipEnv, V.ok, V.sto, V.cells, D.cells, V.isAgg, binD, binInt, binStr, shInt, unD, eqOf, asI, leave, resOf, mapO, fzV, tupOf, view, view1, isData, hand, flatV, flatD, allD, mkAgg, mkVal, beq_lit, IntKind.bits, htake_self, htake_push, hget_hpush_self, hset_push, rowOf_self, okIn, lowIn, lowIn1, fzC_d, fzC_row, f76]
  · obtain ⟨e', he, h3⟩ := l76 (hlen H) H n [] [(0, .d (.int .i64 n)), (3, .d (.str []))] (by simp; omega) rfl rfl
    have dl := digM_len n []
    simp only [List.length_nil] at dl
    have l : 1 + (digM n []).length ≤ strRoom := by unfold strRoom; omega
    have l' : (digM n []).length + 1 ≤ strRoom := by unfold strRoom; omega
    have c1 : ¬ (n : Int) ≤ 0 := by omega
    rw [if_neg c]
    generalize digM n [] = x at *
    simp [-List.getD_eq_getElem?_getD, -List.map_map, evBody, evCode, evOps, evOper, evOp, opd, Env.get, Env.put, Env.keep, zipEnv, V.ok, V.sto, V.cells, D.cells, V.isAgg, binD, binInt, binStr, shInt, unD, eqOf, asI, leave, resOf, mapO, fzV, tupOf, view, view1, isData, hand, flatV, flatD, allD, mkAgg, mkVal, beq_lit, IntKind.bits, htake_self, htake_push, hget_hpush_self, hset_push, rowOf_self, okIn, lowIn, lowIn1, fzC_d, fzC_row, f76, he, h3, c, c1, l, l']
/-- The marks of a list. -/
def marks (at' : Nat) : Nat → List Txt
  | 0 => []
  | n + 1 => markV at' :: marks (at' + 1) n
theorem marks_len : ∀ (n a : Nat), (marks a n).length = n
  | 0, _ => rfl
  | n + 1, a => by simp [marks, marks_len n (a + 1)]
theorem marks_get : ∀ (n a i : Nat), i < n → (marks a n).getD i [] = markV (a + i)
  | n + 1, a, 0, _ => rfl
  | n + 1, a, i + 1, h => by
    simp only [marks, List.getD_cons_succ]
    rw [marks_get n (a + 1) i (by omega)]
    congr 1; omega
/-- Found so again. -/
theorem l53 (n0 : Nat) (H : Hp) (N a : Nat) (ha : a + N ≤ 100000) : ∀ (n i : Nat) (e : Env), i + n = N → e.get 0 = .d (txts (marks a N)) → e.get 1 = .d (.int .i64 (a + i : Nat)) → e.get 5 = .d (.int .i64 i) →
    ∃ e', evLoop (evCode (ev R) R.glob n0 evLoop f53l0) [0, 1, 5] ⟨e, H⟩ = some (.exit 0, ⟨e', H⟩) ∧ e'.get 1 = .d (.int .i64 (a + N : Nat))
  | 0, i, e, hi, h0, h1, h5 => by
    have ml : ((marks a N).length : Int) = (N : Int) := by rw [marks_len]
    have c : ¬ (i : Int) < ((marks a N).length : Int) := by rw [marks_len]; omega
    have c' : ¬ i < (marks a N).length := by rw [marks_len]; omega
    have hN : i = N := by omega
    subst hN
    rw [evLoop_eq]
    refine ⟨?_, ?_, ?_⟩
    rotate_left
    · simp [-List.getD_eq_getElem?_getD, -List.map_map, evBody, evCode, evOps, evOper, evOp, opd, Env.get, Env.put, Env.keep, zipEnv, V.ok, V.sto, V.cells, D.cells, V.isAgg, binD, binInt, binStr, shInt, unD, eqOf, asI, leave, resOf, mapO, fzV, tupOf, view, view1, isData, hand, flatV, flatD, allD, mkAgg, mkVal, beq_lit, IntKind.bits, htake_self, htake_push, hget_hpush_self, hset_push, rowOf_self, okIn, lowIn, lowIn1, fzC_d, fzC_row, f53l0, h0, h1, h5, c, c', txts]
      try rfl
    · simp [-List.getD_eq_getElem?_getD, -List.map_map, evBody, evCode, evOps, evOper, evOp, opd, Env.get, Env.put, Env.keep, zipEnv, V.ok, V.sto, V.cells, D.cells, V.isAgg, binD, binInt, binStr, shInt, unD, eqOf, asI, leave, resOf, mapO, fzV, tupOf, view, view1, isData, hand, flatV, flatD, allD, mkAgg, mkVal, beq_lit, IntKind.bits, htake_self, htake_push, hget_hpush_self, hset_push, rowOf_self, okIn, lowIn, lowIn1, fzC_d, fzC_row, h1]
  | n + 1, i, e, hi, h0, h1, h5 => by
    have c : (i : Int) < ((marks a N).length : Int) := by rw [marks_len]; omega
    have c' : i < (marks a N).length := by rw [marks_len]; omega
    have g := txts_get (marks a N) i c'
    rw [marks_get N a i (by omega)] at g
    have p := pureCall_eq (cl := ev R) fun H => e76 H (a + i) (by omega)
    have w1 : IntKind.i64.wrap ((i : Int) + 1) = ((i + 1 : Nat) : Int) := by rw [IntWalk.i64_in _ (by omega)]; rfl
    have w2 : IntKind.i64.wrap (((a + i : Nat) : Int) + 1) = ((a + (i + 1) : Nat) : Int) := by rw [IntWalk.i64_in _ (by omega)]; omega
    have ih := l53 n0 H N a ha n (i + 1)
    generalize markV (a + i) = x at g p
    generalize ((a + i : Nat) : Int) = q at *
    generalize ((a + (i + 1) : Nat) : Int) = q2 at *
    rw [evLoop_eq]
    generalize evLoop (evCode (ev R) R.glob n0 evLoop f53l0) [0, 1, 5] = F at ih ⊢
    simp [-List.getD_eq_getElem?_getD, -List.map_map, evBody, evCode, evOps, evOper, evOp, opd, Env.get, Env.put, Env.keep, zipEnv, V.ok, V.sto, V.cells, D.cells, V.isAgg, binD, binInt, binStr, shInt, unD, eqOf, asI, leave, resOf, mapO, fzV, tupOf, view, view1, isData, hand, flatV, flatD, allD, mkAgg, mkVal, beq_lit, IntKind.bits, htake_self, htake_push, hget_hpush_self, hset_push, rowOf_self, okIn, lowIn, lowIn1, fzC_d, fzC_row, f53l0, h0, h1, h5, txts, c, c', g, p, w1, w2]
    refine ih _ (by omega) ?_ ?_ ?_ <;> rfl
theorem e53 (H : Hp) (N a : Nat) (ha : a + N ≤ 100000) : ev R 53 [.d (txts (marks a N)), .d (.int .i64 a)] H = some (.d (.int .i64 (a + N : Nat)), H) := by
  refine ev_fn (fn := f53) rfl rfl ?_
  obtain ⟨e', he, h1⟩ := l53 (hlen H) H N a ha N 0 [(0, .d (txts (marks a N))), (1, .d (.int .i64 a)), (5, .d (.int .i64 0))] (by omega) rfl rfl rfl
  generalize ((a + N : Nat) : Int) = q at *
  simp [-List.getD_eq_getElem?_getD, -List.map_map, evBody, evCode, evOps, evOper, evOp, opd, Env.get, Env.put, Env.keep, zipEnv, V.ok, V.sto, V.cells, D.cells, V.isAgg, binD, binInt, binStr, shInt, unD, eqOf, asI, leave, resOf, mapO, fzV, tupOf, view, view1, isData, hand, flatV, flatD, allD, mkAgg, mkVal, beq_lit, IntKind.bits, htake_self, htake_push, hget_hpush_self, hset_push, rowOf_self, okIn, lowIn, lowIn1, fzC_d, fzC_row, f53, he, h1]
/-- The marks of a list of lists. -/
def marksS (a : Nat) : List (List Txt) → List (List Txt)
  | [] => []
  | x :: r => marks a x.length :: marksS (a + x.length) r
/-- How many texts there are. -/
def total : List (List Txt) → Nat
  | [] => 0
  | x :: r => x.length + total r
theorem marksS_len : ∀ (xss : List (List Txt)) (a : Nat), (marksS a xss).length = xss.length
  | [], _ => rfl
  | x :: r, a => by simp [marksS, marksS_len r]
theorem marksS_get : ∀ (xss : List (List Txt)) (a i : Nat), i < xss.length → (marksS a xss).getD i [] = marks (a + total (xss.take i)) (xss.getD i []).length
  | x :: r, a, 0, _ => by simp [marksS, total]
  | x :: r, a, i + 1, h => by
    simp only [List.length_cons] at h
    simp only [marksS, List.getD_cons_succ, List.take_succ_cons, total]
    rw [marksS_get r (a + x.length) i (by omega)]
    congr 1; omega
theorem total_take (xss : List (List Txt)) : ∀ (i : Nat), i < xss.length → total (xss.take (i + 1)) = total (xss.take i) + (xss.getD i []).length := by
  induction xss with
  | nil => intro i h; simp at h
  | cons x r ih =>
    intro i h
    cases i with
    | zero => simp [total]
    | succ i =>
      simp only [List.length_cons] at h
      simp only [List.take_succ_cons, total, List.getD_cons_succ]
      rw [ih i (by omega)]
      omega
theorem total_le (xss : List (List Txt)) : ∀ (i : Nat), total (xss.take i) ≤ total xss := by
  induction xss with
  | nil => intro i; simp [total]
  | cons x r ih =>
    intro i
    cases i with
    | zero => simp [total]
    | succ i =>
      simp only [List.take_succ_cons, total]
      have := ih i
      omega
theorem total_all (xss : List (List Txt)) : total (xss.take xss.length) = total xss := by rw [List.take_length]
theorem l22 (n0 : Nat) (H : Hp) (xss : List (List Txt)) (a : Nat) (ha : a + total xss ≤ 100000) (hx : xss.length ≤ 100000) : ∀ (n i : Nat) (e : Env), i + n = xss.length → e.get 0 = .d (.vals 1 (textss (marksS a xss))) → e.get 1 = .d (.int .i64 (a + total (xss.take i) : Nat)) → e.get 5 = .d (.int .i64 i) →
    ∃ e', evLoop (evCode (ev R) R.glob n0 evLoop f22l0) [0, 1, 5] ⟨e, H⟩ = some (.exit 0, ⟨e', H⟩) ∧ e'.get 1 = .d (.int .i64 (a + total xss : Nat))
  | 0, i, e, hi, h0, h1, h5 => by
    have c : ¬ (i : Int) < ((textss (marksS a xss)).length : Int) := by rw [textss_len, marksS_len]; omega
    have c' : ¬ i < (textss (marksS a xss)).length := by rw [textss_len, marksS_len]; omega
    have hN : i = xss.length := by omega
    rw [hN, total_all] at h1
    rw [evLoop_eq]
    refine ⟨?_, ?_, ?_⟩
    rotate_left
    · simp [-List.getD_eq_getElem?_getD, -List.map_map, evBody, evCode, evOps, evOper, evOp, opd, Env.get, Env.put, Env.keep, zipEnv, V.ok, V.sto, V.cells, D.cells, V.isAgg, binD, binInt, binStr, shInt, unD, eqOf, asI, leave, resOf, mapO, fzV, tupOf, view, view1, isData, hand, flatV, flatD, allD, mkAgg, mkVal, beq_lit, IntKind.bits, htake_self, htake_push, hget_hpush_self, hset_push, rowOf_self, okIn, lowIn, lowIn1, fzC_d, fzC_row, f22l0, h0, h1, h5, c, c']
      try rfl
    · simp [-List.getD_eq_getElem?_getD, -List.map_map, evBody, evCode, evOps, evOper, evOp, opd, Env.get, Env.put, Env.keep, zipEnv, V.ok, V.sto, V.cells, D.cells, V.isAgg, binD, binInt, binStr, shInt, unD, eqOf, asI, leave, resOf, mapO, fzV, tupOf, view, view1, isData, hand, flatV, flatD, allD, mkAgg, mkVal, beq_lit, IntKind.bits, htake_self, htake_push, hget_hpush_self, hset_push, rowOf_self, okIn, lowIn, lowIn1, fzC_d, fzC_row, h1]
  | n + 1, i, e, hi, h0, h1, h5 => by
    have c : (i : Int) < ((textss (marksS a xss)).length : Int) := by rw [textss_len, marksS_len]; omega
    have c' : i < (textss (marksS a xss)).length := by rw [textss_len, marksS_len]; omega
    have g := textss_get (marksS a xss) i (by rw [marksS_len]; omega)
    rw [marksS_get xss a i (by omega)] at g
    have tt := total_take xss i (by omega)
    have tle := total_le xss (i + 1)
    have p := pureCall_eq (cl := ev R) fun H => e53 H (xss.getD i []).length (a + total (xss.take i)) (by omega)
    have w1 : IntKind.i64.wrap ((i : Int) + 1) = ((i + 1 : Nat) : Int) := by rw [IntWalk.i64_in _ (by omega)]; rfl
    have c3 : ¬ ((a + total (xss.take i) + (xss.getD i []).length : Nat) : Int) < 0 := by omega
    have ih := l22 n0 H xss a ha hx n (i + 1)
    have e1 : a + total (xss.take (i + 1)) = a + total (xss.take i) + (xss.getD i []).length := by omega
    rw [e1] at ih
    simp only [txts] at g p
    generalize ((a + total (xss.take i) + (xss.getD i []).length : Nat) : Int) = q2 at *
    generalize List.map D.str (marks (a + total (xss.take i)) (xss.getD i []).length) = T at *
    generalize ((a + total (xss.take i) : Nat) : Int) = q at *
    rw [evLoop_eq]
    generalize evLoop (evCode (ev R) R.glob n0 evLoop f22l0) [0, 1, 5] = F at ih ⊢
    simp [-List.getD_eq_getElem?_getD, -List.map_map, evBody, evCode, evOps, evOper, evOp, opd, Env.get, Env.put, Env.keep, zipEnv, V.ok, V.sto, V.cells, D.cells, V.isAgg, binD, binInt, binStr, shInt, unD, eqOf, asI, leave, resOf, mapO, fzV, tupOf, view, view1, isData, hand, flatV, flatD, allD, mkAgg, mkVal, beq_lit, IntKind.bits, htake_self, htake_push, hget_hpush_self, hset_push, rowOf_self, okIn, lowIn, lowIn1, fzC_d, fzC_row, f22l0, h0, h1, h5, c, c', g, p, w1, c3]
    refine ih _ (by omega) ?_ ?_ ?_ <;> rfl
theorem e22 (H : Hp) (xss : List (List Txt)) (a : Nat) (ha : a + total xss ≤ 100000) (hx : xss.length ≤ 100000) : ev R 22 [.d (.vals 1 (textss (marksS a xss))), .d (.int .i64 a)] H = some (.d (.int .i64 (a + total xss : Nat)), H) := by
  refine ev_fn (fn := f22) rfl rfl ?_
  obtain ⟨e', he, h1⟩ := l22 (hlen H) H xss a ha hx xss.length 0 [(0, .d (.vals 1 (textss (marksS a xss)))), (1, .d (.int .i64 a)), (5, .d (.int .i64 0))] (by omega) rfl (by simp [total, Env.get, beq_lit]) rfl
  generalize ((a + total xss : Nat) : Int) = q at *
  simp [-List.getD_eq_getElem?_getD, -List.map_map, evBody, evCode, evOps, evOper, evOp, opd, Env.get, Env.put, Env.keep, zipEnv, V.ok, V.sto, V.cells, D.cells, V.isAgg, binD, binInt, binStr, shInt, unD, eqOf, asI, leave, resOf, mapO, fzV, tupOf, view, view1, isData, hand, flatV, flatD, allD, mkAgg, mkVal, beq_lit, IntKind.bits, htake_self, htake_push, hget_hpush_self, hset_push, rowOf_self, okIn, lowIn, lowIn1, fzC_d, fzC_row, f22, he, h1]
end Go.Proofs.YtpmphmpaeooeeaaDoor.Code

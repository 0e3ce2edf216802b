/- Whole records: what both readers say, as data; lists of lists compared. -/
import Derived.Test.YtpmphmpaeooeeaaDoorVNest
import Derived.Test.YtpmphmpaeooeeaaDoorVIntEv
import Derived.Test.YtpmphmpaeooeeaaDoorVListAt
namespace Go.Proofs.YtpmphmpaeooeeaaDoor.Code
open Go Go.Ev Go.Proofs
set_option maxRecDepth 100000
set_option linter.unusedSimpArgs false
set_option linter.unusedVariables false
theorem l11 (n0 : Nat) (xss : List (List Txt)) (hx : xss.length ≤ 1048576) (hs : ∀ i, (xss.getD i []).length ≤ 1048576) (H : Hp) : ∀ (n i : Nat) (e : Env), i + n = xss.length → e.get 0 = .d (.vals 1 (textss xss)) → e.get 1 = .d (.vals 1 (textss xss)) → e.get 5 = .d (.int .i64 i) →
    ∃ e', evLoop (evCode (ev R) R.glob n0 evLoop f11l0) [0, 1, 5] ⟨e, H⟩ = some (.exit 0, ⟨e', H⟩)
  | 0, i, e, hn, h0, h1, h5 => by
    have c : ¬ (i : Int) < ((textss xss).length : Int) := by rw [textss_len]; omega
    rw [evLoop_eq]
    refine ⟨?_, ?_⟩
    rotate_left
    · simp [-List.getD_eq_getElem?_getD, -List.map_map, evBody, evCode, evOps, evOper, evOp, opd, Env.get, Env.put, Env.keep, zipEnv, V.ok, V.sto, V.cells, D.cells, V.isAgg, binD, binInt, binStr, shInt, unD, eqOf, asI, leave, resOf, mapO, fzV, tupOf, view, view1, isData, hand, flatV, flatD, allD, mkAgg, mkVal, beq_lit, IntKind.bits, htake_self, htake_push, hget_hpush_self, hset_push, rowOf_self, okIn, lowIn, lowIn1, fzC_d, fzC_row, f11l0, h0, h1, h5, c]
      try rfl
  | n + 1, i, e, hn, h0, h1, h5 => by
    have c' : i < xss.length := by omega
    have c : (i : Int) < ((textss xss).length : Int) := by rw [textss_len]; omega
    have c2' : i < (textss xss).length := by rw [textss_len]; exact c'
    have g := textss_get xss i c'
    have hsi := hs i
    have p := pureCall_eq (cl := ev R) fun H => e37_same H (xss.getD i []) (by omega)
    have w1 : IntKind.i64.wrap ((i : Int) + 1) = ((i + 1 : Nat) : Int) := by rw [IntWalk.i64_in _ (by omega)]; rfl
    have ih := l11 n0 xss hx hs H n (i + 1)
    simp only [txts] at g p
    generalize List.map D.str (xss.getD i []) = T at g p
    rw [evLoop_eq]
    generalize evLoop (evCode (ev R) R.glob n0 evLoop f11l0) [0, 1, 5] = F at ih ⊢
    simp [-List.getD_eq_getElem?_getD, -List.map_map, evBody, evCode, evOps, evOper, evOp, opd, Env.get, Env.put, Env.keep, zipEnv, V.ok, V.sto, V.cells, D.cells, V.isAgg, binD, binInt, binStr, shInt, unD, eqOf, asI, leave, resOf, mapO, fzV, tupOf, view, view1, isData, hand, flatV, flatD, allD, mkAgg, mkVal, beq_lit, IntKind.bits, htake_self, htake_push, hget_hpush_self, hset_push, rowOf_self, okIn, lowIn, lowIn1, fzC_d, fzC_row, f11l0, h0, h1, h5, c, c2', g, p, w1]
    refine ih _ (by omega) ?_ ?_ ?_ <;> rfl
theorem e11_same (H : Hp) (xss : List (List Txt)) (hx : xss.length ≤ 1048576) (hs : ∀ i, (xss.getD i []).length ≤ 1048576) : ev R 11 [.d (.vals 1 (textss xss)), .d (.vals 1 (textss xss))] H = some (.d (.bool true), H) := by
  refine ev_fn (fn := f11) rfl rfl ?_
  obtain ⟨e', he⟩ := l11 (hlen H) xss hx hs H xss.length 0 [(0, .d (.vals 1 (textss xss))), (1, .d (.vals 1 (textss xss))), (5, .d (.int .i64 0))] (by omega) rfl rfl rfl
  simp [-List.getD_eq_getElem?_getD, -List.map_map, evBody, evCode, evOps, evOper, evOp, opd, Env.get, Env.put, Env.keep, zipEnv, V.ok, V.sto, V.cells, D.cells, V.isAgg, binD, binInt, binStr, shInt, unD, eqOf, asI, leave, resOf, mapO, fzV, tupOf, view, view1, isData, hand, flatV, flatD, allD, mkAgg, mkVal, beq_lit, IntKind.bits, htake_self, htake_push, hget_hpush_self, hset_push, rowOf_self, okIn, lowIn, lowIn1, fzC_d, fzC_row, f11, he]
theorem ordX_len (t : Txt) : (ordX t).length ≤ 8 := by
  unfold ordX
  cases h : pOrder t with
  | ok x r => exact (order_ok t r x h).1.2.2
  | short => simp
  | bad => simp
theorem ordX_short (t : Txt) : ∀ x ∈ ordX t, x.length ≤ 40 := by
  unfold ordX
  cases h : pOrder t with
  | ok x r => exact (order_ok t r x h).1.1
  | short => intro x hx; simp at hx
  | bad => intro x hx; simp at hx
/-- The orders of a record, read one behind the other. -/
def recGo (s : Txt) : Nat → Nat → List (List Txt) → Option (List (List Txt) × Nat)
  | 0, n, acc => some (acc, n)
  | m + 1, n, acc => if ordN (s.drop n) < 1 then none else recGo s m (n + (ordN (s.drop n)).toNat) (acc ++ [ordX (s.drop n)])
def recBad : Int × List (List Txt) × Int := (0, [], 0)
/-- What lies behind a record's head. -/
def recTail (s : Txt) (n : Nat) (a b : Int × Bool) : Int × List (List Txt) × Int :=
  if a.2 = true ∧ b.2 = true ∧ 0 ≤ a.1 ∧ a.1 ≤ 1000000 ∧ 1 ≤ b.1 ∧ b.1 ≤ 60 then
    (match recGo s b.1.toNat n [] with
    | some (xss, k) => (a.1, xss, (k : Int))
    | none => recBad)
  else recBad
/-- A record, read. -/
def recX (s : Txt) : Int × List (List Txt) × Int :=
  if ordN s < 1 then recBad else
  match ordX s with
  | [x0, x1, x2] => if x0 = [65, 84] then recTail s (ordN s).toNat (intV x1) (intV x2) else recBad
  | _ => recBad
/-- What the loop over the orders leaves: the reference's. -/
def Q19 (H : Hp) (a : Int) (p : Option (List (List Txt) × Nat)) (o : Option (Out × St)) : Prop :=
  match p with
  | none => ∃ e' g ys, o = some (.ret, ⟨e', hpush H (.row g 1 ((textss ys).map V.d))⟩) ∧ e'.get 2 = .d (.int .i64 0) ∧ e'.get 3 = .d (.vals 1 []) ∧ e'.get 4 = .d (.int .i64 0)
  | some (xss, k) => ∃ e' g, o = some (.exit 0, ⟨e', hpush H (.row g 1 ((textss xss).map V.d))⟩) ∧ e'.get 6 = .d (.int .i64 k) ∧ e'.get 7 = .d (.int .i64 a) ∧ e'.get 11 = .slc (hlen H) g 0 xss.length
theorem drop_sub (s : Txt) (n : Nat) (h : n ≤ s.length) : n + (ordN (s.drop n)).toNat ≤ s.length := by
  have h1 := ordN_in (s.drop n)
  rw [List.length_drop] at h1
  omega
theorem l19 (n0 : Nat) (s : Txt) (hs : s.length ≤ 1000000000) (H : Hp) (a : Int) (B : Nat) (hB : B ≤ 60) : ∀ (m i n g : Nat) (acc : List (List Txt)) (e : Env), i + m = B → acc.length + m ≤ 60 → n ≤ s.length → e.get 0 = .d (.str s) → e.get 6 = .d (.int .i64 n) → e.get 7 = .d (.int .i64 a) → e.get 9 = .d (.int .i64 B) → e.get 11 = .slc (hlen H) g 0 acc.length → e.get 12 = .d (.int .i64 i) →
    Q19 H a (recGo s m n acc) (evLoop (evCode (ev R) R.glob n0 evLoop f19l0) [0, 6, 7, 9, 11, 12] ⟨e, hpush H (.row g 1 ((textss acc).map V.d))⟩)
  | 0, i, n, g, acc, e, hi, hl, hn, h0, h6, h7, h9, h11, h12 => by
    have c : ¬ (i : Int) < (B : Int) := by omega
    have c' : ¬ i < B := by omega
    rw [evLoop_eq, recGo]
    unfold Q19
    refine ⟨?_, g, ?_, ?_⟩
    rotate_left
    · simp [-List.getD_eq_getElem?_getD, -List.map_map, evBody, evCode, evOps, evOper, evOp, opd, Env.get, Env.put, Env.keep, zipEnv, V.ok, V.sto, V.cells, D.cells, V.isAgg, binD, binInt, binStr, shInt, unD, eqOf, asI, leave, resOf, mapO, fzV, tupOf, view, view1, isData, hand, flatV, flatD, allD, mkAgg, mkVal, beq_lit, IntKind.bits, htake_self, htake_push, hget_hpush_self, hset_push, rowOf_self, okIn, lowIn, lowIn1, fzC_d, fzC_row, f19l0, h0, h6, h7, h9, h11, h12, c, c']
      try rfl
    · simp [-List.getD_eq_getElem?_getD, -List.map_map, evBody, evCode, evOps, evOper, evOp, opd, Env.get, Env.put, Env.keep, zipEnv, V.ok, V.sto, V.cells, D.cells, V.isAgg, binD, binInt, binStr, shInt, unD, eqOf, asI, leave, resOf, mapO, fzV, tupOf, view, view1, isData, hand, flatV, flatD, allD, mkAgg, mkVal, beq_lit, IntKind.bits, htake_self, htake_push, hget_hpush_self, hset_push, rowOf_self, okIn, lowIn, lowIn1, fzC_d, fzC_row, h6, h7, h11]
  | m + 1, i, n, g, acc, e, hi, hl, hn, h0, h6, h7, h9, h11, h12 => by
    have c : (i : Int) < (B : Int) := by omega
    have c' : i < B := by omega
    have p := pureCall_eq (cl := ev R) fun H => e18 H (s.drop n) (by simp; omega)
    have tl : s.take s.length = s := List.take_length
    have b1 : (0 : Int) ≤ (n : Int) := by omega
    have b2 : (n : Int) ≤ (s.length : Int) := by omega
    have w1 : IntKind.i64.wrap ((i : Int) + 1) = ((i + 1 : Nat) : Int) := by rw [IntWalk.i64_in _ (by omega)]; rfl
    have dn := drop_sub s n hn
    have on := ordN_in (s.drop n)
    rw [evLoop_eq, recGo]
    obtain ⟨k, hk⟩ : ∃ k, ordN (s.drop n) = k := ⟨_, rfl⟩
    obtain ⟨x, hx⟩ : ∃ x, ordX (s.drop n) = x := ⟨_, rfl⟩
    rw [hk] at p dn on ⊢
    rw [hx] at p ⊢
    by_cases d : k < 1
    · rw [if_pos d]
      unfold Q19
      refine ⟨?_, g, acc, ?_, ?_⟩
      rotate_left
      · generalize (textss acc).map V.d = vs
        simp [-List.getD_eq_getElem?_getD, -List.map_map, evBody, evCode, evOps, evOper, evOp, opd, Env.get, Env.put, Env.keep, zipEnv, V.ok, V.sto, V.cells, D.cells, V.isAgg, binD, binInt, binStr, shInt, unD, eqOf, asI, leave, resOf, mapO, fzV, tupOf, view, view1, isData, hand, flatV, flatD, allD, mkAgg, mkVal, beq_lit, IntKind.bits, htake_self, htake_push, hget_hpush_self, hset_push, rowOf_self, okIn, lowIn, lowIn1, fzC_d, fzC_row, f19l0, h0, h6, h7, h9, h11, h12, c, c', p, tl, b1, b2, hn, bound, d]
        try rfl
      · simp [-List.getD_eq_getElem?_getD, -List.map_map, evBody, evCode, evOps, evOper, evOp, opd, Env.get, Env.put, Env.keep, zipEnv, V.ok, V.sto, V.cells, D.cells, V.isAgg, binD, binInt, binStr, shInt, unD, eqOf, asI, leave, resOf, mapO, fzV, tupOf, view, view1, isData, hand, flatV, flatD, allD, mkAgg, mkVal, beq_lit, IntKind.bits, htake_self, htake_push, hget_hpush_self, hset_push, rowOf_self, okIn, lowIn, lowIn1, fzC_d, fzC_row]
    · rw [if_neg d]
      have w2 : IntKind.i64.wrap ((n : Int) + k) = ((n + k.toNat : Nat) : Int) := by rw [IntWalk.i64_in _ (by omega)]; omega
      have ih := l19 n0 s hs H a B hB m (i + 1) (n + k.toNat) (g + 1) (acc ++ [x])
      have vl : ((textss acc).map V.d).length = acc.length := by rw [List.length_map, textss_len]
      have va : (textss (acc ++ [x])).map V.d = (textss acc).map V.d ++ [.d (txts x)] := by simp [textss]
      have al : (acc ++ [x]).length = acc.length + 1 := by simp
      rw [va, al] at ih
      have rm : (acc.length + 1) * 24 ≤ room := by unfold room; omega
      generalize ((n + k.toNat : Nat) : Int) = n2 at *
      generalize (textss acc).map V.d = vs at *
      generalize recGo s m (n + k.toNat) (acc ++ [x]) = RG at *
      generalize evLoop (evCode (ev R) R.glob n0 evLoop f19l0) [0, 6, 7, 9, 11, 12] = F at ih ⊢
      simp only [txts] at p ih
      generalize List.map D.str x = T at *
      simp [-List.getD_eq_getElem?_getD, -List.map_map, evBody, evCode, evOps, evOper, evOp, opd, Env.get, Env.put, Env.keep, zipEnv, V.ok, V.sto, V.cells, D.cells, V.isAgg, binD, binInt, binStr, shInt, unD, eqOf, asI, leave, resOf, mapO, fzV, tupOf, view, view1, isData, hand, flatV, flatD, allD, mkAgg, mkVal, beq_lit, IntKind.bits, htake_self, htake_push, hget_hpush_self, hset_push, rowOf_self, okIn, lowIn, lowIn1, fzC_d, fzC_row, f19l0, h0, h6, h7, h9, h11, h12, c, c', p, tl, b1, b2, hn, bound, d, src, vl, rm, w1, w2]
      refine ih _ (by omega) (by omega) (by omega) ?_ ?_ ?_ ?_ ?_ ?_ <;> rfl
theorem tri0 (a b c : D) : [a, b, c].getD 0 .nilp = a := rfl
theorem tri1 (a b c : D) : [a, b, c].getD 1 .nilp = b := rfl
theorem tri2 (a b c : D) : [a, b, c].getD 2 .nilp = c := rfl
theorem recX_not (s : Txt) (h : ¬ (ordX s).length = 3) : recX s = recBad := by
  unfold recX
  split
  · rfl
  · split
    · rename_i x0 x1 x2 e
      rw [e] at h
      simp at h
    · rfl
theorem e19 (H : Hp) (s : Txt) (hs : s.length ≤ 1000000000) : ev R 19 [.d (.str s)] H = some (.tup [.d (.int .i64 (recX s).1), .d (.vals 1 (textss (recX s).2.1)), .d (.int .i64 (recX s).2.2)], H) := by
  refine ev_fn (fn := f19) rfl rfl ?_
  have p := pureCall_eq (cl := ev R) fun H => e18 H s hs
  have on := ordN_in s
  have sh := ordX_short s
  by_cases d : ordN s < 1
  · unfold recX
    rw [if_pos d]
    simp [-List.getD_eq_getElem?_getD, -List.map_map, evBody, evCode, evOps, evOper, evOp, opd, Env.get, Env.put, Env.keep, zipEnv, V.ok, V.sto, V.cells, D.cells, V.isAgg, binD, binInt, binStr, shInt, unD, eqOf, asI, leave, resOf, mapO, fzV, tupOf, view, view1, isData, hand, flatV, flatD, allD, mkAgg, mkVal, beq_lit, IntKind.bits, htake_self, htake_push, hget_hpush_self, hset_push, rowOf_self, okIn, lowIn, lowIn1, fzC_d, fzC_row, f19, p, d, recBad, textss]
  · by_cases l3 : (ordX s).length = 3
    · unfold recX
      rw [if_neg d]
      obtain ⟨x0, x1, x2, e⟩ : ∃ x0 x1 x2, ordX s = [x0, x1, x2] := by
        match ordX s, l3 with
        | [x0, x1, x2], _ => exact ⟨x0, x1, x2, rfl⟩
      rw [e] at p sh ⊢
      simp only
      simp only [txts, List.map_cons, List.map_nil] at p
      by_cases x0e : x0 = [65, 84]
      · subst x0e
        rw [if_pos rfl]
        have s1 := sh x1 (by simp)
        have s2 := sh x2 (by simp)
        have p1 := pureCall_eq (cl := ev R) fun H => e50 H x1 (by omega)
        have p2 := pureCall_eq (cl := ev R) fun H => e50 H x2 (by omega)
        generalize intV x1 = A at p1 ⊢
        generalize intV x2 = B at p2 ⊢
        obtain ⟨a1, a2⟩ := A
        obtain ⟨b1, b2⟩ := B
        have q1 := p30 a1 0 1000000
        have q2 := p30 b1 1 60
        unfold recTail
        cases a2 with
        | false => simp [-List.getD_eq_getElem?_getD, -List.map_map, evBody, evCode, evOps, evOper, evOp, opd, Env.get, Env.put, Env.keep, zipEnv, V.ok, V.sto, V.cells, D.cells, V.isAgg, binD, binInt, binStr, shInt, unD, eqOf, asI, leave, resOf, mapO, fzV, tupOf, view, view1, isData, hand, flatV, flatD, allD, mkAgg, mkVal, beq_lit, IntKind.bits, htake_self, htake_push, hget_hpush_self, hset_push, rowOf_self, okIn, lowIn, lowIn1, fzC_d, fzC_row, f19, tri0, tri1, tri2, p, p1, p2, q1, q2, d, recBad, textss]
        | true =>
          cases b2 with
          | false => simp [-List.getD_eq_getElem?_getD, -List.map_map, evBody, evCode, evOps, evOper, evOp, opd, Env.get, Env.put, Env.keep, zipEnv, V.ok, V.sto, V.cells, D.cells, V.isAgg, binD, binInt, binStr, shInt, unD, eqOf, asI, leave, resOf, mapO, fzV, tupOf, view, view1, isData, hand, flatV, flatD, allD, mkAgg, mkVal, beq_lit, IntKind.bits, htake_self, htake_push, hget_hpush_self, hset_push, rowOf_self, okIn, lowIn, lowIn1, fzC_d, fzC_row, f19, tri0, tri1, tri2, p, p1, p2, q1, q2, d, recBad, textss]
          | true =>
            by_cases c1 : 0 ≤ a1
            · by_cases c2 : a1 ≤ 1000000
              · by_cases c3 : 1 ≤ b1
                · by_cases c4 : b1 ≤ 60
                  · obtain ⟨b, rfl⟩ := Int.eq_ofNat_of_zero_le (show 0 ≤ b1 by omega)
                    obtain ⟨n, hn⟩ := Int.eq_ofNat_of_zero_le (show 0 ≤ ordN s by omega)
                    rw [hn] at p d on ⊢
                    have L := l19 (hlen H) s hs H a1 b (by omega) b 0 n 0 [] [(0, .d (.str s)), (6, .d (.int .i64 n)), (7, .d (.int .i64 a1)), (9, .d (.int .i64 b)), (11, .slc (hlen H) 0 0 0), (12, .d (.int .i64 0))] (by omega) (by simp; omega) (by omega) rfl rfl rfl rfl rfl rfl
                    have e0 : (textss []).map V.d = [] := rfl
                    rw [e0] at L
                    have c3' : 1 ≤ b := by omega
                    have c4' : b ≤ 60 := by omega
                    rw [if_pos ⟨rfl, rfl, c1, c2, c3, c4⟩]
                    simp only [Int.toNat_natCast]
                    have d' : ¬ n = 0 := by omega
                    cases hr : recGo s b n [] with
                    | none =>
                      rw [hr] at L
                      obtain ⟨e', g, ys, he, g2, g3, g4⟩ := L
                      simp [-List.getD_eq_getElem?_getD, -List.map_map, evBody, evCode, evOps, evOper, evOp, opd, Env.get, Env.put, Env.keep, zipEnv, V.ok, V.sto, V.cells, D.cells, V.isAgg, binD, binInt, binStr, shInt, unD, eqOf, asI, leave, resOf, mapO, fzV, tupOf, view, view1, isData, hand, flatV, flatD, allD, mkAgg, mkVal, beq_lit, IntKind.bits, htake_self, htake_push, hget_hpush_self, hset_push, rowOf_self, okIn, lowIn, lowIn1, fzC_d, fzC_row, f19, tri0, tri1, tri2, p, p1, p2, q1, q2, d, d', c1, c2, c3, c4, c3', c4', he, g2, g3, g4, recBad, textss]
                    | some r =>
                      obtain ⟨xss, k⟩ := r
                      rw [hr] at L
                      obtain ⟨e', g, he, g6, g7, g11⟩ := L
                      have fzr : fzC (hlen H) (hpush H (.row g 1 ((textss xss).map V.d))) (.slc (hlen H) g 0 xss.length) = some (.d (.vals 1 (textss xss))) := by
                        have := fzC_row H g 1 (textss xss) xss.length (textss_len xss).symm
                        exact this
                      generalize textss xss = T at *
                      simp [-List.getD_eq_getElem?_getD, -List.map_map, evBody, evCode, evOps, evOper, evOp, opd, Env.get, Env.put, Env.keep, zipEnv, V.ok, V.sto, V.cells, D.cells, V.isAgg, binD, binInt, binStr, shInt, unD, eqOf, asI, leave, resOf, mapO, fzV, tupOf, view, view1, isData, hand, flatV, flatD, allD, mkAgg, mkVal, beq_lit, IntKind.bits, htake_self, htake_push, hget_hpush_self, hset_push, rowOf_self, okIn, lowIn, lowIn1, fzC_d, fzC_row, f19, tri0, tri1, tri2, p, p1, p2, q1, q2, d, d', c1, c2, c3, c4, c3', c4', he, g6, g7, g11, fzr]
                  · simp [-List.getD_eq_getElem?_getD, -List.map_map, evBody, evCode, evOps, evOper, evOp, opd, Env.get, Env.put, Env.keep, zipEnv, V.ok, V.sto, V.cells, D.cells, V.isAgg, binD, binInt, binStr, shInt, unD, eqOf, asI, leave, resOf, mapO, fzV, tupOf, view, view1, isData, hand, flatV, flatD, allD, mkAgg, mkVal, beq_lit, IntKind.bits, htake_self, htake_push, hget_hpush_self, hset_push, rowOf_self, okIn, lowIn, lowIn1, fzC_d, fzC_row, f19, tri0, tri1, tri2, p, p1, p2, q1, q2, d, recBad, textss, c1, c2, c3, c4]
                · simp [-List.getD_eq_getElem?_getD, -List.map_map, evBody, evCode, evOps, evOper, evOp, opd, Env.get, Env.put, Env.keep, zipEnv, V.ok, V.sto, V.cells, D.cells, V.isAgg, binD, binInt, binStr, shInt, unD, eqOf, asI, leave, resOf, mapO, fzV, tupOf, view, view1, isData, hand, flatV, flatD, allD, mkAgg, mkVal, beq_lit, IntKind.bits, htake_self, htake_push, hget_hpush_self, hset_push, rowOf_self, okIn, lowIn, lowIn1, fzC_d, fzC_row, f19, tri0, tri1, tri2, p, p1, p2, q1, q2, d, recBad, textss, c1, c2, c3]
              · simp [-List.getD_eq_getElem?_getD, -List.map_map, evBody, evCode, evOps, evOper, evOp, opd, Env.get, Env.put, Env.keep, zipEnv, V.ok, V.sto, V.cells, D.cells, V.isAgg, binD, binInt, binStr, shInt, unD, eqOf, asI, leave, resOf, mapO, fzV, tupOf, view, view1, isData, hand, flatV, flatD, allD, mkAgg, mkVal, beq_lit, IntKind.bits, htake_self, htake_push, hget_hpush_self, hset_push, rowOf_self, okIn, lowIn, lowIn1, fzC_d, fzC_row, f19, tri0, tri1, tri2, p, p1, p2, q1, q2, d, recBad, textss, c1, c2]
            · simp [-List.getD_eq_getElem?_getD, -List.map_map, evBody, evCode, evOps, evOper, evOp, opd, Env.get, Env.put, Env.keep, zipEnv, V.ok, V.sto, V.cells, D.cells, V.isAgg, binD, binInt, binStr, shInt, unD, eqOf, asI, leave, resOf, mapO, fzV, tupOf, view, view1, isData, hand, flatV, flatD, allD, mkAgg, mkVal, beq_lit, IntKind.bits, htake_self, htake_push, hget_hpush_self, hset_push, rowOf_self, okIn, lowIn, lowIn1, fzC_d, fzC_row, f19, tri0, tri1, tri2, p, p1, p2, q1, q2, d, recBad, textss, c1]
      · rw [if_neg x0e]
        simp [-List.getD_eq_getElem?_getD, -List.map_map, evBody, evCode, evOps, evOper, evOp, opd, Env.get, Env.put, Env.keep, zipEnv, V.ok, V.sto, V.cells, D.cells, V.isAgg, binD, binInt, binStr, shInt, unD, eqOf, asI, leave, resOf, mapO, fzV, tupOf, view, view1, isData, hand, flatV, flatD, allD, mkAgg, mkVal, beq_lit, IntKind.bits, htake_self, htake_push, hget_hpush_self, hset_push, rowOf_self, okIn, lowIn, lowIn1, fzC_d, fzC_row, f19, tri0, tri1, tri2, p, d, recBad, textss, x0e]
    · rw [recX_not s l3]
      have l3' : ¬ ((ordX s).length : Int) = 3 := by omega
      simp [-List.getD_eq_getElem?_getD, -List.map_map, evBody, evCode, evOps, evOper, evOp, opd, Env.get, Env.put, Env.keep, zipEnv, V.ok, V.sto, V.cells, D.cells, V.isAgg, binD, binInt, binStr, shInt, unD, eqOf, asI, leave, resOf, mapO, fzV, tupOf, view, view1, isData, hand, flatV, flatD, allD, mkAgg, mkVal, beq_lit, IntKind.bits, htake_self, htake_push, hget_hpush_self, hset_push, rowOf_self, okIn, lowIn, lowIn1, fzC_d, fzC_row, f19, p, d, recBad, textss, txts, l3, l3']
end Go.Proofs.YtpmphmpaeooeeaaDoor.Code

/- Lemmas (several texts in one). -/
import Derived.Test.YtjdmiodinhlchaaGreatMBaseTick7
/- The reference: orders to fields. -/
namespace Go.Proofs.YtjdmiodinhlchaaGreat.Code
open Go Go.Ev Go.Proofs
set_option maxRecDepth 100000
set_option maxHeartbeats 2000000
set_option linter.unusedSimpArgs false
set_option linter.unusedVariables false
def rHLEN (b : Ba) (k : Txt) : Ba × Re := (b, intRe (rGet b k).fields.length)
def rAllF (xs : List Pr) : List Txt := xs.flatMap fun p => [p.1, p.2]
def rHGETALL (b : Ba) (k : Txt) : Ba × Re := (b, textsRe (rAllF (rGet b k).fields))
def rHGET (b : Ba) (k t : Txt) : Ba × Re := (b, if (vFGet (rGet b k).fields t).2 = true then textRe (vFGet (rGet b k).fields t).1 else noneRe)
def rHDEL (b : Ba) (k t : Txt) : Ba × Re := rKeep b (withFields (rGet b k) (rGet b k).kind (vFDrop (rGet b k).fields t).1) (boolRe (vFDrop (rGet b k).fields t).2)
def rHSET (b : Ba) (k f t : Txt) : Ba × Re := if (vFPut (rGet b k).fields (f, t)).2.2 = true then rKeep b (withFields (rGet b k) 5 (vFPut (rGet b k).fields (f, t)).1) (boolRe (vFPut (rGet b k).fields (f, t)).2.1) else (b, errRe [108, 111, 110, 103])
def sumF (xs : List Pr) (f y : Txt) : Int × Bool := addV (vFGet xs f).1 (vFGet xs f).2 y
def rHINCRBY (b : Ba) (k f y : Txt) : Ba × Re := if (sumF (rGet b k).fields f y).2 = true then (if (vFPut (rGet b k).fields (f, decZ (sumF (rGet b k).fields f y).1)).2.2 = true then rKeep b (withFields (rGet b k) 5 (vFPut (rGet b k).fields (f, decZ (sumF (rGet b k).fields f y).1)).1) (intRe (sumF (rGet b k).fields f y).1) else (b, errRe [108, 111, 110, 103])) else (b, errRe [110, 117, 109, 98, 101, 114])
theorem vFGet_len (xs : List Pr) (f : Txt) (h : PrQ xs) : (vFGet xs f).1.length ≤ 1000000 := by
  unfold vFGet
  split
  · exact (getD_all (P := fun x : Pr => x.1.length ≤ 1000000 ∧ x.2.length ≤ 1000000) h.2 (by simp) _).2
  · simp
theorem p_114_HLEN (b : Ba) (k : Txt)  (hb : BaG b) (hk : k.length ≤ 40)  : pureCall (ev R) 114 [.d (baD b), .d (txts ([[72, 76, 69, 78], k]))] = some (pairD (rHLEN b k)) := pureCall_eq fun H => by
  refine ev_fn (fn := f114) rfl rfl ?_
  have p1 := p_47 b k hb.sm
  have q := rGet_q hb (t := k) (by omega)
  unfold rHLEN
  have eN := p_108 [110, 117, 109, 98, 101, 114]
  have eL := p_108 [108, 111, 110, 103]
  have eP := p_108 [112, 108, 97, 99, 101]
  have eO := p_108 [110, 111, 110, 101]
  have no := p_129
  generalize rGet b k = e at *
  obtain ⟨key, till, kind, text, list, scores, fields⟩ := e
  obtain ⟨q1, q2, q3, q4, q5, q6, q7, q8, q9, q10⟩ := q
  dsimp only [withList, withScores, withFields, withText] at *
  have p2 := p_131 fields.length
  simp (maxSteps := 1000000) [evL, -List.getD_eq_getElem?_getD, -List.map_map, f114, p1, eN, eL, eP, eO, no, pairD, p2, intRe]
theorem p_114_HGET (b : Ba) (k : Txt) (t : Txt) (hb : BaG b) (hk : k.length ≤ 40) (ht : t.length ≤ 40) : pureCall (ev R) 114 [.d (baD b), .d (txts ([[72, 71, 69, 84], k, t]))] = some (pairD (rHGET b k t)) := pureCall_eq fun H => by
  refine ev_fn (fn := f114) rfl rfl ?_
  have p1 := p_47 b k hb.sm
  have q := rGet_q hb (t := k) (by omega)
  unfold rHGET
  have eN := p_108 [110, 117, 109, 98, 101, 114]
  have eL := p_108 [108, 111, 110, 103]
  have eP := p_108 [112, 108, 97, 99, 101]
  have eO := p_108 [110, 111, 110, 101]
  have no := p_129
  generalize rGet b k = e at *
  obtain ⟨key, till, kind, text, list, scores, fields⟩ := e
  obtain ⟨q1, q2, q3, q4, q5, q6, q7, q8, q9, q10⟩ := q
  dsimp only [withList, withScores, withFields, withText] at *
  have pv := v_154 fields t (by omega)
  generalize vFGet fields t = V at *
  obtain ⟨vs, vo⟩ := V
  dsimp only at *
  have p2 := p_130 vs
  cases vo
  · simp (maxSteps := 1000000) [evL, -List.getD_eq_getElem?_getD, -List.map_map, f114, p1, eN, eL, eP, eO, no, pairD, pv, noneRe]
  · simp (maxSteps := 1000000) [evL, -List.getD_eq_getElem?_getD, -List.map_map, f114, p1, eN, eL, eP, eO, no, pairD, pv, p2, textRe]
theorem p_114_HDEL (b : Ba) (k : Txt) (t : Txt) (hb : BaG b) (hk : k.length ≤ 40) (ht : t.length ≤ 40) : pureCall (ev R) 114 [.d (baD b), .d (txts ([[72, 68, 69, 76], k, t]))] = some (pairD (rHDEL b k t)) := pureCall_eq fun H => by
  refine ev_fn (fn := f114) rfl rfl ?_
  have p1 := p_47 b k hb.sm
  have q := rGet_q hb (t := k) (by omega)
  unfold rHDEL
  have eN := p_108 [110, 117, 109, 98, 101, 114]
  have eL := p_108 [108, 111, 110, 103]
  have eP := p_108 [112, 108, 97, 99, 101]
  have eO := p_108 [110, 111, 110, 101]
  have no := p_129
  generalize rGet b k = e at *
  obtain ⟨key, till, kind, text, list, scores, fields⟩ := e
  obtain ⟨q1, q2, q3, q4, q5, q6, q7, q8, q9, q10⟩ := q
  dsimp only [withList, withScores, withFields, withText] at *
  have vq := vFDrop_q fields t ⟨q7, q8⟩
  have pv := v_155 fields t (by omega)
  generalize vFDrop fields t = V at *
  obtain ⟨vl, vo⟩ := V
  dsimp only at *
  have q : EnQ ⟨key, till, kind, text, list, scores, vl⟩ := ⟨q1, q2, q3, q4, q5, q6, vq.1, vq.2, q9, by dsimp only; omega⟩
  have p2 := p_144 vo
  have p3 := p_132 b _ (boolRe vo) hb.sm q.sm q.fit
  generalize rKeep b ⟨key, till, kind, text, list, scores, vl⟩ (boolRe vo) = P at *
  simp (maxSteps := 1000000) [evL, -List.getD_eq_getElem?_getD, -List.map_map, f114, p1, eN, eL, eP, eO, no, pairD, pv, p2, p3]
theorem p_114_HSET (b : Ba) (k : Txt) (f : Txt) (t : Txt) (hb : BaG b) (hk : k.length ≤ 40) (hf : f.length ≤ 40) (ht : t.length ≤ 40) : pureCall (ev R) 114 [.d (baD b), .d (txts ([[72, 83, 69, 84], k, f, t]))] = some (pairD (rHSET b k f t)) := pureCall_eq fun H => by
  refine ev_fn (fn := f114) rfl rfl ?_
  have p1 := p_47 b k hb.sm
  have q := rGet_q hb (t := k) (by omega)
  unfold rHSET
  have eN := p_108 [110, 117, 109, 98, 101, 114]
  have eL := p_108 [108, 111, 110, 103]
  have eP := p_108 [112, 108, 97, 99, 101]
  have eO := p_108 [110, 111, 110, 101]
  have no := p_129
  generalize rGet b k = e at *
  obtain ⟨key, till, kind, text, list, scores, fields⟩ := e
  obtain ⟨q1, q2, q3, q4, q5, q6, q7, q8, q9, q10⟩ := q
  dsimp only [withList, withScores, withFields, withText] at *
  have vq := vFPut_q fields (f, t) ⟨q7, q8⟩
  have pv := v_105 fields (f, t) (by omega)
  generalize vFPut fields (f, t) = V at *
  obtain ⟨vl, vf, vo⟩ := V
  dsimp only at *
  have q : EnQ ⟨key, till, 5, text, list, scores, vl⟩ := ⟨q1, q2, q3, q4, q5, q6, vq.1, vq.2, q9, by dsimp only; omega⟩
  have p2 := p_144 vf
  have p3 := p_132 b _ (boolRe vf) hb.sm q.sm q.fit
  generalize rKeep b ⟨key, till, 5, text, list, scores, vl⟩ (boolRe vf) = P at *
  cases vo
  · simp (maxSteps := 1000000) [evL, -List.getD_eq_getElem?_getD, -List.map_map, f114, p1, eN, eL, eP, eO, no, pairD, pv, errRe]
  · simp (maxSteps := 1000000) [evL, -List.getD_eq_getElem?_getD, -List.map_map, f114, p1, eN, eL, eP, eO, no, pairD, pv, p2, p3]
theorem p_114_HINCRBY (b : Ba) (k : Txt) (f : Txt) (y : Txt) (hb : BaG b) (hk : k.length ≤ 40) (hf : f.length ≤ 40) (hy : y.length ≤ 40) : pureCall (ev R) 114 [.d (baD b), .d (txts ([[72, 73, 78, 67, 82, 66, 89], k, f, y]))] = some (pairD (rHINCRBY b k f y)) := pureCall_eq fun H => by
  refine ev_fn (fn := f114) rfl rfl ?_
  have p1 := p_47 b k hb.sm
  have q := rGet_q hb (t := k) (by omega)
  unfold rHINCRBY
  have eN := p_108 [110, 117, 109, 98, 101, 114]
  have eL := p_108 [108, 111, 110, 103]
  have eP := p_108 [112, 108, 97, 99, 101]
  have eO := p_108 [110, 111, 110, 101]
  have no := p_129
  generalize rGet b k = e at *
  obtain ⟨key, till, kind, text, list, scores, fields⟩ := e
  obtain ⟨q1, q2, q3, q4, q5, q6, q7, q8, q9, q10⟩ := q
  dsimp only [withList, withScores, withFields, withText] at *
  unfold sumF
  have gl := vFGet_len fields f ⟨q7, q8⟩
  have pv := v_154 fields f (by omega)
  generalize vFGet fields f = V at *
  obtain ⟨gs, go⟩ := V
  dsimp only at *
  have pa := p_135 gs go y (by omega) (by omega)
  have ai := addV_in gs go y
  generalize addV gs go y = A at *
  obtain ⟨n, ao⟩ := A
  dsimp only at *
  have pd := p_83 n ai
  have pw := v_105 fields (f, decZ n) (by omega)
  have vq := vFPut_q fields (f, decZ n) ⟨q7, q8⟩
  generalize decZ n = D at *
  generalize vFPut fields (f, D) = V at *
  obtain ⟨vl, vf, vo⟩ := V
  dsimp only at *
  have q : EnQ ⟨key, till, 5, text, list, scores, vl⟩ := ⟨q1, q2, q3, q4, q5, q6, vq.1, vq.2, q9, by dsimp only; omega⟩
  have p2 := p_131 n
  have p3 := p_132 b _ (intRe n) hb.sm q.sm q.fit
  generalize rKeep b ⟨key, till, 5, text, list, scores, vl⟩ (intRe n) = P at *
  unfold intRe at p3
  cases ao
  · simp (maxSteps := 1000000) [evL, -List.getD_eq_getElem?_getD, -List.map_map, f114, p1, eN, eL, eP, eO, no, pairD, pv, pa, errRe]
  · cases vo
    · simp (maxSteps := 1000000) [evL, -List.getD_eq_getElem?_getD, -List.map_map, f114, p1, eN, eL, eP, eO, no, pairD, pv, pa, pd, pw, errRe]
    · simp (maxSteps := 1000000) [evL, -List.getD_eq_getElem?_getD, -List.map_map, f114, p1, eN, eL, eP, eO, no, pairD, pv, pa, pd, pw, p2, p3]
end Go.Proofs.YtjdmiodinhlchaaGreat.Code
/- Patterns: the reference's way. -/
namespace Go.Proofs.YtjdmiodinhlchaaGreat.Code
open Go Go.Ev Go.Proofs
set_option maxRecDepth 100000
set_option maxHeartbeats 2000000
set_option linter.unusedSimpArgs false
set_option linter.unusedVariables false
def matchV : Txt → Txt → Bool
  | [], s => decide (s = [])
  | c :: p, [] => if c = 42 then matchV p [] else false
  | c :: p, x :: s => if c = 42 then matchV p (x :: s) || matchV (c :: p) s else (decide (c = 63) || decide (c = x)) && matchV p s
termination_by p s => p.length + s.length
theorem p_30n : ∀ (n : Nat) (p s : Txt), p.length + s.length ≤ n → p.length ≤ 1000000 → s.length ≤ 1000000 → pureCall (ev R) 30 [.d (.str p), .d (.str s)] = some (.d (.bool (matchV p s)))
  | n, [], s, h, hp, hs => pureCall_eq fun H => by
    refine ev_fn (fn := f30) rfl rfl ?_
    cases s with
    | nil => simp (maxSteps := 1000000) [evL, -List.getD_eq_getElem?_getD, -List.map_map, f30, matchV]
    | cons x s => simp (maxSteps := 1000000) [evL, -List.getD_eq_getElem?_getD, -List.map_map, f30, matchV]
  | 0, c :: p, s, h, hp, hs => by simp at h
  | n + 1, c :: p, [], h, hp, hs => pureCall_eq fun H => by
    refine ev_fn (fn := f30) rfl rfl ?_
    have l0 : (0 : Int) < (p.length : Int) + 1 := by omega
    have l1 : (1 : Int) ≤ (p.length : Int) + 1 := by omega
    have l2 : (0 : Int) ≤ (p.length : Int) + 1 := by omega
    have tp : p.take p.length = p := List.take_length
    by_cases a : c = 42
    · subst a
      have ih := p_30n n p [] (by simp at h ⊢; omega) (by simp at hp; omega) (by simp)
      rw [matchV, if_pos rfl]
      cases hm : matchV p [] with
      | false => rw [hm] at ih; simp (maxSteps := 1000000) [evL, -List.getD_eq_getElem?_getD, -List.map_map, f30, ih, l0, l1, l2, tp]
      | true => rw [hm] at ih; simp (maxSteps := 1000000) [evL, -List.getD_eq_getElem?_getD, -List.map_map, f30, ih, l0, l1, l2, tp]
    · have a' : ¬ c.toNat = 42 := fun h => a (UInt8.toNat_inj.1 h)
      have a'' : ¬ (c.toNat : Int) = 42 := fun h => a' (by omega)
      rw [matchV, if_neg a]
      simp (maxSteps := 1000000) [evL, -List.getD_eq_getElem?_getD, -List.map_map, f30, l0, l1, l2, tp, eq_false a, eq_false a', eq_false a'']
  | n + 1, c :: p, x :: s, h, hp, hs => pureCall_eq fun H => by
    refine ev_fn (fn := f30) rfl rfl ?_
    have l0 : (0 : Int) < (p.length : Int) + 1 := by omega
    have l1 : (1 : Int) ≤ (p.length : Int) + 1 := by omega
    have l2 : (0 : Int) ≤ (p.length : Int) + 1 := by omega
    have tp : p.take p.length = p := List.take_length
    have m0 : (0 : Int) < (s.length : Int) + 1 := by omega
    have m1 : (1 : Int) ≤ (s.length : Int) + 1 := by omega
    have m2 : (0 : Int) ≤ (s.length : Int) + 1 := by omega
    have ts : s.take s.length = s := List.take_length
    simp only [List.length_cons] at h hp hs
    by_cases a : c = 42
    · subst a
      have ih := p_30n n p (x :: s) (by simp only [List.length_cons]; omega) (by omega) (by simp only [List.length_cons]; omega)
      have ih2 := p_30n n (42 :: p) s (by simp only [List.length_cons]; omega) (by simp only [List.length_cons]; omega) (by omega)
      rw [matchV, if_pos rfl]
      cases hm : matchV p (x :: s) with
      | false => rw [hm] at ih; simp (maxSteps := 1000000) [evL, -List.getD_eq_getElem?_getD, -List.map_map, f30, ih, ih2, l0, l1, l2, tp, m0, m1, m2, ts]
      | true => rw [hm] at ih; simp (maxSteps := 1000000) [evL, -List.getD_eq_getElem?_getD, -List.map_map, f30, ih, l0, l1, l2, tp, m0, m1, m2, ts]
    · have a' : ¬ c.toNat = 42 := fun h => a (UInt8.toNat_inj.1 h)
      have a'' : ¬ (c.toNat : Int) = 42 := fun h => a' (by omega)
      have ih := p_30n n p s (by omega) (by omega) (by omega)
      rw [matchV, if_neg a]
      by_cases b : c = 63
      · subst b
        simp (maxSteps := 1000000) [evL, -List.getD_eq_getElem?_getD, -List.map_map, f30, ih, l0, l1, l2, tp, m0, m1, m2, ts, eq_false a, eq_false a', eq_false a'']
      · have b' : ¬ c.toNat = 63 := fun h => b (UInt8.toNat_inj.1 h)
        have b'' : ¬ (c.toNat : Int) = 63 := fun h => b' (by omega)
        by_cases d : c = x
        · subst d
          simp (maxSteps := 1000000) [evL, -List.getD_eq_getElem?_getD, -List.map_map, f30, ih, l0, l1, l2, tp, m0, m1, m2, ts, eq_false a, eq_false a', eq_false a'', eq_false b, eq_false b', eq_false b'']
        · have d' : ¬ c.toNat = x.toNat := fun h => d (UInt8.toNat_inj.1 h)
          have d'' : ¬ (c.toNat : Int) = (x.toNat : Int) := fun h => d' (by omega)
          simp (maxSteps := 1000000) [evL, -List.getD_eq_getElem?_getD, -List.map_map, f30, l0, l1, l2, tp, m0, m1, m2, ts, eq_false a, eq_false a', eq_false a'', eq_false b, eq_false b', eq_false b'', eq_false d, eq_false d', eq_false d'']
theorem p_30 (p s : Txt) (hp : p.length ≤ 1000000) (hs : s.length ≤ 1000000) : pureCall (ev R) 30 [.d (.str p), .d (.str s)] = some (.d (.bool (matchV p s))) := p_30n _ p s (Nat.le_refl _) hp hs
end Go.Proofs.YtjdmiodinhlchaaGreat.Code
/- The reference: all fields told; orders to any entry. -/
namespace Go.Proofs.YtjdmiodinhlchaaGreat.Code
open Go Go.Ev Go.Proofs
set_option maxRecDepth 100000
set_option maxHeartbeats 2000000
set_option linter.unusedSimpArgs false
set_option linter.unusedVariables false
theorem rAllF_len (xs : List Pr) : (rAllF xs).length = 2 * xs.length := by
  unfold rAllF
  induction xs with
  | nil => rfl
  | cons x xs ih => rw [List.flatMap_cons, List.length_append, ih]; simp; omega
theorem rAllF_snoc (xs : List Pr) (i : Nat) (hi : i < xs.length) : rAllF (xs.take (i + 1)) = rAllF (xs.take i) ++ [(xs.getD i ([], [])).1, (xs.getD i ([], [])).2] := by
  rw [take_snoc' xs i ([], []) hi]
  simp only [rAllF, List.flatMap_append, List.flatMap_cons, List.flatMap_nil, List.append_nil]
theorem l_114 (H : Hp) (A B C : Ev.Obj) (E : En) (hf : E.fields.length ≤ 1000) :
    Gives (fun o e X => o = .exit 1 ∧ X = ap H [A, B, C, .row 0 7 [.d (enD E)], .row E.fields.length 1 (((rAllF E.fields).map D.str).map V.d)] ∧ e.get 2 = .ptr (hlen H) 0 0 0 ∧ e.get 4 = .ptr (hlen H + 1) 0 0 0 ∧ e.get 5 = .ptr (hlen H + 2) 0 0 0 ∧ e.get 7 = .slc (hlen H + 4) E.fields.length 0 (2 * E.fields.length))
      (evLoop (evCode (ev R) R.glob (hlen H) evLoop f114l0) [2, 4, 5, 6, 7, 8] ⟨[(2, .ptr (hlen H) 0 0 0), (4, .ptr (hlen H + 1) 0 0 0), (5, .ptr (hlen H + 2) 0 0 0), (6, .ptr (hlen H + 3) 0 0 0), (7, .slc (hlen H + 4) 0 0 0), (8, .d (.int .i64 0))], ap H [A, B, C, .row 0 7 [.d (enD E)], .row 0 1 []]⟩) := by
  refine loop_keep (F := evCode (ev R) R.glob (hlen H) evLoop f114l0) (lv := [2, 4, 5, 6, 7, 8]) E.fields.length
    (fun i e X => ∃ zs : List Txt, zs = rAllF (E.fields.take i) ∧ X = ap H [A, B, C, .row 0 7 [.d (enD E)], .row i 1 ((zs.map D.str).map V.d)] ∧ e.get 2 = .ptr (hlen H) 0 0 0 ∧ e.get 4 = .ptr (hlen H + 1) 0 0 0 ∧ e.get 5 = .ptr (hlen H + 2) 0 0 0 ∧ e.get 6 = .ptr (hlen H + 3) 0 0 0 ∧ e.get 7 = .slc (hlen H + 4) i 0 (2 * i) ∧ e.get 8 = .d (.int .i64 i))
    _ ?_ ?_ E.fields.length 0 _ _ (by omega) ⟨[], by simp [rAllF], rfl, rfl, rfl, rfl, rfl, rfl, rfl⟩
  · rintro e X ⟨zs, hz, rfl, g2, g4, g5, g6, g7, g8⟩
    rw [List.take_length] at hz
    subst hz
    generalize rAllF E.fields = zs
    simp (maxSteps := 1000000) [evL, -List.getD_eq_getElem?_getD, -List.map_map, f114l0, g2, g4, g5, g6, g7, g8]
  · rintro i e X hi ⟨zs, hz, rfl, g2, g4, g5, g6, g7, g8⟩
    have c : (i : Int) < (E.fields.length : Int) := by omega
    have c0 : (0 : Int) ≤ (i : Int) := by omega
    have g := prs_get' E.fields i hi
    have hn := rAllF_snoc E.fields i hi
    rw [← hz] at hn
    have hl : zs.length = 2 * i := by rw [hz, rAllF_len, List.length_take]; omega
    have w1 : IntKind.i64.wrap ((i : Int) + 1) = (i : Int) + 1 := IntWalk.i64_in _ (by omega)
    have r : (2 * i + 2) * 16 ≤ room := by unfold room; omega
    have h2 : 2 * (i + 1) = 2 * i + 2 := by omega
    generalize E.fields.getD i ([], []) = x at *
    simp (maxSteps := 1000000) [evL, -List.getD_eq_getElem?_getD, -List.map_map, f114l0, g2, g4, g5, g6, g7, g8, c, c0, hi, g, hn, hl, w1, r, h2]
theorem p_114_HGETALL (b : Ba) (k : Txt) (hb : BaG b) (hk : k.length ≤ 40) : pureCall (ev R) 114 [.d (baD b), .d (txts [[72, 71, 69, 84, 65, 76, 76], k])] = some (pairD (rHGETALL b k)) := pureCall_eq fun H => by
  refine ev_fn (fn := f114) rfl rfl ?_
  have p1 := p_47 b k hb.sm
  have q := rGet_q hb (t := k) (by omega)
  unfold rHGETALL
  generalize rGet b k = e at *
  have lp := fun A B C => (l_114 H A B C e q.fields).out
  have p2 := fun H => pureCall_some (p_141 (rAllF e.fields)) H
  have hl := rAllF_len e.fields
  generalize rAllF e.fields = zs at *
  obtain ⟨o, e', X', he, rfl, rfl, g2, g4, g5, g7⟩ := lp (.row 0 2 [.d (baD b)]) (.row 0 2 [.agg [.d (.int .i64 0), .nils 7]]) (.row 0 5 [.agg [.d (.int .i64 0), .d (.int .i64 0), .d (.str []), .nils 1, .nils 5]])
  have ft : List.take (2 * e.fields.length) (zs.map D.str) = zs.map D.str := List.take_of_length_le (by simp; omega)
  have ft2 : 2 * e.fields.length ≤ zs.length := by omega
  simp (maxSteps := 1000000) [evL, -List.getD_eq_getElem?_getD, -List.map_map, f114, p1, p2, he, g2, g4, g5, g7, pairD, textsRe, ft, ft2]
end Go.Proofs.YtjdmiodinhlchaaGreat.Code
/- The reference: keys as a pattern. -/
namespace Go.Proofs.YtjdmiodinhlchaaGreat.Code
open Go Go.Ev Go.Proofs
set_option maxRecDepth 100000
set_option maxHeartbeats 2000000
set_option linter.unusedSimpArgs false
set_option linter.unusedVariables false
def fKeys (p : Txt) (es : List En) : List Txt := (es.filter fun e => matchV p e.key).map (·.key)
def vKeys (b : Ba) (p : Txt) : List Txt := if baseOk b = true ∧ p.length ≤ 12 then fKeys p b.ents else []
theorem fKeys_snoc (p : Txt) (es : List En) (i : Nat) (hi : i < es.length) : fKeys p (es.take (i + 1)) = fKeys p (es.take i) ++ (if matchV p (es.getD i default).key = true then [(es.getD i default).key] else []) := by
  unfold fKeys
  rw [take_fil _ es i default hi, List.map_append]
  cases matchV p (es.getD i default).key <;> rfl
theorem fKeys_len (p : Txt) (es : List En) : (fKeys p es).length ≤ es.length := by
  unfold fKeys
  rw [List.length_map]
  exact List.length_filter_le _ _
theorem p_10 (b : Ba) (p : Txt) (hb : BaSm b) (hf : BaFit b) (hp : p.length ≤ 1000000) : pureCall (ev R) 10 [.d (baD b), .d (.str p)] = some (.d (txts (vKeys b p))) := pureCall_eq fun H => by
  refine ev_fn (fn := f10) rfl rfl ?_
  have p1 := p_11 b hf
  unfold vKeys
  have hbl := hb.len
  by_cases hg : baseOk b = true ∧ p.length ≤ 12
  · rw [if_pos hg]
    rw [hg.1] at p1
    have hg2 : (p.length : Int) ≤ 12 := by have := hg.2; omega
    have hem : ∀ e ∈ b.ents, enOk e = true := by
      have h := hg.1
      unfold baseOk at h
      simp only [Bool.and_eq_true, Bool.not_eq_true'] at h
      refine getD_mem_iff default fun i hi => ?_
      have := anyF_none h.1 i (by omega) (by omega)
      unfold badEn badE at this
      simp only [Bool.or_eq_false_iff, Bool.not_eq_false'] at this
      exact this.1.1
    have lp := (loop_keep (F := evCode (ev R) R.glob (hlen H) evLoop f10l0) (lv := [1, 2, 5, 6]) b.ents.length
      (fun i e X => ∃ zs : List Txt, zs = fKeys p (b.ents.take i) ∧ X = ap H [.row 0 2 [.d (baD b)], .row zs.length 1 ((zs.map D.str).map V.d)] ∧ e.get 1 = .d (.str p) ∧ e.get 2 = .ptr (hlen H) 0 0 0 ∧ e.get 5 = .slc (hlen H + 1) zs.length 0 zs.length ∧ e.get 6 = .d (.int .i64 i))
      (fun o e X => ∃ zs : List Txt, zs = fKeys p b.ents ∧ o = .exit 0 ∧ X = ap H [.row 0 2 [.d (baD b)], .row zs.length 1 ((zs.map D.str).map V.d)] ∧ e.get 5 = .slc (hlen H + 1) zs.length 0 zs.length)
      (by
        rintro e X ⟨zs, hz, rfl, g1, g2, g5, g6⟩
        rw [List.take_length] at hz
        have key : evCode (ev R) R.glob (hlen H) evLoop f10l0 ⟨e.keep [1, 2, 5, 6], ap H [.row 0 2 [.d (baD b)], .row zs.length 1 ((zs.map D.str).map V.d)]⟩ = some (.exit 0, ⟨[(1, .d (.str p)), (2, .ptr (hlen H) 0 0 0), (5, .slc (hlen H + 1) zs.length 0 zs.length), (6, .d (.int .i64 b.ents.length)), (21, .d (.bool false))], ap H [.row 0 2 [.d (baD b)], .row zs.length 1 ((zs.map D.str).map V.d)]⟩) := by
          simp (maxSteps := 1000000) [evL, -List.getD_eq_getElem?_getD, -List.map_map, f10l0, g1, g2, g5, g6]
        rw [key]
        exact ⟨by simp, zs, hz, rfl, rfl, rfl⟩)
      (by
        rintro i e X hi ⟨zs, hz, rfl, g1, g2, g5, g6⟩
        have c : (i : Int) < (b.ents.length : Int) := by omega
        have c0 : (0 : Int) ≤ (i : Int) := by omega
        have g := ents_get b.ents i hi
        have hn := fKeys_snoc p b.ents i hi
        have hl : zs.length ≤ i := by rw [hz]; exact Nat.le_trans (fKeys_len _ _) (by rw [List.length_take]; omega)
        rw [← hz] at hn
        have hk := (enOk_is (hem _ (getD_in hi : b.ents.getD i default ∈ b.ents))).key
        have p2 := p_30 p (b.ents.getD i default).key hp (by omega)
        have w1 : IntKind.i64.wrap ((i : Int) + 1) = ((i + 1 : Nat) : Int) := by rw [IntWalk.i64_in _ (by omega)]; rfl
        have r : (zs.length + 1) * 16 ≤ room := by unfold room; omega
        generalize b.ents.getD i default = E at *
        cases hm : matchV p E.key with
        | false =>
          rw [hm] at p2 hn
          simp only [Bool.false_eq_true, if_false, List.append_nil] at hn
          simp (maxSteps := 1000000) [evL, -List.getD_eq_getElem?_getD, -List.map_map, f10l0, g1, g2, g5, g6, c, c0, hi, g, p1, p2, hg2, w1, r, hn]
        | true =>
          rw [hm] at p2 hn
          simp only [if_true] at hn
          simp (maxSteps := 1000000) [evL, -List.getD_eq_getElem?_getD, -List.map_map, f10l0, g1, g2, g5, g6, c, c0, hi, g, p1, p2, hg2, w1, r, hn])
      b.ents.length 0 [(1, .d (.str p)), (2, .ptr (hlen H) 0 0 0), (5, .slc (hlen H + 1) 0 0 0), (6, .d (.int .i64 0))] (ap H [.row 0 2 [.d (baD b)], .row 0 1 []]) (by omega) ⟨[], by simp [fKeys], rfl, rfl, rfl, rfl, rfl⟩).out
    obtain ⟨o, e', X', he, zs, hz, rfl, rfl, g5⟩ := lp
    rw [← hz]
    have ft : List.take zs.length ((zs.map D.str).map V.d) = (zs.map D.str).map V.d := List.take_of_length_le (by simp)
    simp (maxSteps := 1000000) [evL, -List.getD_eq_getElem?_getD, -List.map_map, f10, he, g5, ft]
  · rw [if_neg hg]
    have st : evCode (ev R) R.glob (hlen H) evLoop f10l0 ⟨Env.keep [(1, .d (.str p)), (2, .ptr (hlen H) 0 0 0), (5, .slc (hlen H + 1) 0 0 0), (6, .d (.int .i64 0))] [1, 2, 5, 6], ap H [.row 0 2 [.d (baD b)], .row 0 1 []]⟩ = some (.exit 0, ⟨[(1, .d (.str p)), (2, .ptr (hlen H) 0 0 0), (5, .slc (hlen H + 1) 0 0 0), (6, .d (.int .i64 0)), (21, .d (.bool false))], ap H [.row 0 2 [.d (baD b)], .row 0 1 []]⟩) := by
      by_cases h0 : b.ents.length = 0
      · have h0' : ¬ (0 : Int) < (b.ents.length : Int) := by omega
        have h0'' : b.ents = [] := List.eq_nil_of_length_eq_zero h0
        simp (maxSteps := 1000000) [evL, -List.getD_eq_getElem?_getD, -List.map_map, f10l0, h0', h0'']
      · have h0' : (0 : Int) < (b.ents.length : Int) := by omega
        have h0'' : b.ents ≠ [] := fun h => h0 (by rw [h]; rfl)
        have h0''' : 0 < b.ents.length := by omega
        cases hk : baseOk b with
        | false => rw [hk] at p1; simp (maxSteps := 1000000) [evL, -List.getD_eq_getElem?_getD, -List.map_map, f10l0, h0', h0'', h0''', p1]
        | true =>
          rw [hk] at p1
          have hp2 : ¬ (p.length : Int) ≤ 12 := fun h => hg ⟨hk, by omega⟩
          simp (maxSteps := 1000000) [evL, -List.getD_eq_getElem?_getD, -List.map_map, f10l0, h0', h0'', h0''', p1, hp2]
    have he := evLoop_stop (F := evCode (ev R) R.glob (hlen H) evLoop f10l0) (lv := [1, 2, 5, 6]) (st := ⟨[(1, .d (.str p)), (2, .ptr (hlen H) 0 0 0), (5, .slc (hlen H + 1) 0 0 0), (6, .d (.int .i64 0))], ap H [.row 0 2 [.d (baD b)], .row 0 1 []]⟩) st (by simp)
    simp (maxSteps := 1000000) [evL, -List.getD_eq_getElem?_getD, -List.map_map, f10, he]
end Go.Proofs.YtjdmiodinhlchaaGreat.Code
/- The reference: orders to any entry. -/
namespace Go.Proofs.YtjdmiodinhlchaaGreat.Code
open Go Go.Ev Go.Proofs
set_option maxRecDepth 100000
set_option maxHeartbeats 2000000
set_option linter.unusedSimpArgs false
set_option linter.unusedVariables false
def rDBSIZE (b : Ba) : Ba × Re := (b, intRe b.ents.length)
def rFLUSH (b : Ba) : Ba × Re := (⟨b.now, []⟩, okRe)
def rKEYS (b : Ba) (p : Txt) : Ba × Re := (b, textsRe (vKeys b p))
def rTYPE (b : Ba) (k : Txt) : Ba × Re := (b, textRe (typeV (rGet b k).kind.toNat))
def rTTL (b : Ba) (k : Txt) : Ba × Re := (b, if (rGet b k).kind = 0 then intRe (-2) else if (rGet b k).till = 0 then intRe (-1) else intRe ((rGet b k).till - b.now))
def withTill (e : En) (n : Int) : En := ⟨e.key, n, e.kind, e.text, e.list, e.scores, e.fields⟩
def withKey (e : En) (k : Txt) : En := ⟨k, e.till, e.kind, e.text, e.list, e.scores, e.fields⟩
def rPERSIST (b : Ba) (k : Txt) : Ba × Re := rKeep b (withTill (rGet b k) 0) (boolRe (!decide ((rGet b k).till = 0)))
def rRENAME (b : Ba) (k m : Txt) : Ba × Re := if (rGet b k).kind = 0 then (b, errRe [110, 111, 110, 101]) else rKeep (rDel b k) (withKey (rGet b k) m) okRe
def rUNTIL (b : Ba) (k : Txt) (n : Int) : Ba × Re := if (rGet b k).kind = 0 then (b, intRe 0) else if n ≤ b.now then (rDel b k, intRe 1) else rKeep b (withTill (rGet b k) n) (intRe 1)
def rEXPIRE (b : Ba) (k y : Txt) : Ba × Re := if (intV y).2 = true ∧ (intV y).1 ≤ 1000000 then rUNTIL b k (b.now + (intV y).1) else (b, errRe [110, 117, 109, 98, 101, 114])
def rEXPIREAT (b : Ba) (k y : Txt) : Ba × Re := if (intV y).2 = true ∧ (intV y).1 ≤ 2000000 then rUNTIL b k (intV y).1 else (b, errRe [110, 117, 109, 98, 101, 114])
def delStep (ks : List Txt) (i : Nat) (s : Ba × Nat) : Ba × Nat := (rDel s.1 (ks.getD i []), s.2 + (if kHas s.1.ents (ks.getD i []) = true then 1 else 0))
def rDELS (b : Ba) (ks : List Txt) : Ba × Nat := (List.range' 0 ks.length).foldl (fun s i => delStep ks i s) (b, 0)
def exStep (ks : List Txt) (i : Nat) (s : Ba × Nat) : Ba × Nat := (s.1, s.2 + (if kHas s.1.ents (ks.getD i []) = true then 1 else 0))
def rEXS (b : Ba) (ks : List Txt) : Ba × Nat := (List.range' 0 ks.length).foldl (fun s i => exStep ks i s) (b, 0)
def rDEL (b : Ba) (ks : List Txt) : Ba × Re := ((rDELS b ks).1, intRe (rDELS b ks).2)
def rEXISTS (b : Ba) (ks : List Txt) : Ba × Re := ((rEXS b ks).1, intRe (rEXS b ks).2)
theorem rGet_kind {b : Ba} (h : BaG b) (t : Txt) : 0 ≤ (rGet b t).kind ∧ (rGet b t).kind ≤ 5 := by
  rcases rGet_ok h t with a | a
  · have := (enOk_is a).kind; omega
  · rw [a]; simp
theorem p_115_DBSIZE (b : Ba) (hb : BaG b) : pureCall (ev R) 115 [.d (baD b), .d (txts [[68, 66, 83, 73, 90, 69]])] = some (pairD (rDBSIZE b)) := pureCall_eq fun H => by
  refine ev_fn (fn := f115) rfl rfl ?_
  have p2 := p_131 b.ents.length
  obtain ⟨now, ents⟩ := b
  simp (maxSteps := 1000000) [evL, -List.getD_eq_getElem?_getD, -List.map_map, f115, rDBSIZE, p2, pairD, intRe]
theorem p_115_FLUSH (b : Ba) (hb : BaG b) : pureCall (ev R) 115 [.d (baD b), .d (txts [[70, 76, 85, 83, 72]])] = some (pairD (rFLUSH b)) := pureCall_eq fun H => by
  refine ev_fn (fn := f115) rfl rfl ?_
  simp (maxSteps := 1000000) [evL, -List.getD_eq_getElem?_getD, -List.map_map, f115, rFLUSH, pairD, okRe, baD_fold0]
theorem p_115_KEYS (b : Ba) (p : Txt) (hb : BaG b) (hp : p.length ≤ 40) : pureCall (ev R) 115 [.d (baD b), .d (txts [[75, 69, 89, 83], p])] = some (pairD (rKEYS b p)) := pureCall_eq fun H => by
  refine ev_fn (fn := f115) rfl rfl ?_
  have p1 := p_10 b p hb.sm hb.fit (by omega)
  have p2 := p_141 (vKeys b p)
  unfold rKEYS
  generalize vKeys b p = ZV at *
  simp (maxSteps := 1000000) [evL, -List.getD_eq_getElem?_getD, -List.map_map, f115, p1, p2, pairD, textsRe]
theorem p_115_TYPE (b : Ba) (k : Txt)  (hb : BaG b) (hk : k.length ≤ 40)  : pureCall (ev R) 115 [.d (baD b), .d (txts ([[84, 89, 80, 69], k]))] = some (pairD (rTYPE b k)) := pureCall_eq fun H => by
  refine ev_fn (fn := f115) rfl rfl ?_
  have p1 := p_47 b k hb.sm
  have kq := rGet_kind hb k
  have nq := hb.now
  have q := rGet_q hb (t := k) (by omega)
  unfold rTYPE
  have eN := p_108 [110, 117, 109, 98, 101, 114]
  have eL := p_108 [108, 111, 110, 103]
  have eP := p_108 [112, 108, 97, 99, 101]
  have eO := p_108 [110, 111, 110, 101]
  have no := p_129
  generalize rGet b k = e at *
  obtain ⟨key, till, kind, text, list, scores, fields⟩ := e
  obtain ⟨q1, q2, q3, q4, q5, q6, q7, q8, q9, q10⟩ := q
  dsimp only [withTill, withKey, boolRe] at *
  have p2 := p_156 kind kq
  have p3 := p_130 (typeV kind.toNat)
  generalize typeV kind.toNat = T at *
  simp (maxSteps := 1000000) [evL, -List.getD_eq_getElem?_getD, -List.map_map, f115, p1, eN, eL, eP, eO, no, pairD, p2, p3, textRe]
theorem p_115_TTL (b : Ba) (k : Txt)  (hb : BaG b) (hk : k.length ≤ 40)  : pureCall (ev R) 115 [.d (baD b), .d (txts ([[84, 84, 76], k]))] = some (pairD (rTTL b k)) := pureCall_eq fun H => by
  refine ev_fn (fn := f115) rfl rfl ?_
  have p1 := p_47 b k hb.sm
  have kq := rGet_kind hb k
  have nq := hb.now
  have q := rGet_q hb (t := k) (by omega)
  unfold rTTL
  have eN := p_108 [110, 117, 109, 98, 101, 114]
  have eL := p_108 [108, 111, 110, 103]
  have eP := p_108 [112, 108, 97, 99, 101]
  have eO := p_108 [110, 111, 110, 101]
  have no := p_129
  generalize rGet b k = e at *
  obtain ⟨key, till, kind, text, list, scores, fields⟩ := e
  obtain ⟨q1, q2, q3, q4, q5, q6, q7, q8, q9, q10⟩ := q
  dsimp only [withTill, withKey, boolRe] at *
  have i1 := p_131 (-2)
  have i2 := p_131 (-1)
  have i3 := p_131 (till - b.now)
  have w : IntKind.i64.wrap (till - b.now) = till - b.now := IntWalk.i64_in _ (by omega)
  by_cases a : kind = 0
  · simp (maxSteps := 1000000) [evL, -List.getD_eq_getElem?_getD, -List.map_map, f115, p1, eN, eL, eP, eO, no, pairD, i1, eq_true a, intRe]
  · by_cases c : till = 0
    · simp (maxSteps := 1000000) [evL, -List.getD_eq_getElem?_getD, -List.map_map, f115, p1, eN, eL, eP, eO, no, pairD, i2, eq_false a, eq_true c, intRe]
    · simp (maxSteps := 1000000) [evL, -List.getD_eq_getElem?_getD, -List.map_map, f115, p1, eN, eL, eP, eO, no, pairD, i3, eq_false a, eq_false c, w, intRe]
theorem p_115_PERSIST (b : Ba) (k : Txt)  (hb : BaG b) (hk : k.length ≤ 40)  : pureCall (ev R) 115 [.d (baD b), .d (txts ([[80, 69, 82, 83, 73, 83, 84], k]))] = some (pairD (rPERSIST b k)) := pureCall_eq fun H => by
  refine ev_fn (fn := f115) rfl rfl ?_
  have p1 := p_47 b k hb.sm
  have kq := rGet_kind hb k
  have nq := hb.now
  have q := rGet_q hb (t := k) (by omega)
  unfold rPERSIST
  have eN := p_108 [110, 117, 109, 98, 101, 114]
  have eL := p_108 [108, 111, 110, 103]
  have eP := p_108 [112, 108, 97, 99, 101]
  have eO := p_108 [110, 111, 110, 101]
  have no := p_129
  generalize rGet b k = e at *
  obtain ⟨key, till, kind, text, list, scores, fields⟩ := e
  obtain ⟨q1, q2, q3, q4, q5, q6, q7, q8, q9, q10⟩ := q
  dsimp only [withTill, withKey, boolRe] at *
  have q : EnQ ⟨key, 0, kind, text, list, scores, fields⟩ := ⟨q1, q2, q3, q4, q5, q6, q7, q8, by simp, q10⟩
  have p2 := p_144 (!decide (till = 0))
  unfold boolRe at p2
  generalize hz : (!decide (till = 0)) = Z at *
  have p3 := p_132 b _ (Re.mk 2 (if Z = true then 1 else 0) [] [] []) hb.sm q.sm q.fit
  generalize rKeep b _ _ = P at *
  by_cases a : till = 0
  · subst a
    simp at hz
    subst hz
    simp only [Bool.false_eq_true, if_false] at p2 p3
    simp (maxSteps := 1000000) [evL, -List.getD_eq_getElem?_getD, -List.map_map, f115, p1, eN, eL, eP, eO, no, pairD, p2, p3]
  · simp [a] at hz
    subst hz
    simp only [if_true] at p2 p3
    simp (maxSteps := 1000000) [evL, -List.getD_eq_getElem?_getD, -List.map_map, f115, p1, eN, eL, eP, eO, no, pairD, p2, p3, eq_false a]
theorem p_115_RENAME (b : Ba) (k : Txt) (m : Txt) (hb : BaG b) (hk : k.length ≤ 40) (hm : m.length ≤ 40) : pureCall (ev R) 115 [.d (baD b), .d (txts ([[82, 69, 78, 65, 77, 69], k, m]))] = some (pairD (rRENAME b k m)) := pureCall_eq fun H => by
  have pd := p_46 b k hb.sm
  have hd := rDel_g hb k
  refine ev_fn (fn := f115) rfl rfl ?_
  have p1 := p_47 b k hb.sm
  have kq := rGet_kind hb k
  have nq := hb.now
  have q := rGet_q hb (t := k) (by omega)
  unfold rRENAME
  have eN := p_108 [110, 117, 109, 98, 101, 114]
  have eL := p_108 [108, 111, 110, 103]
  have eP := p_108 [112, 108, 97, 99, 101]
  have eO := p_108 [110, 111, 110, 101]
  have no := p_129
  generalize rGet b k = e at *
  obtain ⟨key, till, kind, text, list, scores, fields⟩ := e
  obtain ⟨q1, q2, q3, q4, q5, q6, q7, q8, q9, q10⟩ := q
  dsimp only [withTill, withKey, boolRe] at *
  generalize rDel b k = B at *
  have q : EnQ ⟨m, till, kind, text, list, scores, fields⟩ := ⟨by dsimp only; omega, q2, q3, q4, q5, q6, q7, q8, q9, q10⟩
  have p3 := p_132 B _ okRe hd.sm q.sm q.fit
  generalize rKeep B _ okRe = P at *
  unfold okRe at p3
  by_cases a : kind = 0
  · simp (maxSteps := 1000000) [evL, -List.getD_eq_getElem?_getD, -List.map_map, f115, p1, eN, eL, eP, eO, no, pairD, eq_true a, errRe]
  · simp (maxSteps := 1000000) [evL, -List.getD_eq_getElem?_getD, -List.map_map, f115, p1, eN, eL, eP, eO, no, pairD, eq_false a, pd, p3]
theorem p_115_EXPIRE (b : Ba) (k : Txt) (y : Txt) (hb : BaG b) (hk : k.length ≤ 40) (hy : y.length ≤ 40) : pureCall (ev R) 115 [.d (baD b), .d (txts ([[69, 88, 80, 73, 82, 69], k, y]))] = some (pairD (rEXPIRE b k y)) := pureCall_eq fun H => by
  have pd := p_46 b k hb.sm
  refine ev_fn (fn := f115) rfl rfl ?_
  have p1 := p_47 b k hb.sm
  have kq := rGet_kind hb k
  have nq := hb.now
  have q := rGet_q hb (t := k) (by omega)
  unfold rEXPIRE rUNTIL
  have eN := p_108 [110, 117, 109, 98, 101, 114]
  have eL := p_108 [108, 111, 110, 103]
  have eP := p_108 [112, 108, 97, 99, 101]
  have eO := p_108 [110, 111, 110, 101]
  have no := p_129
  generalize rGet b k = e at *
  obtain ⟨key, till, kind, text, list, scores, fields⟩ := e
  obtain ⟨q1, q2, q3, q4, q5, q6, q7, q8, q9, q10⟩ := q
  dsimp only [withTill, withKey, boolRe] at *
  have i0 := intV_in y
  have pi0 := p_133 y (by omega)
  generalize intV y = I0 at *
  obtain ⟨n0, o0⟩ := I0
  dsimp only at *
  generalize rDel b k = B at *
  have j0 := p_131 0
  have j1 := p_131 1
  cases o0
  · simp (maxSteps := 1000000) [evL, -List.getD_eq_getElem?_getD, -List.map_map, f115, p1, eN, eL, eP, eO, no, pairD, pi0, errRe]
  by_cases a : n0 ≤ 1000000
  rotate_left
  · have a1 : 1000000 < n0 := by omega
    have a2 : (1000000 : Int) < n0 := by omega
    simp (maxSteps := 1000000) [evL, -List.getD_eq_getElem?_getD, -List.map_map, f115, p1, eN, eL, eP, eO, no, pairD, pi0, eq_false a, a1, a2, errRe]
  have a1 : ¬ 1000000 < n0 := by omega
  have a2 : ¬ (2000000 : Int) < n0 := by omega
  have w : IntKind.i64.wrap (b.now + n0) = b.now + n0 := IntWalk.i64_in _ (by omega)
  skip
  · by_cases c : kind = 0
    · simp (maxSteps := 1000000) [evL, -List.getD_eq_getElem?_getD, -List.map_map, f115, p1, eN, eL, eP, eO, no, pairD, pi0, eq_true a, a1, a2, w, eq_true c, j0, intRe, a1]
    by_cases d : (b.now + n0) ≤ b.now
    · simp (maxSteps := 1000000) [evL, -List.getD_eq_getElem?_getD, -List.map_map, f115, p1, eN, eL, eP, eO, no, pairD, pi0, eq_true a, a1, a2, w, eq_false c, eq_true d, pd, j1, intRe, a1]
    have q : EnQ ⟨key, (b.now + n0), kind, text, list, scores, fields⟩ := ⟨q1, q2, q3, q4, q5, q6, q7, q8, by dsimp only; omega, q10⟩
    have p3 := p_132 b _ (intRe 1) hb.sm q.sm q.fit
    generalize rKeep b _ (intRe 1) = P at *
    unfold intRe at p3
    simp (maxSteps := 1000000) [evL, -List.getD_eq_getElem?_getD, -List.map_map, f115, p1, eN, eL, eP, eO, no, pairD, pi0, eq_true a, a1, a2, w, eq_false c, eq_false d, j1, p3, a1]
theorem p_115_EXPIREAT (b : Ba) (k : Txt) (y : Txt) (hb : BaG b) (hk : k.length ≤ 40) (hy : y.length ≤ 40) : pureCall (ev R) 115 [.d (baD b), .d (txts ([[69, 88, 80, 73, 82, 69, 65, 84], k, y]))] = some (pairD (rEXPIREAT b k y)) := pureCall_eq fun H => by
  have pd := p_46 b k hb.sm
  refine ev_fn (fn := f115) rfl rfl ?_
  have p1 := p_47 b k hb.sm
  have kq := rGet_kind hb k
  have nq := hb.now
  have q := rGet_q hb (t := k) (by omega)
  unfold rEXPIREAT rUNTIL
  have eN := p_108 [110, 117, 109, 98, 101, 114]
  have eL := p_108 [108, 111, 110, 103]
  have eP := p_108 [112, 108, 97, 99, 101]
  have eO := p_108 [110, 111, 110, 101]
  have no := p_129
  generalize rGet b k = e at *
  obtain ⟨key, till, kind, text, list, scores, fields⟩ := e
  obtain ⟨q1, q2, q3, q4, q5, q6, q7, q8, q9, q10⟩ := q
  dsimp only [withTill, withKey, boolRe] at *
  have i0 := intV_in y
  have pi0 := p_133 y (by omega)
  generalize intV y = I0 at *
  obtain ⟨n0, o0⟩ := I0
  dsimp only at *
  generalize rDel b k = B at *
  have j0 := p_131 0
  have j1 := p_131 1
  cases o0
  · simp (maxSteps := 1000000) [evL, -List.getD_eq_getElem?_getD, -List.map_map, f115, p1, eN, eL, eP, eO, no, pairD, pi0, errRe]
  by_cases a : n0 ≤ 2000000
  rotate_left
  · have a1 : 2000000 < n0 := by omega
    have a2 : (1000000 : Int) < n0 := by omega
    simp (maxSteps := 1000000) [evL, -List.getD_eq_getElem?_getD, -List.map_map, f115, p1, eN, eL, eP, eO, no, pairD, pi0, eq_false a, a1, a2, errRe]
  have a1 : ¬ 2000000 < n0 := by omega
  have a2 : ¬ (2000000 : Int) < n0 := by omega
  have w : IntKind.i64.wrap (b.now + n0) = b.now + n0 := IntWalk.i64_in _ (by omega)
  by_cases e1 : (1000000 : Int) < n0
  all_goals
    by_cases c : kind = 0
    · simp (maxSteps := 1000000) [evL, -List.getD_eq_getElem?_getD, -List.map_map, f115, p1, eN, eL, eP, eO, no, pairD, pi0, eq_true a, a1, a2, w, eq_true c, j0, intRe, e1]
    by_cases d : n0 ≤ b.now
    · simp (maxSteps := 1000000) [evL, -List.getD_eq_getElem?_getD, -List.map_map, f115, p1, eN, eL, eP, eO, no, pairD, pi0, eq_true a, a1, a2, w, eq_false c, eq_true d, pd, j1, intRe, e1]
    have q : EnQ ⟨key, n0, kind, text, list, scores, fields⟩ := ⟨q1, q2, q3, q4, q5, q6, q7, q8, by dsimp only; omega, q10⟩
    have p3 := p_132 b _ (intRe 1) hb.sm q.sm q.fit
    generalize rKeep b _ (intRe 1) = P at *
    unfold intRe at p3
    simp (maxSteps := 1000000) [evL, -List.getD_eq_getElem?_getD, -List.map_map, f115, p1, eN, eL, eP, eO, no, pairD, pi0, eq_true a, a1, a2, w, eq_false c, eq_false d, j1, p3, e1]
theorem delStep_g (ks : List Txt) (i : Nat) (s : Ba × Nat) (h : BaG s.1) : BaG (delStep ks i s).1 := rDel_g h _
theorem l_115_DEL (H : Hp) (A B C : Ev.Obj) (b : Ba) (ks : List Txt) (hb : BaG b) (hk : ks.length ≤ 1000) :
    Gives (fun o e X => o = .exit 1 ∧ X = ap H [A, B, C, .row 0 2 [.d (baD (rDELS b ks).1)]] ∧ e.get 4 = .ptr (hlen H + 1) 0 0 0 ∧ e.get 5 = .ptr (hlen H + 2) 0 0 0 ∧ e.get 6 = .d (.int .i64 (rDELS b ks).2) ∧ e.get 7 = .ptr (hlen H + 3) 0 0 0)
      (evLoop (evCode (ev R) R.glob (hlen H) evLoop f115l0) [1, 4, 5, 6, 7, 8] ⟨[(1, .d (txts ([68, 69, 76] :: ks))), (4, .ptr (hlen H + 1) 0 0 0), (5, .ptr (hlen H + 2) 0 0 0), (6, .d (.int .i64 0)), (7, .ptr (hlen H + 3) 0 0 0), (8, .d (.int .i64 1))], ap H [A, B, C, .row 0 2 [.d (baD b)]]⟩) := by
  refine loop_all (F := evCode (ev R) R.glob (hlen H) evLoop f115l0) (lv := [1, 4, 5, 6, 7, 8]) (delStep ks) ks.length
    (fun i s e X => BaG s.1 ∧ s.2 ≤ i ∧ X = ap H [A, B, C, .row 0 2 [.d (baD s.1)]] ∧ e.get 1 = .d (txts ([68, 69, 76] :: ks)) ∧ e.get 4 = .ptr (hlen H + 1) 0 0 0 ∧ e.get 5 = .ptr (hlen H + 2) 0 0 0 ∧ e.get 6 = .d (.int .i64 s.2) ∧ e.get 7 = .ptr (hlen H + 3) 0 0 0 ∧ e.get 8 = .d (.int .i64 ((i : Int) + 1)))
    (fun s o e X => o = .exit 1 ∧ X = ap H [A, B, C, .row 0 2 [.d (baD s.1)]] ∧ e.get 4 = .ptr (hlen H + 1) 0 0 0 ∧ e.get 5 = .ptr (hlen H + 2) 0 0 0 ∧ e.get 6 = .d (.int .i64 s.2) ∧ e.get 7 = .ptr (hlen H + 3) 0 0 0)
    ?_ ?_ ks.length 0 (b, 0) _ _ (by omega) ⟨hb, by simp, rfl, rfl, rfl, rfl, rfl, rfl, rfl⟩
  · rintro ⟨B1, n⟩ e X ⟨hg, hn, rfl, g1, g4, g5, g6, g7, g8⟩
    dsimp only at *
    simp (maxSteps := 1000000) [evL, -List.getD_eq_getElem?_getD, -List.map_map, f115l0, g1, g4, g5, g6, g7, g8]
  · rintro i ⟨B1, n⟩ e X hi ⟨hg, hn, rfl, g1, g4, g5, g6, g7, g8⟩
    dsimp only at *
    have c : (i : Int) < (ks.length : Int) := by omega
    have c0 : (0 : Int) ≤ (i : Int) + 1 := by omega
    have c1 : (i : Int) + 1 < (ks.length : Int) + 1 := by omega
    have c2 : ((i : Int) + 1).toNat = i + 1 := by omega
    have c3 : (0 : Int) < (ks.length : Int) + 1 := by omega
    have g := txts_get ks i hi
    have gg : ∀ x : D, (x :: ks.map D.str).getD (i + 1) .nilp = .str (ks.getD i []) := fun x => by rw [← g]; rfl
    have w1 : IntKind.i64.wrap ((i : Int) + 1 + 1) = (i : Int) + 1 + 1 := IntWalk.i64_in _ (by omega)
    have w2 : IntKind.i64.wrap ((n : Int) + 1) = (n : Int) + 1 := IntWalk.i64_in _ (by omega)
    have p1 := p_45 B1 (ks.getD i []) hg.sm.len
    have p2 := p_46 B1 (ks.getD i []) hg.sm
    have hs := rDel_g hg (ks.getD i [])
    unfold delStep
    generalize ks.getD i [] = k at *
    generalize rDel B1 k = B2 at *
    have n1 : n + 1 ≤ i + 1 := by omega
    have n2 : n ≤ i + 1 := by omega
    cases hh : kHas B1.ents k with
    | false =>
      rw [hh] at p1
      simp (maxSteps := 1000000) [evL, -List.getD_eq_getElem?_getD, -List.map_map, f115l0, g1, g4, g5, g6, g7, g8, c, c0, c1, c2, c3, hi, g, gg, w1, w2, p1, p2, hs, hg, n2, hh]
    | true =>
      rw [hh] at p1
      simp (maxSteps := 1000000) [evL, -List.getD_eq_getElem?_getD, -List.map_map, f115l0, g1, g4, g5, g6, g7, g8, c, c0, c1, c2, c3, hi, g, gg, w1, w2, p1, p2, hs, hg, n1, hh]
theorem p_115_DEL (b : Ba) (ks : List Txt) (hb : BaG b) (hk : ks.length ≤ 1000) : pureCall (ev R) 115 [.d (baD b), .d (txts ([68, 69, 76] :: ks))] = some (pairD (rDEL b ks)) := pureCall_eq fun H => by
  refine ev_fn (fn := f115) rfl rfl ?_
  have lp := fun A B C => (l_115_DEL H A B C b ks hb hk).out
  unfold rDEL
  generalize rDELS b ks = S at *
  obtain ⟨B1, n⟩ := S
  dsimp only at *
  have p2 := p_131 n
  have c3 : (0 : Int) < (ks.length : Int) + 1 := by omega
  obtain ⟨o, e', X', he, rfl, rfl, g4, g5, g6, g7⟩ := lp (.row 0 2 [.d (baD b)]) (.row 0 2 [.agg [.d (.int .i64 0), .nils 7]]) (.row 0 5 [.agg [.d (.int .i64 0), .d (.int .i64 0), .d (.str []), .nils 1, .nils 5]])
  simp only [txts, List.map_cons] at he
  simp (maxSteps := 1000000) [evL, -List.getD_eq_getElem?_getD, -List.map_map, f115, p2, he, c3, g4, g5, g6, g7, pairD, intRe]
theorem l_115_EXISTS (H : Hp) (A B C : Ev.Obj) (b : Ba) (ks : List Txt) (hb : BaG b) (hk : ks.length ≤ 1000) :
    Gives (fun o e X => o = .exit 1 ∧ X = ap H [A, B, C, .row 0 2 [.d (baD (rEXS b ks).1)]] ∧ e.get 4 = .ptr (hlen H + 1) 0 0 0 ∧ e.get 5 = .ptr (hlen H + 2) 0 0 0 ∧ e.get 6 = .d (.int .i64 (rEXS b ks).2) ∧ e.get 7 = .ptr (hlen H + 3) 0 0 0)
      (evLoop (evCode (ev R) R.glob (hlen H) evLoop f115l0) [1, 4, 5, 6, 7, 8] ⟨[(1, .d (txts ([69, 88, 73, 83, 84, 83] :: ks))), (4, .ptr (hlen H + 1) 0 0 0), (5, .ptr (hlen H + 2) 0 0 0), (6, .d (.int .i64 0)), (7, .ptr (hlen H + 3) 0 0 0), (8, .d (.int .i64 1))], ap H [A, B, C, .row 0 2 [.d (baD b)]]⟩) := by
  refine loop_all (F := evCode (ev R) R.glob (hlen H) evLoop f115l0) (lv := [1, 4, 5, 6, 7, 8]) (exStep ks) ks.length
    (fun i s e X => BaG s.1 ∧ s.2 ≤ i ∧ X = ap H [A, B, C, .row 0 2 [.d (baD s.1)]] ∧ e.get 1 = .d (txts ([69, 88, 73, 83, 84, 83] :: ks)) ∧ e.get 4 = .ptr (hlen H + 1) 0 0 0 ∧ e.get 5 = .ptr (hlen H + 2) 0 0 0 ∧ e.get 6 = .d (.int .i64 s.2) ∧ e.get 7 = .ptr (hlen H + 3) 0 0 0 ∧ e.get 8 = .d (.int .i64 ((i : Int) + 1)))
    (fun s o e X => o = .exit 1 ∧ X = ap H [A, B, C, .row 0 2 [.d (baD s.1)]] ∧ e.get 4 = .ptr (hlen H + 1) 0 0 0 ∧ e.get 5 = .ptr (hlen H + 2) 0 0 0 ∧ e.get 6 = .d (.int .i64 s.2) ∧ e.get 7 = .ptr (hlen H + 3) 0 0 0)
    ?_ ?_ ks.length 0 (b, 0) _ _ (by omega) ⟨hb, by simp, rfl, rfl, rfl, rfl, rfl, rfl, rfl⟩
  · rintro ⟨B1, n⟩ e X ⟨hg, hn, rfl, g1, g4, g5, g6, g7, g8⟩
    dsimp only at *
    simp (maxSteps := 1000000) [evL, -List.getD_eq_getElem?_getD, -List.map_map, f115l0, g1, g4, g5, g6, g7, g8]
  · rintro i ⟨B1, n⟩ e X hi ⟨hg, hn, rfl, g1, g4, g5, g6, g7, g8⟩
    dsimp only at *
    have c : (i : Int) < (ks.length : Int) := by omega
    have c0 : (0 : Int) ≤ (i : Int) + 1 := by omega
    have c1 : (i : Int) + 1 < (ks.length : Int) + 1 := by omega
    have c2 : ((i : Int) + 1).toNat = i + 1 := by omega
    have c3 : (0 : Int) < (ks.length : Int) + 1 := by omega
    have g := txts_get ks i hi
    have gg : ∀ x : D, (x :: ks.map D.str).getD (i + 1) .nilp = .str (ks.getD i []) := fun x => by rw [← g]; rfl
    have w1 : IntKind.i64.wrap ((i : Int) + 1 + 1) = (i : Int) + 1 + 1 := IntWalk.i64_in _ (by omega)
    have w2 : IntKind.i64.wrap ((n : Int) + 1) = (n : Int) + 1 := IntWalk.i64_in _ (by omega)
    have p1 := p_45 B1 (ks.getD i []) hg.sm.len
    have p2 := p_46 B1 (ks.getD i []) hg.sm
    have hs := rDel_g hg (ks.getD i [])
    unfold exStep
    generalize ks.getD i [] = k at *
    generalize rDel B1 k = B2 at *
    have n1 : n + 1 ≤ i + 1 := by omega
    have n2 : n ≤ i + 1 := by omega
    cases hh : kHas B1.ents k with
    | false =>
      rw [hh] at p1
      simp (maxSteps := 1000000) [evL, -List.getD_eq_getElem?_getD, -List.map_map, f115l0, g1, g4, g5, g6, g7, g8, c, c0, c1, c2, c3, hi, g, gg, w1, w2, p1, p2, hs, hg, n2, hh]
    | true =>
      rw [hh] at p1
      simp (maxSteps := 1000000) [evL, -List.getD_eq_getElem?_getD, -List.map_map, f115l0, g1, g4, g5, g6, g7, g8, c, c0, c1, c2, c3, hi, g, gg, w1, w2, p1, p2, hs, hg, n1, hh]
theorem p_115_EXISTS (b : Ba) (ks : List Txt) (hb : BaG b) (hk : ks.length ≤ 1000) : pureCall (ev R) 115 [.d (baD b), .d (txts ([69, 88, 73, 83, 84, 83] :: ks))] = some (pairD (rEXISTS b ks)) := pureCall_eq fun H => by
  refine ev_fn (fn := f115) rfl rfl ?_
  have lp := fun A B C => (l_115_EXISTS H A B C b ks hb hk).out
  unfold rEXISTS
  generalize rEXS b ks = S at *
  obtain ⟨B1, n⟩ := S
  dsimp only at *
  have p2 := p_131 n
  have c3 : (0 : Int) < (ks.length : Int) + 1 := by omega
  obtain ⟨o, e', X', he, rfl, rfl, g4, g5, g6, g7⟩ := lp (.row 0 2 [.d (baD b)]) (.row 0 2 [.agg [.d (.int .i64 0), .nils 7]]) (.row 0 5 [.agg [.d (.int .i64 0), .d (.int .i64 0), .d (.str []), .nils 1, .nils 5]])
  simp only [txts, List.map_cons] at he
  simp (maxSteps := 1000000) [evL, -List.getD_eq_getElem?_getD, -List.map_map, f115, p2, he, c3, g4, g5, g6, g7, pairD, intRe]
end Go.Proofs.YtjdmiodinhlchaaGreat.Code

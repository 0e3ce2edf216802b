/- Lemmas (several texts in one). -/
import Derived.Test.YtjdmiodinhlchaaGreatMBaseKeys7
/- The reference: orders to lists. -/
namespace Go.Proofs.YtjdmiodinhlchaaGreat.Code
open Go Go.Ev Go.Proofs
set_option maxRecDepth 100000
set_option maxHeartbeats 2000000
set_option linter.unusedSimpArgs false
set_option linter.unusedVariables false
def withList (e : En) (kind : Int) (l : List Txt) : En := ⟨e.key, e.till, kind, e.text, l, e.scores, e.fields⟩
def withScores (e : En) (kind : Int) (l : List Sc) : En := ⟨e.key, e.till, kind, e.text, e.list, l, e.fields⟩
def withFields (e : En) (kind : Int) (l : List Pr) : En := ⟨e.key, e.till, kind, e.text, e.list, e.scores, l⟩
def rPUSH (b : Ba) (k : Txt) (f : Bool) (ts : List Txt) : Ba × Re := if (vPush (rGet b k).list f ts).2 = true then rKeep b (withList (rGet b k) 2 (vPush (rGet b k).list f ts).1) (intRe (vPush (rGet b k).list f ts).1.length) else (b, errRe [108, 111, 110, 103])
def rPOP (b : Ba) (k : Txt) (f : Bool) : Ba × Re := if (vPop (rGet b k).list f).2.2 = true then rKeep b (withList (rGet b k) (rGet b k).kind (vPop (rGet b k).list f).1) (textRe (vPop (rGet b k).list f).2.1) else (b, noneRe)
def rLLEN (b : Ba) (k : Txt) : Ba × Re := (b, intRe (rGet b k).list.length)
def rLSET (b : Ba) (k n t : Txt) : Ba × Re := if (intV n).2 = true then (if (vSet (rGet b k).list (intV n).1 t).2 = true then rKeep b (withList (rGet b k) (rGet b k).kind (vSet (rGet b k).list (intV n).1 t).1) okRe else (b, errRe [112, 108, 97, 99, 101])) else (b, errRe [110, 117, 109, 98, 101, 114])
def rLREM (b : Ba) (k n t : Txt) : Ba × Re := if (intV n).2 = true then rKeep b (withList (rGet b k) (rGet b k).kind (vDrop (rGet b k).list (intV n).1 t).1) (intRe (vDrop (rGet b k).list (intV n).1 t).2) else (b, errRe [110, 117, 109, 98, 101, 114])
def rLRANGE (b : Ba) (k n m : Txt) : Ba × Re := if (intV n).2 = true ∧ (intV m).2 = true then (b, textsRe (vRange (rGet b k).list (intV n).1 (intV m).1)) else (b, errRe [110, 117, 109, 98, 101, 114])
def rLTRIM (b : Ba) (k n m : Txt) : Ba × Re := if (intV n).2 = true ∧ (intV m).2 = true then rKeep b (withList (rGet b k) (rGet b k).kind (vRange (rGet b k).list (intV n).1 (intV m).1)) okRe else (b, errRe [110, 117, 109, 98, 101, 114])
theorem p_111_LPUSH (b : Ba) (k : Txt) (ts : List Txt) (hb : BaG b) (hk : k.length ≤ 40) (hts : ts.length ≤ 1000) : pureCall (ev R) 111 [.d (baD b), .d (txts ([76, 80, 85, 83, 72] :: k :: ts))] = some (pairD (rPUSH b k true ts)) := pureCall_eq fun H => by
  refine ev_fn (fn := f111) rfl rfl ?_
  have p1 := p_47 b k hb.sm
  have q := rGet_q hb (t := k) (by omega)
  unfold rPUSH
  have eN := p_108 [110, 117, 109, 98, 101, 114]
  have eL := p_108 [108, 111, 110, 103]
  have eP := p_108 [112, 108, 97, 99, 101]
  have eO := p_108 [110, 111, 110, 101]
  have no := p_129
  generalize rGet b k = e at *
  obtain ⟨key, till, kind, text, list, scores, fields⟩ := e
  obtain ⟨q1, q2, q3, q4, q5, q6, q7, q8, q9, q10⟩ := q
  dsimp only [withList, withScores, withFields, withText] at *
  have c00 : (0 : Int) < (ts.length : Int) + 1 + 1 := by omega
  have c01 : (1 : Int) < (ts.length : Int) + 1 + 1 := by omega
  have c02 : (0 : Int) ≤ (ts.length : Int) + 1 + 1 := by omega
  have c03 : (2 : Int) ≤ (ts.length : Int) + 1 + 1 := by omega
  have vq := vPush_q list true ts ⟨q3, q4⟩
  have pv := v_136 list true ts (by omega) (by omega)
  generalize vPush list true ts = V at *
  obtain ⟨vl, vo⟩ := V
  dsimp only at *
  have q : EnQ ⟨key, till, 2, text, vl, scores, fields⟩ := ⟨q1, q2, vq.1, vq.2, q5, q6, q7, q8, q9, by dsimp only; omega⟩
  have p2 := p_131 vl.length
  have p3 := p_132 b _ (intRe vl.length) hb.sm q.sm q.fit
  generalize rKeep b ⟨key, till, 2, text, vl, scores, fields⟩ (intRe vl.length) = P at *
  unfold intRe at p3
  cases vo
  · simp (maxSteps := 1000000) [evL, -List.getD_eq_getElem?_getD, -List.map_map, f111, p1, eN, eL, eP, eO, no, pairD, pv, errRe, c00, c01, c02, c03]
  · simp (maxSteps := 1000000) [evL, -List.getD_eq_getElem?_getD, -List.map_map, f111, p1, eN, eL, eP, eO, no, pairD, pv, p2, p3, c00, c01, c02, c03]
theorem p_111_RPUSH (b : Ba) (k : Txt) (ts : List Txt) (hb : BaG b) (hk : k.length ≤ 40) (hts : ts.length ≤ 1000) : pureCall (ev R) 111 [.d (baD b), .d (txts ([82, 80, 85, 83, 72] :: k :: ts))] = some (pairD (rPUSH b k false ts)) := pureCall_eq fun H => by
  refine ev_fn (fn := f111) rfl rfl ?_
  have p1 := p_47 b k hb.sm
  have q := rGet_q hb (t := k) (by omega)
  unfold rPUSH
  have eN := p_108 [110, 117, 109, 98, 101, 114]
  have eL := p_108 [108, 111, 110, 103]
  have eP := p_108 [112, 108, 97, 99, 101]
  have eO := p_108 [110, 111, 110, 101]
  have no := p_129
  generalize rGet b k = e at *
  obtain ⟨key, till, kind, text, list, scores, fields⟩ := e
  obtain ⟨q1, q2, q3, q4, q5, q6, q7, q8, q9, q10⟩ := q
  dsimp only [withList, withScores, withFields, withText] at *
  have c00 : (0 : Int) < (ts.length : Int) + 1 + 1 := by omega
  have c01 : (1 : Int) < (ts.length : Int) + 1 + 1 := by omega
  have c02 : (0 : Int) ≤ (ts.length : Int) + 1 + 1 := by omega
  have c03 : (2 : Int) ≤ (ts.length : Int) + 1 + 1 := by omega
  have vq := vPush_q list false ts ⟨q3, q4⟩
  have pv := v_136 list false ts (by omega) (by omega)
  generalize vPush list false ts = V at *
  obtain ⟨vl, vo⟩ := V
  dsimp only at *
  have q : EnQ ⟨key, till, 2, text, vl, scores, fields⟩ := ⟨q1, q2, vq.1, vq.2, q5, q6, q7, q8, q9, by dsimp only; omega⟩
  have p2 := p_131 vl.length
  have p3 := p_132 b _ (intRe vl.length) hb.sm q.sm q.fit
  generalize rKeep b ⟨key, till, 2, text, vl, scores, fields⟩ (intRe vl.length) = P at *
  unfold intRe at p3
  cases vo
  · simp (maxSteps := 1000000) [evL, -List.getD_eq_getElem?_getD, -List.map_map, f111, p1, eN, eL, eP, eO, no, pairD, pv, errRe, c00, c01, c02, c03]
  · simp (maxSteps := 1000000) [evL, -List.getD_eq_getElem?_getD, -List.map_map, f111, p1, eN, eL, eP, eO, no, pairD, pv, p2, p3, c00, c01, c02, c03]
theorem p_111_LPOP (b : Ba) (k : Txt)  (hb : BaG b) (hk : k.length ≤ 40)  : pureCall (ev R) 111 [.d (baD b), .d (txts ([[76, 80, 79, 80], k]))] = some (pairD (rPOP b k true)) := pureCall_eq fun H => by
  refine ev_fn (fn := f111) rfl rfl ?_
  have p1 := p_47 b k hb.sm
  have q := rGet_q hb (t := k) (by omega)
  unfold rPOP
  have eN := p_108 [110, 117, 109, 98, 101, 114]
  have eL := p_108 [108, 111, 110, 103]
  have eP := p_108 [112, 108, 97, 99, 101]
  have eO := p_108 [110, 111, 110, 101]
  have no := p_129
  generalize rGet b k = e at *
  obtain ⟨key, till, kind, text, list, scores, fields⟩ := e
  obtain ⟨q1, q2, q3, q4, q5, q6, q7, q8, q9, q10⟩ := q
  dsimp only [withList, withScores, withFields, withText] at *
  have vq := vPop_q list true ⟨q3, q4⟩
  have pv := v_137 list true (by omega)
  generalize vPop list true = V at *
  obtain ⟨vl, vs, vo⟩ := V
  dsimp only at *
  have q : EnQ ⟨key, till, kind, text, vl, scores, fields⟩ := ⟨q1, q2, vq.1, vq.2, q5, q6, q7, q8, q9, by dsimp only; omega⟩
  have p2 := p_130 vs
  have p3 := p_132 b _ (textRe vs) hb.sm q.sm q.fit
  generalize rKeep b ⟨key, till, kind, text, vl, scores, fields⟩ (textRe vs) = P at *
  unfold textRe at p3
  cases vo
  · simp (maxSteps := 1000000) [evL, -List.getD_eq_getElem?_getD, -List.map_map, f111, p1, eN, eL, eP, eO, no, pairD, pv, noneRe]
  · simp (maxSteps := 1000000) [evL, -List.getD_eq_getElem?_getD, -List.map_map, f111, p1, eN, eL, eP, eO, no, pairD, pv, p2, p3]
theorem p_111_RPOP (b : Ba) (k : Txt)  (hb : BaG b) (hk : k.length ≤ 40)  : pureCall (ev R) 111 [.d (baD b), .d (txts ([[82, 80, 79, 80], k]))] = some (pairD (rPOP b k false)) := pureCall_eq fun H => by
  refine ev_fn (fn := f111) rfl rfl ?_
  have p1 := p_47 b k hb.sm
  have q := rGet_q hb (t := k) (by omega)
  unfold rPOP
  have eN := p_108 [110, 117, 109, 98, 101, 114]
  have eL := p_108 [108, 111, 110, 103]
  have eP := p_108 [112, 108, 97, 99, 101]
  have eO := p_108 [110, 111, 110, 101]
  have no := p_129
  generalize rGet b k = e at *
  obtain ⟨key, till, kind, text, list, scores, fields⟩ := e
  obtain ⟨q1, q2, q3, q4, q5, q6, q7, q8, q9, q10⟩ := q
  dsimp only [withList, withScores, withFields, withText] at *
  have vq := vPop_q list false ⟨q3, q4⟩
  have pv := v_137 list false (by omega)
  generalize vPop list false = V at *
  obtain ⟨vl, vs, vo⟩ := V
  dsimp only at *
  have q : EnQ ⟨key, till, kind, text, vl, scores, fields⟩ := ⟨q1, q2, vq.1, vq.2, q5, q6, q7, q8, q9, by dsimp only; omega⟩
  have p2 := p_130 vs
  have p3 := p_132 b _ (textRe vs) hb.sm q.sm q.fit
  generalize rKeep b ⟨key, till, kind, text, vl, scores, fields⟩ (textRe vs) = P at *
  unfold textRe at p3
  cases vo
  · simp (maxSteps := 1000000) [evL, -List.getD_eq_getElem?_getD, -List.map_map, f111, p1, eN, eL, eP, eO, no, pairD, pv, noneRe]
  · simp (maxSteps := 1000000) [evL, -List.getD_eq_getElem?_getD, -List.map_map, f111, p1, eN, eL, eP, eO, no, pairD, pv, p2, p3]
theorem p_111_LLEN (b : Ba) (k : Txt)  (hb : BaG b) (hk : k.length ≤ 40)  : pureCall (ev R) 111 [.d (baD b), .d (txts ([[76, 76, 69, 78], k]))] = some (pairD (rLLEN b k)) := pureCall_eq fun H => by
  refine ev_fn (fn := f111) rfl rfl ?_
  have p1 := p_47 b k hb.sm
  have q := rGet_q hb (t := k) (by omega)
  unfold rLLEN
  have eN := p_108 [110, 117, 109, 98, 101, 114]
  have eL := p_108 [108, 111, 110, 103]
  have eP := p_108 [112, 108, 97, 99, 101]
  have eO := p_108 [110, 111, 110, 101]
  have no := p_129
  generalize rGet b k = e at *
  obtain ⟨key, till, kind, text, list, scores, fields⟩ := e
  obtain ⟨q1, q2, q3, q4, q5, q6, q7, q8, q9, q10⟩ := q
  dsimp only [withList, withScores, withFields, withText] at *
  have p2 := p_131 list.length
  simp (maxSteps := 1000000) [evL, -List.getD_eq_getElem?_getD, -List.map_map, f111, p1, eN, eL, eP, eO, no, pairD, p2, intRe]
theorem p_111_LSET (b : Ba) (k : Txt) (n : Txt) (t : Txt) (hb : BaG b) (hk : k.length ≤ 40) (hn : n.length ≤ 40) (ht : t.length ≤ 40) : pureCall (ev R) 111 [.d (baD b), .d (txts ([[76, 83, 69, 84], k, n, t]))] = some (pairD (rLSET b k n t)) := pureCall_eq fun H => by
  refine ev_fn (fn := f111) rfl rfl ?_
  have p1 := p_47 b k hb.sm
  have q := rGet_q hb (t := k) (by omega)
  unfold rLSET
  have eN := p_108 [110, 117, 109, 98, 101, 114]
  have eL := p_108 [108, 111, 110, 103]
  have eP := p_108 [112, 108, 97, 99, 101]
  have eO := p_108 [110, 111, 110, 101]
  have no := p_129
  generalize rGet b k = e at *
  obtain ⟨key, till, kind, text, list, scores, fields⟩ := e
  obtain ⟨q1, q2, q3, q4, q5, q6, q7, q8, q9, q10⟩ := q
  dsimp only [withList, withScores, withFields, withText] at *
  have i0 := intV_in n
  have pi0 := p_133 n (by omega)
  generalize intV n = I0 at *
  obtain ⟨n0, o0⟩ := I0
  dsimp only at *
  have vq := vSet_q list n0 t ⟨q3, q4⟩
  have pv := v_138 list n0 t (by omega) ⟨by omega, by omega⟩
  generalize vSet list n0 t = V at *
  obtain ⟨vl, vo⟩ := V
  dsimp only at *
  have q : EnQ ⟨key, till, kind, text, vl, scores, fields⟩ := ⟨q1, q2, vq.1, vq.2, q5, q6, q7, q8, q9, by dsimp only; omega⟩
  have p3 := p_132 b _ (okRe) hb.sm q.sm q.fit
  generalize rKeep b ⟨key, till, kind, text, vl, scores, fields⟩ (okRe) = P at *
  unfold okRe at p3
  cases o0
  · simp (maxSteps := 1000000) [evL, -List.getD_eq_getElem?_getD, -List.map_map, f111, p1, eN, eL, eP, eO, no, pairD, pi0, errRe]
  · cases vo
    · simp (maxSteps := 1000000) [evL, -List.getD_eq_getElem?_getD, -List.map_map, f111, p1, eN, eL, eP, eO, no, pairD, pi0, pv, errRe]
    · simp (maxSteps := 1000000) [evL, -List.getD_eq_getElem?_getD, -List.map_map, f111, p1, eN, eL, eP, eO, no, pairD, pi0, pv, p3]
theorem p_111_LREM (b : Ba) (k : Txt) (n : Txt) (t : Txt) (hb : BaG b) (hk : k.length ≤ 40) (hn : n.length ≤ 40) (ht : t.length ≤ 40) : pureCall (ev R) 111 [.d (baD b), .d (txts ([[76, 82, 69, 77], k, n, t]))] = some (pairD (rLREM b k n t)) := pureCall_eq fun H => by
  refine ev_fn (fn := f111) rfl rfl ?_
  have p1 := p_47 b k hb.sm
  have q := rGet_q hb (t := k) (by omega)
  unfold rLREM
  have eN := p_108 [110, 117, 109, 98, 101, 114]
  have eL := p_108 [108, 111, 110, 103]
  have eP := p_108 [112, 108, 97, 99, 101]
  have eO := p_108 [110, 111, 110, 101]
  have no := p_129
  generalize rGet b k = e at *
  obtain ⟨key, till, kind, text, list, scores, fields⟩ := e
  obtain ⟨q1, q2, q3, q4, q5, q6, q7, q8, q9, q10⟩ := q
  dsimp only [withList, withScores, withFields, withText] at *
  have i0 := intV_in n
  have pi0 := p_133 n (by omega)
  generalize intV n = I0 at *
  obtain ⟨n0, o0⟩ := I0
  dsimp only at *
  have vq := vDrop_q list n0 t ⟨q3, q4⟩
  have pv := v_139 list n0 t (by omega)
  generalize vDrop list n0 t = V at *
  obtain ⟨vl, vo⟩ := V
  dsimp only at *
  have q : EnQ ⟨key, till, kind, text, vl, scores, fields⟩ := ⟨q1, q2, vq.1, vq.2, q5, q6, q7, q8, q9, by dsimp only; omega⟩
  have p2 := p_131 vo
  have p3 := p_132 b _ (intRe vo) hb.sm q.sm q.fit
  generalize rKeep b ⟨key, till, kind, text, vl, scores, fields⟩ (intRe vo) = P at *
  unfold intRe at p3
  cases o0
  · simp (maxSteps := 1000000) [evL, -List.getD_eq_getElem?_getD, -List.map_map, f111, p1, eN, eL, eP, eO, no, pairD, pi0, errRe]
  · simp (maxSteps := 1000000) [evL, -List.getD_eq_getElem?_getD, -List.map_map, f111, p1, eN, eL, eP, eO, no, pairD, pi0, pv, p2, p3]
theorem p_111_LRANGE (b : Ba) (k : Txt) (n : Txt) (m : Txt) (hb : BaG b) (hk : k.length ≤ 40) (hn : n.length ≤ 40) (hm : m.length ≤ 40) : pureCall (ev R) 111 [.d (baD b), .d (txts ([[76, 82, 65, 78, 71, 69], k, n, m]))] = some (pairD (rLRANGE b k n m)) := pureCall_eq fun H => by
  refine ev_fn (fn := f111) rfl rfl ?_
  have p1 := p_47 b k hb.sm
  have q := rGet_q hb (t := k) (by omega)
  unfold rLRANGE
  have eN := p_108 [110, 117, 109, 98, 101, 114]
  have eL := p_108 [108, 111, 110, 103]
  have eP := p_108 [112, 108, 97, 99, 101]
  have eO := p_108 [110, 111, 110, 101]
  have no := p_129
  generalize rGet b k = e at *
  obtain ⟨key, till, kind, text, list, scores, fields⟩ := e
  obtain ⟨q1, q2, q3, q4, q5, q6, q7, q8, q9, q10⟩ := q
  dsimp only [withList, withScores, withFields, withText] at *
  have i0 := intV_in n
  have pi0 := p_133 n (by omega)
  have i1 := intV_in m
  have pi1 := p_133 m (by omega)
  generalize intV n = I0 at *
  obtain ⟨n0, o0⟩ := I0
  generalize intV m = I1 at *
  obtain ⟨n1, o1⟩ := I1
  dsimp only at *
  have pv := v_140 list n0 n1 (by omega)
  generalize vRange list n0 n1 = ZV at *
  have p2 := p_141 ZV
  cases o0 <;> cases o1
  · simp (maxSteps := 1000000) [evL, -List.getD_eq_getElem?_getD, -List.map_map, f111, p1, eN, eL, eP, eO, no, pairD, pi0, pi1, errRe]
  · simp (maxSteps := 1000000) [evL, -List.getD_eq_getElem?_getD, -List.map_map, f111, p1, eN, eL, eP, eO, no, pairD, pi0, pi1, errRe]
  · simp (maxSteps := 1000000) [evL, -List.getD_eq_getElem?_getD, -List.map_map, f111, p1, eN, eL, eP, eO, no, pairD, pi0, pi1, errRe]
  · simp (maxSteps := 1000000) [evL, -List.getD_eq_getElem?_getD, -List.map_map, f111, p1, eN, eL, eP, eO, no, pairD, pi0, pi1, pv, p2, textsRe]
theorem p_111_LTRIM (b : Ba) (k : Txt) (n : Txt) (m : Txt) (hb : BaG b) (hk : k.length ≤ 40) (hn : n.length ≤ 40) (hm : m.length ≤ 40) : pureCall (ev R) 111 [.d (baD b), .d (txts ([[76, 84, 82, 73, 77], k, n, m]))] = some (pairD (rLTRIM b k n m)) := pureCall_eq fun H => by
  refine ev_fn (fn := f111) rfl rfl ?_
  have p1 := p_47 b k hb.sm
  have q := rGet_q hb (t := k) (by omega)
  unfold rLTRIM
  have eN := p_108 [110, 117, 109, 98, 101, 114]
  have eL := p_108 [108, 111, 110, 103]
  have eP := p_108 [112, 108, 97, 99, 101]
  have eO := p_108 [110, 111, 110, 101]
  have no := p_129
  generalize rGet b k = e at *
  obtain ⟨key, till, kind, text, list, scores, fields⟩ := e
  obtain ⟨q1, q2, q3, q4, q5, q6, q7, q8, q9, q10⟩ := q
  dsimp only [withList, withScores, withFields, withText] at *
  have i0 := intV_in n
  have pi0 := p_133 n (by omega)
  have i1 := intV_in m
  have pi1 := p_133 m (by omega)
  generalize intV n = I0 at *
  obtain ⟨n0, o0⟩ := I0
  generalize intV m = I1 at *
  obtain ⟨n1, o1⟩ := I1
  dsimp only at *
  have vq := vRange_q list n0 n1 ⟨q3, q4⟩
  have pv := v_140 list n0 n1 (by omega)
  generalize vRange list n0 n1 = ZV at *
  have q : EnQ ⟨key, till, kind, text, ZV, scores, fields⟩ := ⟨q1, q2, vq.1, vq.2, q5, q6, q7, q8, q9, by dsimp only; omega⟩
  have p3 := p_132 b _ (okRe) hb.sm q.sm q.fit
  generalize rKeep b ⟨key, till, kind, text, ZV, scores, fields⟩ (okRe) = P at *
  unfold okRe at p3
  cases o0 <;> cases o1
  · simp (maxSteps := 1000000) [evL, -List.getD_eq_getElem?_getD, -List.map_map, f111, p1, eN, eL, eP, eO, no, pairD, pi0, pi1, errRe]
  · simp (maxSteps := 1000000) [evL, -List.getD_eq_getElem?_getD, -List.map_map, f111, p1, eN, eL, eP, eO, no, pairD, pi0, pi1, errRe]
  · simp (maxSteps := 1000000) [evL, -List.getD_eq_getElem?_getD, -List.map_map, f111, p1, eN, eL, eP, eO, no, pairD, pi0, pi1, errRe]
  · simp (maxSteps := 1000000) [evL, -List.getD_eq_getElem?_getD, -List.map_map, f111, p1, eN, eL, eP, eO, no, pairD, pi0, pi1, pv, p3]
end Go.Proofs.YtjdmiodinhlchaaGreat.Code
/- The reference: orders to sets. -/
namespace Go.Proofs.YtjdmiodinhlchaaGreat.Code
open Go Go.Ev Go.Proofs
set_option maxRecDepth 100000
set_option maxHeartbeats 2000000
set_option linter.unusedSimpArgs false
set_option linter.unusedVariables false
def rSADD (b : Ba) (k : Txt) (ts : List Txt) : Ba × Re := if (vSAdd (rGet b k).list ts).2.2 = true then rKeep b (withList (rGet b k) 3 (vSAdd (rGet b k).list ts).1) (intRe (vSAdd (rGet b k).list ts).2.1) else (b, errRe [108, 111, 110, 103])
def rSREM (b : Ba) (k : Txt) (ts : List Txt) : Ba × Re := rKeep b (withList (rGet b k) (rGet b k).kind (vSDrop (rGet b k).list ts).1) (intRe (vSDrop (rGet b k).list ts).2)
def rSMEMBERS (b : Ba) (k : Txt) : Ba × Re := (b, textsRe (rGet b k).list)
def rSISMEMBER (b : Ba) (k t : Txt) : Ba × Re := (b, boolRe (decide (t ∈ (rGet b k).list)))
def rSINTER (b : Ba) (k m : Txt) : Ba × Re := (b, textsRe (vBoth (rGet b k).list (rGet b m).list))
def rSUNION (b : Ba) (k m : Txt) : Ba × Re := (b, textsRe (vAny (rGet b k).list (rGet b m).list))
def rSDIFF (b : Ba) (k m : Txt) : Ba × Re := (b, textsRe (vLess (rGet b k).list (rGet b m).list))
theorem p_112_SADD (b : Ba) (k : Txt) (ts : List Txt) (hb : BaG b) (hk : k.length ≤ 40) (hts : ts.length ≤ 1000) : pureCall (ev R) 112 [.d (baD b), .d (txts ([83, 65, 68, 68] :: k :: ts))] = some (pairD (rSADD b k ts)) := pureCall_eq fun H => by
  refine ev_fn (fn := f112) rfl rfl ?_
  have p1 := p_47 b k hb.sm
  have q := rGet_q hb (t := k) (by omega)
  unfold rSADD
  have eN := p_108 [110, 117, 109, 98, 101, 114]
  have eL := p_108 [108, 111, 110, 103]
  have eP := p_108 [112, 108, 97, 99, 101]
  have eO := p_108 [110, 111, 110, 101]
  have no := p_129
  generalize rGet b k = e at *
  obtain ⟨key, till, kind, text, list, scores, fields⟩ := e
  obtain ⟨q1, q2, q3, q4, q5, q6, q7, q8, q9, q10⟩ := q
  dsimp only [withList, withScores, withFields, withText] at *
  have c00 : (0 : Int) < (ts.length : Int) + 1 + 1 := by omega
  have c01 : (1 : Int) < (ts.length : Int) + 1 + 1 := by omega
  have c02 : (0 : Int) ≤ (ts.length : Int) + 1 + 1 := by omega
  have c03 : (2 : Int) ≤ (ts.length : Int) + 1 + 1 := by omega
  have vq := vSAdd_q list ts ⟨q3, q4⟩
  have pv := v_142 list ts (by omega) (by omega)
  generalize vSAdd list ts = V at *
  obtain ⟨vl, vn, vo⟩ := V
  dsimp only at *
  have q : EnQ ⟨key, till, 3, text, vl, scores, fields⟩ := ⟨q1, q2, vq.1, vq.2, q5, q6, q7, q8, q9, by dsimp only; omega⟩
  have p2 := p_131 vn
  have p3 := p_132 b _ (intRe vn) hb.sm q.sm q.fit
  generalize rKeep b ⟨key, till, 3, text, vl, scores, fields⟩ (intRe vn) = P at *
  unfold intRe at p3
  cases vo
  · simp (maxSteps := 1000000) [evL, -List.getD_eq_getElem?_getD, -List.map_map, f112, p1, eN, eL, eP, eO, no, pairD, pv, errRe, c00, c01, c02, c03]
  · simp (maxSteps := 1000000) [evL, -List.getD_eq_getElem?_getD, -List.map_map, f112, p1, eN, eL, eP, eO, no, pairD, pv, p2, p3, c00, c01, c02, c03]
theorem p_112_SREM (b : Ba) (k : Txt) (ts : List Txt) (hb : BaG b) (hk : k.length ≤ 40) (hts : ts.length ≤ 1000) : pureCall (ev R) 112 [.d (baD b), .d (txts ([83, 82, 69, 77] :: k :: ts))] = some (pairD (rSREM b k ts)) := pureCall_eq fun H => by
  refine ev_fn (fn := f112) rfl rfl ?_
  have p1 := p_47 b k hb.sm
  have q := rGet_q hb (t := k) (by omega)
  unfold rSREM
  have eN := p_108 [110, 117, 109, 98, 101, 114]
  have eL := p_108 [108, 111, 110, 103]
  have eP := p_108 [112, 108, 97, 99, 101]
  have eO := p_108 [110, 111, 110, 101]
  have no := p_129
  generalize rGet b k = e at *
  obtain ⟨key, till, kind, text, list, scores, fields⟩ := e
  obtain ⟨q1, q2, q3, q4, q5, q6, q7, q8, q9, q10⟩ := q
  dsimp only [withList, withScores, withFields, withText] at *
  have c00 : (0 : Int) < (ts.length : Int) + 1 + 1 := by omega
  have c01 : (1 : Int) < (ts.length : Int) + 1 + 1 := by omega
  have c02 : (0 : Int) ≤ (ts.length : Int) + 1 + 1 := by omega
  have c03 : (2 : Int) ≤ (ts.length : Int) + 1 + 1 := by omega
  have vq := vSDrop_q list ts ⟨q3, q4⟩
  have pv := v_143 list ts (by omega) (by omega)
  generalize vSDrop list ts = V at *
  obtain ⟨vl, vn⟩ := V
  dsimp only at *
  have q : EnQ ⟨key, till, kind, text, vl, scores, fields⟩ := ⟨q1, q2, vq.1, vq.2, q5, q6, q7, q8, q9, by dsimp only; omega⟩
  have p2 := p_131 vn
  have p3 := p_132 b _ (intRe vn) hb.sm q.sm q.fit
  generalize rKeep b ⟨key, till, kind, text, vl, scores, fields⟩ (intRe vn) = P at *
  unfold intRe at p3
  simp (maxSteps := 1000000) [evL, -List.getD_eq_getElem?_getD, -List.map_map, f112, p1, eN, eL, eP, eO, no, pairD, pv, p2, p3, c00, c01, c02, c03]
theorem p_112_SMEMBERS (b : Ba) (k : Txt)  (hb : BaG b) (hk : k.length ≤ 40)  : pureCall (ev R) 112 [.d (baD b), .d (txts ([[83, 77, 69, 77, 66, 69, 82, 83], k]))] = some (pairD (rSMEMBERS b k)) := pureCall_eq fun H => by
  refine ev_fn (fn := f112) rfl rfl ?_
  have p1 := p_47 b k hb.sm
  have q := rGet_q hb (t := k) (by omega)
  unfold rSMEMBERS
  have eN := p_108 [110, 117, 109, 98, 101, 114]
  have eL := p_108 [108, 111, 110, 103]
  have eP := p_108 [112, 108, 97, 99, 101]
  have eO := p_108 [110, 111, 110, 101]
  have no := p_129
  generalize rGet b k = e at *
  obtain ⟨key, till, kind, text, list, scores, fields⟩ := e
  obtain ⟨q1, q2, q3, q4, q5, q6, q7, q8, q9, q10⟩ := q
  dsimp only [withList, withScores, withFields, withText] at *
  have p2 := p_141 list
  simp (maxSteps := 1000000) [evL, -List.getD_eq_getElem?_getD, -List.map_map, f112, p1, eN, eL, eP, eO, no, pairD, p2, textsRe]
theorem p_112_SCARD (b : Ba) (k : Txt)  (hb : BaG b) (hk : k.length ≤ 40)  : pureCall (ev R) 112 [.d (baD b), .d (txts ([[83, 67, 65, 82, 68], k]))] = some (pairD (rLLEN b k)) := pureCall_eq fun H => by
  refine ev_fn (fn := f112) rfl rfl ?_
  have p1 := p_47 b k hb.sm
  have q := rGet_q hb (t := k) (by omega)
  unfold rLLEN
  have eN := p_108 [110, 117, 109, 98, 101, 114]
  have eL := p_108 [108, 111, 110, 103]
  have eP := p_108 [112, 108, 97, 99, 101]
  have eO := p_108 [110, 111, 110, 101]
  have no := p_129
  generalize rGet b k = e at *
  obtain ⟨key, till, kind, text, list, scores, fields⟩ := e
  obtain ⟨q1, q2, q3, q4, q5, q6, q7, q8, q9, q10⟩ := q
  dsimp only [withList, withScores, withFields, withText] at *
  have p2 := p_131 list.length
  simp (maxSteps := 1000000) [evL, -List.getD_eq_getElem?_getD, -List.map_map, f112, p1, eN, eL, eP, eO, no, pairD, p2, intRe]
theorem p_112_SISMEMBER (b : Ba) (k : Txt) (t : Txt) (hb : BaG b) (hk : k.length ≤ 40) (ht : t.length ≤ 40) : pureCall (ev R) 112 [.d (baD b), .d (txts ([[83, 73, 83, 77, 69, 77, 66, 69, 82], k, t]))] = some (pairD (rSISMEMBER b k t)) := pureCall_eq fun H => by
  refine ev_fn (fn := f112) rfl rfl ?_
  have p1 := p_47 b k hb.sm
  have q := rGet_q hb (t := k) (by omega)
  unfold rSISMEMBER
  have eN := p_108 [110, 117, 109, 98, 101, 114]
  have eL := p_108 [108, 111, 110, 103]
  have eP := p_108 [112, 108, 97, 99, 101]
  have eO := p_108 [110, 111, 110, 101]
  have no := p_129
  generalize rGet b k = e at *
  obtain ⟨key, till, kind, text, list, scores, fields⟩ := e
  obtain ⟨q1, q2, q3, q4, q5, q6, q7, q8, q9, q10⟩ := q
  dsimp only [withList, withScores, withFields, withText] at *
  have pv := p_145 list t (by omega)
  generalize decide (t ∈ list) = ZV at *
  have p2 := p_144 ZV
  simp (maxSteps := 1000000) [evL, -List.getD_eq_getElem?_getD, -List.map_map, f112, p1, eN, eL, eP, eO, no, pairD, pv, p2]
theorem p_112_SINTER (b : Ba) (k : Txt) (m : Txt) (hb : BaG b) (hk : k.length ≤ 40) (hm : m.length ≤ 40) : pureCall (ev R) 112 [.d (baD b), .d (txts ([[83, 73, 78, 84, 69, 82], k, m]))] = some (pairD (rSINTER b k m)) := pureCall_eq fun H => by
  have p9 := p_47 b m hb.sm
  have q' := rGet_q hb (t := m) (by omega)
  refine ev_fn (fn := f112) rfl rfl ?_
  have p1 := p_47 b k hb.sm
  have q := rGet_q hb (t := k) (by omega)
  unfold rSINTER
  have eN := p_108 [110, 117, 109, 98, 101, 114]
  have eL := p_108 [108, 111, 110, 103]
  have eP := p_108 [112, 108, 97, 99, 101]
  have eO := p_108 [110, 111, 110, 101]
  have no := p_129
  generalize rGet b k = e at *
  obtain ⟨key, till, kind, text, list, scores, fields⟩ := e
  obtain ⟨q1, q2, q3, q4, q5, q6, q7, q8, q9, q10⟩ := q
  dsimp only [withList, withScores, withFields, withText] at *
  generalize rGet b m = e2 at *
  obtain ⟨key2, till2, kind2, text2, list2, scores2, fields2⟩ := e2
  obtain ⟨_, _, qq, _, _, _, _, _, _, _⟩ := q'
  dsimp only at *
  have pv := v_146 list list2 (by omega) (by omega)
  generalize vBoth list list2 = ZV at *
  have p2 := p_141 ZV
  simp (maxSteps := 1000000) [evL, -List.getD_eq_getElem?_getD, -List.map_map, f112, p1, eN, eL, eP, eO, no, pairD, p9, pv, p2, textsRe]
theorem p_112_SUNION (b : Ba) (k : Txt) (m : Txt) (hb : BaG b) (hk : k.length ≤ 40) (hm : m.length ≤ 40) : pureCall (ev R) 112 [.d (baD b), .d (txts ([[83, 85, 78, 73, 79, 78], k, m]))] = some (pairD (rSUNION b k m)) := pureCall_eq fun H => by
  have p9 := p_47 b m hb.sm
  have q' := rGet_q hb (t := m) (by omega)
  refine ev_fn (fn := f112) rfl rfl ?_
  have p1 := p_47 b k hb.sm
  have q := rGet_q hb (t := k) (by omega)
  unfold rSUNION
  have eN := p_108 [110, 117, 109, 98, 101, 114]
  have eL := p_108 [108, 111, 110, 103]
  have eP := p_108 [112, 108, 97, 99, 101]
  have eO := p_108 [110, 111, 110, 101]
  have no := p_129
  generalize rGet b k = e at *
  obtain ⟨key, till, kind, text, list, scores, fields⟩ := e
  obtain ⟨q1, q2, q3, q4, q5, q6, q7, q8, q9, q10⟩ := q
  dsimp only [withList, withScores, withFields, withText] at *
  generalize rGet b m = e2 at *
  obtain ⟨key2, till2, kind2, text2, list2, scores2, fields2⟩ := e2
  obtain ⟨_, _, qq, _, _, _, _, _, _, _⟩ := q'
  dsimp only at *
  have pv := v_147 list list2 (by omega) (by omega)
  generalize vAny list list2 = ZV at *
  have p2 := p_141 ZV
  simp (maxSteps := 1000000) [evL, -List.getD_eq_getElem?_getD, -List.map_map, f112, p1, eN, eL, eP, eO, no, pairD, p9, pv, p2, textsRe]
theorem p_112_SDIFF (b : Ba) (k : Txt) (m : Txt) (hb : BaG b) (hk : k.length ≤ 40) (hm : m.length ≤ 40) : pureCall (ev R) 112 [.d (baD b), .d (txts ([[83, 68, 73, 70, 70], k, m]))] = some (pairD (rSDIFF b k m)) := pureCall_eq fun H => by
  have p9 := p_47 b m hb.sm
  have q' := rGet_q hb (t := m) (by omega)
  refine ev_fn (fn := f112) rfl rfl ?_
  have p1 := p_47 b k hb.sm
  have q := rGet_q hb (t := k) (by omega)
  unfold rSDIFF
  have eN := p_108 [110, 117, 109, 98, 101, 114]
  have eL := p_108 [108, 111, 110, 103]
  have eP := p_108 [112, 108, 97, 99, 101]
  have eO := p_108 [110, 111, 110, 101]
  have no := p_129
  generalize rGet b k = e at *
  obtain ⟨key, till, kind, text, list, scores, fields⟩ := e
  obtain ⟨q1, q2, q3, q4, q5, q6, q7, q8, q9, q10⟩ := q
  dsimp only [withList, withScores, withFields, withText] at *
  generalize rGet b m = e2 at *
  obtain ⟨key2, till2, kind2, text2, list2, scores2, fields2⟩ := e2
  obtain ⟨_, _, qq, _, _, _, _, _, _, _⟩ := q'
  dsimp only at *
  have pv := v_148 list list2 (by omega) (by omega)
  generalize vLess list list2 = ZV at *
  have p2 := p_141 ZV
  simp (maxSteps := 1000000) [evL, -List.getD_eq_getElem?_getD, -List.map_map, f112, p1, eN, eL, eP, eO, no, pairD, p9, pv, p2, textsRe]
end Go.Proofs.YtjdmiodinhlchaaGreat.Code
/- The reference: orders to scores. -/
namespace Go.Proofs.YtjdmiodinhlchaaGreat.Code
open Go Go.Ev Go.Proofs
set_option maxRecDepth 100000
set_option maxHeartbeats 2000000
set_option linter.unusedSimpArgs false
set_option linter.unusedVariables false
def rZCARD (b : Ba) (k : Txt) : Ba × Re := (b, intRe (rGet b k).scores.length)
def rZREM (b : Ba) (k t : Txt) : Ba × Re := rKeep b (withScores (rGet b k) (rGet b k).kind (vZDrop (rGet b k).scores t).1) (boolRe (vZDrop (rGet b k).scores t).2)
def rZSCORE (b : Ba) (k t : Txt) : Ba × Re := (b, if rRank (rGet b k).scores t < 0 then noneRe else intRe ((rGet b k).scores.getD (rRank (rGet b k).scores t).toNat ([], 0)).2)
def rZRANK (b : Ba) (k t : Txt) : Ba × Re := (b, if rRank (rGet b k).scores t < 0 then noneRe else intRe (rRank (rGet b k).scores t))
def rZADD (b : Ba) (k n t : Txt) : Ba × Re := if (intV n).2 = true then (if (vZPut (rGet b k).scores (t, (intV n).1)).2.2 = true then rKeep b (withScores (rGet b k) 4 (vZPut (rGet b k).scores (t, (intV n).1)).1) (boolRe (vZPut (rGet b k).scores (t, (intV n).1)).2.1) else (b, errRe [108, 111, 110, 103])) else (b, errRe [110, 117, 109, 98, 101, 114])
def sumZ (xs : List Sc) (t : Txt) (n : Int) : Int := if rRank xs t < 0 then n else n + (xs.getD (rRank xs t).toNat ([], 0)).2
def rZINCRBY (b : Ba) (k n t : Txt) : Ba × Re := if (intV n).2 = true then (if (vZPut (rGet b k).scores (t, sumZ (rGet b k).scores t (intV n).1)).2.2 = true then rKeep b (withScores (rGet b k) 4 (vZPut (rGet b k).scores (t, sumZ (rGet b k).scores t (intV n).1)).1) (intRe (sumZ (rGet b k).scores t (intV n).1)) else (b, errRe [108, 111, 110, 103])) else (b, errRe [110, 117, 109, 98, 101, 114])
def rZRANGE (b : Ba) (k n m : Txt) : Ba × Re := if (intV n).2 = true ∧ (intV m).2 = true then (b, textsRe (rNames (vZAt (rGet b k).scores (intV n).1 (intV m).1))) else (b, errRe [110, 117, 109, 98, 101, 114])
def rZRANGEBYSCORE (b : Ba) (k n m : Txt) : Ba × Re := if (intV n).2 = true ∧ (intV m).2 = true then (b, textsRe (rNames (rBy (rGet b k).scores (intV n).1 (intV m).1))) else (b, errRe [110, 117, 109, 98, 101, 114])
theorem rRank_in (xs : List Sc) (t : Txt) : -1 ≤ rRank xs t ∧ rRank xs t < xs.length := by
  unfold rRank
  split
  · split
    · constructor <;> omega
    · constructor <;> omega
  · constructor <;> omega
theorem p_113_ZCARD (b : Ba) (k : Txt)  (hb : BaG b) (hk : k.length ≤ 40)  : pureCall (ev R) 113 [.d (baD b), .d (txts ([[90, 67, 65, 82, 68], k]))] = some (pairD (rZCARD b k)) := pureCall_eq fun H => by
  refine ev_fn (fn := f113) rfl rfl ?_
  have p1 := p_47 b k hb.sm
  have q := rGet_q hb (t := k) (by omega)
  unfold rZCARD
  have eN := p_108 [110, 117, 109, 98, 101, 114]
  have eL := p_108 [108, 111, 110, 103]
  have eP := p_108 [112, 108, 97, 99, 101]
  have eO := p_108 [110, 111, 110, 101]
  have no := p_129
  generalize rGet b k = e at *
  obtain ⟨key, till, kind, text, list, scores, fields⟩ := e
  obtain ⟨q1, q2, q3, q4, q5, q6, q7, q8, q9, q10⟩ := q
  dsimp only [withList, withScores, withFields, withText] at *
  have p2 := p_131 scores.length
  simp (maxSteps := 1000000) [evL, -List.getD_eq_getElem?_getD, -List.map_map, f113, p1, eN, eL, eP, eO, no, pairD, p2, intRe]
theorem p_113_ZREM (b : Ba) (k : Txt) (t : Txt) (hb : BaG b) (hk : k.length ≤ 40) (ht : t.length ≤ 40) : pureCall (ev R) 113 [.d (baD b), .d (txts ([[90, 82, 69, 77], k, t]))] = some (pairD (rZREM b k t)) := pureCall_eq fun H => by
  refine ev_fn (fn := f113) rfl rfl ?_
  have p1 := p_47 b k hb.sm
  have q := rGet_q hb (t := k) (by omega)
  unfold rZREM
  have eN := p_108 [110, 117, 109, 98, 101, 114]
  have eL := p_108 [108, 111, 110, 103]
  have eP := p_108 [112, 108, 97, 99, 101]
  have eO := p_108 [110, 111, 110, 101]
  have no := p_129
  generalize rGet b k = e at *
  obtain ⟨key, till, kind, text, list, scores, fields⟩ := e
  obtain ⟨q1, q2, q3, q4, q5, q6, q7, q8, q9, q10⟩ := q
  dsimp only [withList, withScores, withFields, withText] at *
  have vq := vZDrop_q scores t ⟨q5, q6⟩
  have pv := v_149 scores t (by omega)
  generalize vZDrop scores t = V at *
  obtain ⟨vl, vo⟩ := V
  dsimp only at *
  have q : EnQ ⟨key, till, kind, text, list, vl, fields⟩ := ⟨q1, q2, q3, q4, vq.1, vq.2, q7, q8, q9, by dsimp only; omega⟩
  have p2 := p_144 vo
  have p3 := p_132 b _ (boolRe vo) hb.sm q.sm q.fit
  generalize rKeep b ⟨key, till, kind, text, list, vl, fields⟩ (boolRe vo) = P at *
  simp (maxSteps := 1000000) [evL, -List.getD_eq_getElem?_getD, -List.map_map, f113, p1, eN, eL, eP, eO, no, pairD, pv, p2, p3]
theorem p_113_ZSCORE (b : Ba) (k : Txt) (t : Txt) (hb : BaG b) (hk : k.length ≤ 40) (ht : t.length ≤ 40) : pureCall (ev R) 113 [.d (baD b), .d (txts ([[90, 83, 67, 79, 82, 69], k, t]))] = some (pairD (rZSCORE b k t)) := pureCall_eq fun H => by
  refine ev_fn (fn := f113) rfl rfl ?_
  have p1 := p_47 b k hb.sm
  have q := rGet_q hb (t := k) (by omega)
  unfold rZSCORE
  have eN := p_108 [110, 117, 109, 98, 101, 114]
  have eL := p_108 [108, 111, 110, 103]
  have eP := p_108 [112, 108, 97, 99, 101]
  have eO := p_108 [110, 111, 110, 101]
  have no := p_129
  generalize rGet b k = e at *
  obtain ⟨key, till, kind, text, list, scores, fields⟩ := e
  obtain ⟨q1, q2, q3, q4, q5, q6, q7, q8, q9, q10⟩ := q
  dsimp only [withList, withScores, withFields, withText] at *
  have ri := rRank_in scores t
  have pr := p_150 scores t (by omega)
  by_cases a : rRank scores t < 0
  · generalize rRank scores t = r at *
    have a' : ¬ (0 : Int) ≤ r := by omega
    simp (maxSteps := 1000000) [evL, -List.getD_eq_getElem?_getD, -List.map_map, f113, p1, eN, eL, eP, eO, no, pairD, pr, eq_true a, noneRe]
  · generalize rRank scores t = r at *
    obtain ⟨j, rfl⟩ : ∃ j : Nat, r = (j : Int) := ⟨r.toNat, by omega⟩
    have c : (j : Int) < (scores.length : Int) := by omega
    have c' : j < scores.length := by omega
    have c0 : ¬ (j : Int) < 0 := by omega
    have c1 : (0 : Int) ≤ (j : Int) := by omega
    have g := scs_get' scores j c'
    try rw [Int.toNat_natCast] at *
    have p2 := p_131 (scores.getD j ([], 0)).2
    generalize scores.getD j ([], 0) = s at *
    simp (maxSteps := 1000000) [evL, -List.getD_eq_getElem?_getD, -List.map_map, f113, p1, eN, eL, eP, eO, no, pairD, pr, c, c', c0, c1, g, p2, intRe]
theorem p_113_ZRANK (b : Ba) (k : Txt) (t : Txt) (hb : BaG b) (hk : k.length ≤ 40) (ht : t.length ≤ 40) : pureCall (ev R) 113 [.d (baD b), .d (txts ([[90, 82, 65, 78, 75], k, t]))] = some (pairD (rZRANK b k t)) := pureCall_eq fun H => by
  refine ev_fn (fn := f113) rfl rfl ?_
  have p1 := p_47 b k hb.sm
  have q := rGet_q hb (t := k) (by omega)
  unfold rZRANK
  have eN := p_108 [110, 117, 109, 98, 101, 114]
  have eL := p_108 [108, 111, 110, 103]
  have eP := p_108 [112, 108, 97, 99, 101]
  have eO := p_108 [110, 111, 110, 101]
  have no := p_129
  generalize rGet b k = e at *
  obtain ⟨key, till, kind, text, list, scores, fields⟩ := e
  obtain ⟨q1, q2, q3, q4, q5, q6, q7, q8, q9, q10⟩ := q
  dsimp only [withList, withScores, withFields, withText] at *
  have ri := rRank_in scores t
  have pr := p_150 scores t (by omega)
  by_cases a : rRank scores t < 0
  · generalize rRank scores t = r at *
    have a' : ¬ (0 : Int) ≤ r := by omega
    simp (maxSteps := 1000000) [evL, -List.getD_eq_getElem?_getD, -List.map_map, f113, p1, eN, eL, eP, eO, no, pairD, pr, eq_true a, noneRe]
  · generalize rRank scores t = r at *
    obtain ⟨j, rfl⟩ : ∃ j : Nat, r = (j : Int) := ⟨r.toNat, by omega⟩
    have c : (j : Int) < (scores.length : Int) := by omega
    have c' : j < scores.length := by omega
    have c0 : ¬ (j : Int) < 0 := by omega
    have c1 : (0 : Int) ≤ (j : Int) := by omega
    have g := scs_get' scores j c'
    try rw [Int.toNat_natCast] at *
    have p2 := p_131 j
    simp (maxSteps := 1000000) [evL, -List.getD_eq_getElem?_getD, -List.map_map, f113, p1, eN, eL, eP, eO, no, pairD, pr, c, c', c0, c1, g, p2, intRe]
theorem p_113_ZADD (b : Ba) (k : Txt) (n : Txt) (t : Txt) (hb : BaG b) (hk : k.length ≤ 40) (hn : n.length ≤ 40) (ht : t.length ≤ 40) : pureCall (ev R) 113 [.d (baD b), .d (txts ([[90, 65, 68, 68], k, n, t]))] = some (pairD (rZADD b k n t)) := pureCall_eq fun H => by
  refine ev_fn (fn := f113) rfl rfl ?_
  have p1 := p_47 b k hb.sm
  have q := rGet_q hb (t := k) (by omega)
  unfold rZADD
  have eN := p_108 [110, 117, 109, 98, 101, 114]
  have eL := p_108 [108, 111, 110, 103]
  have eP := p_108 [112, 108, 97, 99, 101]
  have eO := p_108 [110, 111, 110, 101]
  have no := p_129
  generalize rGet b k = e at *
  obtain ⟨key, till, kind, text, list, scores, fields⟩ := e
  obtain ⟨q1, q2, q3, q4, q5, q6, q7, q8, q9, q10⟩ := q
  dsimp only [withList, withScores, withFields, withText] at *
  have i0 := intV_in n
  have pi0 := p_133 n (by omega)
  generalize intV n = I0 at *
  obtain ⟨n0, o0⟩ := I0
  dsimp only at *
  have vq := vZPut_q scores (t, n0) ⟨q5, q6⟩
  have pv := v_126 scores (t, n0) (by omega)
  generalize vZPut scores (t, n0) = V at *
  obtain ⟨vl, vf, vo⟩ := V
  dsimp only at *
  have q : EnQ ⟨key, till, 4, text, list, vl, fields⟩ := ⟨q1, q2, q3, q4, vq.1, vq.2, q7, q8, q9, by dsimp only; omega⟩
  have pr := p_150 scores t (by omega)
  have p2 := p_144 vf
  have p3 := p_132 b _ (boolRe vf) hb.sm q.sm q.fit
  generalize rKeep b ⟨key, till, 4, text, list, vl, fields⟩ (boolRe vf) = P at *
  generalize rRank scores t = r at *
  cases o0
  · simp (maxSteps := 1000000) [evL, -List.getD_eq_getElem?_getD, -List.map_map, f113, p1, eN, eL, eP, eO, no, pairD, pi0, errRe]
  · cases vo
    · simp (maxSteps := 1000000) [evL, -List.getD_eq_getElem?_getD, -List.map_map, f113, p1, eN, eL, eP, eO, no, pairD, pi0, pr, pv, errRe]
    · simp (maxSteps := 1000000) [evL, -List.getD_eq_getElem?_getD, -List.map_map, f113, p1, eN, eL, eP, eO, no, pairD, pi0, pr, pv, p2, p3]
theorem sumZ_in (xs : List Sc) (t : Txt) (n : Int) (hx : ScQ xs) (hn : -1000000000 ≤ n ∧ n ≤ 1000000000) : -3000000000 ≤ sumZ xs t n ∧ sumZ xs t n ≤ 3000000000 := by
  unfold sumZ
  split
  · omega
  · rename_i h
    have := rRank_in xs t
    have := hx.2 _ (getD_in (xs := xs) (i := (rRank xs t).toNat) (d := ([], 0)) (by omega))
    omega
theorem p_113_ZINCRBY (b : Ba) (k : Txt) (n : Txt) (t : Txt) (hb : BaG b) (hk : k.length ≤ 40) (hn : n.length ≤ 40) (ht : t.length ≤ 40) : pureCall (ev R) 113 [.d (baD b), .d (txts ([[90, 73, 78, 67, 82, 66, 89], k, n, t]))] = some (pairD (rZINCRBY b k n t)) := pureCall_eq fun H => by
  refine ev_fn (fn := f113) rfl rfl ?_
  have p1 := p_47 b k hb.sm
  have q := rGet_q hb (t := k) (by omega)
  unfold rZINCRBY
  have eN := p_108 [110, 117, 109, 98, 101, 114]
  have eL := p_108 [108, 111, 110, 103]
  have eP := p_108 [112, 108, 97, 99, 101]
  have eO := p_108 [110, 111, 110, 101]
  have no := p_129
  generalize rGet b k = e at *
  obtain ⟨key, till, kind, text, list, scores, fields⟩ := e
  obtain ⟨q1, q2, q3, q4, q5, q6, q7, q8, q9, q10⟩ := q
  dsimp only [withList, withScores, withFields, withText] at *
  have i0 := intV_in n
  have pi0 := p_133 n (by omega)
  generalize intV n = I0 at *
  obtain ⟨n0, o0⟩ := I0
  dsimp only at *
  have si := sumZ_in scores t n0 ⟨q5, q6⟩ i0
  have hs : ∀ j : Nat, rRank scores t = (j : Int) → sumZ scores t n0 = n0 + (scores.getD j ([], 0)).2 := fun j hj => by unfold sumZ; rw [hj, Int.toNat_natCast, if_neg (by omega)]
  have hs0 : rRank scores t < 0 → sumZ scores t n0 = n0 := fun h => by unfold sumZ; rw [if_pos h]
  have pv0 := v_126 scores (t, sumZ scores t n0) (by omega)
  have vq := vZPut_q scores (t, sumZ scores t n0) ⟨q5, q6⟩
  have pi2 := p_131 (sumZ scores t n0)
  generalize sumZ scores t n0 = S at *
  generalize vZPut scores (t, S) = V at *
  obtain ⟨vl, vf, vo⟩ := V
  dsimp only at *
  have q : EnQ ⟨key, till, 4, text, list, vl, fields⟩ := ⟨q1, q2, q3, q4, vq.1, vq.2, q7, q8, q9, by dsimp only; omega⟩
  have p3 := p_132 b _ (intRe S) hb.sm q.sm q.fit
  generalize rKeep b ⟨key, till, 4, text, list, vl, fields⟩ (intRe S) = P at *
  unfold intRe at p3
  have ri := rRank_in scores t
  have pr := p_150 scores t (by omega)
  cases o0
  · simp (maxSteps := 1000000) [evL, -List.getD_eq_getElem?_getD, -List.map_map, f113, p1, eN, eL, eP, eO, no, pairD, pi0, errRe]
  by_cases a : rRank scores t < 0
  · generalize rRank scores t = r at *
    have a' : ¬ (0 : Int) ≤ r := by omega
    have hs1 := hs0 a
    subst hs1
    cases vo
    · simp (maxSteps := 1000000) [evL, -List.getD_eq_getElem?_getD, -List.map_map, f113, p1, eN, eL, eP, eO, no, pairD, pi0, pr, eq_true a, a', pv0, errRe]
    · simp (maxSteps := 1000000) [evL, -List.getD_eq_getElem?_getD, -List.map_map, f113, p1, eN, eL, eP, eO, no, pairD, pi0, pr, eq_true a, a', pv0, pi2, p3]
  · generalize rRank scores t = r at *
    obtain ⟨j, rfl⟩ : ∃ j : Nat, r = (j : Int) := ⟨r.toNat, by omega⟩
    have hs1 := hs j rfl
    have c : (j : Int) < (scores.length : Int) := by omega
    have c' : j < scores.length := by omega
    have c0 : ¬ (j : Int) < 0 := by omega
    have c1 : (0 : Int) ≤ (j : Int) := by omega
    have g := scs_get' scores j c'
    try rw [Int.toNat_natCast] at *
    have w : IntKind.i64.wrap (n0 + (scores.getD j ([], 0)).2) = S := by rw [← hs1]; exact IntWalk.i64_in _ (by omega)
    generalize scores.getD j ([], 0) = s at *
    cases vo
    · simp (maxSteps := 1000000) [evL, -List.getD_eq_getElem?_getD, -List.map_map, f113, p1, eN, eL, eP, eO, no, pairD, pi0, pr, c, c', c0, c1, g, w, pv0, errRe]
    · simp (maxSteps := 1000000) [evL, -List.getD_eq_getElem?_getD, -List.map_map, f113, p1, eN, eL, eP, eO, no, pairD, pi0, pr, c, c', c0, c1, g, w, pv0, pi2, p3]
theorem p_113_ZRANGE (b : Ba) (k : Txt) (n : Txt) (m : Txt) (hb : BaG b) (hk : k.length ≤ 40) (hn : n.length ≤ 40) (hm : m.length ≤ 40) : pureCall (ev R) 113 [.d (baD b), .d (txts ([[90, 82, 65, 78, 71, 69], k, n, m]))] = some (pairD (rZRANGE b k n m)) := pureCall_eq fun H => by
  refine ev_fn (fn := f113) rfl rfl ?_
  have p1 := p_47 b k hb.sm
  have q := rGet_q hb (t := k) (by omega)
  unfold rZRANGE
  have eN := p_108 [110, 117, 109, 98, 101, 114]
  have eL := p_108 [108, 111, 110, 103]
  have eP := p_108 [112, 108, 97, 99, 101]
  have eO := p_108 [110, 111, 110, 101]
  have no := p_129
  generalize rGet b k = e at *
  obtain ⟨key, till, kind, text, list, scores, fields⟩ := e
  obtain ⟨q1, q2, q3, q4, q5, q6, q7, q8, q9, q10⟩ := q
  dsimp only [withList, withScores, withFields, withText] at *
  have i0 := intV_in n
  have pi0 := p_133 n (by omega)
  have i1 := intV_in m
  have pi1 := p_133 m (by omega)
  generalize intV n = I0 at *
  obtain ⟨n0, o0⟩ := I0
  generalize intV m = I1 at *
  obtain ⟨n1, o1⟩ := I1
  dsimp only at *
  have vq := vZAt_q scores n0 n1 ⟨q5, q6⟩
  have pv := v_152 scores n0 n1 (by omega)
  generalize vZAt scores n0 n1 = ZV at *
  have p4 := p_151 ZV (by have := vq.1; omega)
  have p2 := p_141 (rNames ZV)
  generalize rNames ZV = N at *
  cases o0 <;> cases o1
  · simp (maxSteps := 1000000) [evL, -List.getD_eq_getElem?_getD, -List.map_map, f113, p1, eN, eL, eP, eO, no, pairD, pi0, pi1, errRe]
  · simp (maxSteps := 1000000) [evL, -List.getD_eq_getElem?_getD, -List.map_map, f113, p1, eN, eL, eP, eO, no, pairD, pi0, pi1, errRe]
  · simp (maxSteps := 1000000) [evL, -List.getD_eq_getElem?_getD, -List.map_map, f113, p1, eN, eL, eP, eO, no, pairD, pi0, pi1, errRe]
  · simp (maxSteps := 1000000) [evL, -List.getD_eq_getElem?_getD, -List.map_map, f113, p1, eN, eL, eP, eO, no, pairD, pi0, pi1, pv, p4, p2, textsRe]
theorem p_113_ZRANGEBYSCORE (b : Ba) (k : Txt) (n : Txt) (m : Txt) (hb : BaG b) (hk : k.length ≤ 40) (hn : n.length ≤ 40) (hm : m.length ≤ 40) : pureCall (ev R) 113 [.d (baD b), .d (txts ([[90, 82, 65, 78, 71, 69, 66, 89, 83, 67, 79, 82, 69], k, n, m]))] = some (pairD (rZRANGEBYSCORE b k n m)) := pureCall_eq fun H => by
  refine ev_fn (fn := f113) rfl rfl ?_
  have p1 := p_47 b k hb.sm
  have q := rGet_q hb (t := k) (by omega)
  unfold rZRANGEBYSCORE
  have eN := p_108 [110, 117, 109, 98, 101, 114]
  have eL := p_108 [108, 111, 110, 103]
  have eP := p_108 [112, 108, 97, 99, 101]
  have eO := p_108 [110, 111, 110, 101]
  have no := p_129
  generalize rGet b k = e at *
  obtain ⟨key, till, kind, text, list, scores, fields⟩ := e
  obtain ⟨q1, q2, q3, q4, q5, q6, q7, q8, q9, q10⟩ := q
  dsimp only [withList, withScores, withFields, withText] at *
  have i0 := intV_in n
  have pi0 := p_133 n (by omega)
  have i1 := intV_in m
  have pi1 := p_133 m (by omega)
  generalize intV n = I0 at *
  obtain ⟨n0, o0⟩ := I0
  generalize intV m = I1 at *
  obtain ⟨n1, o1⟩ := I1
  dsimp only at *
  have vq := rBy_q scores n0 n1 ⟨q5, q6⟩
  have pv := p_153 scores n0 n1 (by omega)
  generalize rBy scores n0 n1 = ZV at *
  have p4 := p_151 ZV (by have := vq.1; omega)
  have p2 := p_141 (rNames ZV)
  generalize rNames ZV = N at *
  cases o0 <;> cases o1
  · simp (maxSteps := 1000000) [evL, -List.getD_eq_getElem?_getD, -List.map_map, f113, p1, eN, eL, eP, eO, no, pairD, pi0, pi1, errRe]
  · simp (maxSteps := 1000000) [evL, -List.getD_eq_getElem?_getD, -List.map_map, f113, p1, eN, eL, eP, eO, no, pairD, pi0, pi1, errRe]
  · simp (maxSteps := 1000000) [evL, -List.getD_eq_getElem?_getD, -List.map_map, f113, p1, eN, eL, eP, eO, no, pairD, pi0, pi1, errRe]
  · simp (maxSteps := 1000000) [evL, -List.getD_eq_getElem?_getD, -List.map_map, f113, p1, eN, eL, eP, eO, no, pairD, pi0, pi1, pv, p4, p2, textsRe]
end Go.Proofs.YtjdmiodinhlchaaGreat.Code
/- The reference: orders to fields. -/
namespace Go.Proofs.YtjdmiodinhlchaaGreat.Code
open Go Go.Ev Go.Proofs
set_option maxRecDepth 100000
set_option maxHeartbeats 2000000
set_option linter.unusedSimpArgs false
set_option linter.unusedVariables false
def rHLEN (b : Ba) (k : Txt) : Ba × Re := (b, intRe (rGet b k).fields.length)
def rAllF (xs : List Pr) : List Txt := xs.flatMap fun p => [p.1, p.2]
def rHGETALL (b : Ba) (k : Txt) : Ba × Re := (b, textsRe (rAllF (rGet b k).fields))
def rHGET (b : Ba) (k t : Txt) : Ba × Re := (b, if (vFGet (rGet b k).fields t).2 = true then textRe (vFGet (rGet b k).fields t).1 else noneRe)
def rHDEL (b : Ba) (k t : Txt) : Ba × Re := rKeep b (withFields (rGet b k) (rGet b k).kind (vFDrop (rGet b k).fields t).1) (boolRe (vFDrop (rGet b k).fields t).2)
def rHSET (b : Ba) (k f t : Txt) : Ba × Re := if (vFPut (rGet b k).fields (f, t)).2.2 = true then rKeep b (withFields (rGet b k) 5 (vFPut (rGet b k).fields (f, t)).1) (boolRe (vFPut (rGet b k).fields (f, t)).2.1) else (b, errRe [108, 111, 110, 103])
def sumF (xs : List Pr) (f y : Txt) : Int × Bool := addV (vFGet xs f).1 (vFGet xs f).2 y
def rHINCRBY (b : Ba) (k f y : Txt) : Ba × Re := if (sumF (rGet b k).fields f y).2 = true then (if (vFPut (rGet b k).fields (f, decZ (sumF (rGet b k).fields f y).1)).2.2 = true then rKeep b (withFields (rGet b k) 5 (vFPut (rGet b k).fields (f, decZ (sumF (rGet b k).fields f y).1)).1) (intRe (sumF (rGet b k).fields f y).1) else (b, errRe [108, 111, 110, 103])) else (b, errRe [110, 117, 109, 98, 101, 114])
theorem vFGet_len (xs : List Pr) (f : Txt) (h : PrQ xs) : (vFGet xs f).1.length ≤ 1000000 := by
  unfold vFGet
  split
  · exact (getD_all (P := fun x : Pr => x.1.length ≤ 1000000 ∧ x.2.length ≤ 1000000) h.2 (by simp) _).2
  · simp
theorem p_114_HLEN (b : Ba) (k : Txt)  (hb : BaG b) (hk : k.length ≤ 40)  : pureCall (ev R) 114 [.d (baD b), .d (txts ([[72, 76, 69, 78], k]))] = some (pairD (rHLEN b k)) := pureCall_eq fun H => by
  refine ev_fn (fn := f114) rfl rfl ?_
  have p1 := p_47 b k hb.sm
  have q := rGet_q hb (t := k) (by omega)
  unfold rHLEN
  have eN := p_108 [110, 117, 109, 98, 101, 114]
  have eL := p_108 [108, 111, 110, 103]
  have eP := p_108 [112, 108, 97, 99, 101]
  have eO := p_108 [110, 111, 110, 101]
  have no := p_129
  generalize rGet b k = e at *
  obtain ⟨key, till, kind, text, list, scores, fields⟩ := e
  obtain ⟨q1, q2, q3, q4, q5, q6, q7, q8, q9, q10⟩ := q
  dsimp only [withList, withScores, withFields, withText] at *
  have p2 := p_131 fields.length
  simp (maxSteps := 1000000) [evL, -List.getD_eq_getElem?_getD, -List.map_map, f114, p1, eN, eL, eP, eO, no, pairD, p2, intRe]
theorem p_114_HGET (b : Ba) (k : Txt) (t : Txt) (hb : BaG b) (hk : k.length ≤ 40) (ht : t.length ≤ 40) : pureCall (ev R) 114 [.d (baD b), .d (txts ([[72, 71, 69, 84], k, t]))] = some (pairD (rHGET b k t)) := pureCall_eq fun H => by
  refine ev_fn (fn := f114) rfl rfl ?_
  have p1 := p_47 b k hb.sm
  have q := rGet_q hb (t := k) (by omega)
  unfold rHGET
  have eN := p_108 [110, 117, 109, 98, 101, 114]
  have eL := p_108 [108, 111, 110, 103]
  have eP := p_108 [112, 108, 97, 99, 101]
  have eO := p_108 [110, 111, 110, 101]
  have no := p_129
  generalize rGet b k = e at *
  obtain ⟨key, till, kind, text, list, scores, fields⟩ := e
  obtain ⟨q1, q2, q3, q4, q5, q6, q7, q8, q9, q10⟩ := q
  dsimp only [withList, withScores, withFields, withText] at *
  have pv := v_154 fields t (by omega)
  generalize vFGet fields t = V at *
  obtain ⟨vs, vo⟩ := V
  dsimp only at *
  have p2 := p_130 vs
  cases vo
  · simp (maxSteps := 1000000) [evL, -List.getD_eq_getElem?_getD, -List.map_map, f114, p1, eN, eL, eP, eO, no, pairD, pv, noneRe]
  · simp (maxSteps := 1000000) [evL, -List.getD_eq_getElem?_getD, -List.map_map, f114, p1, eN, eL, eP, eO, no, pairD, pv, p2, textRe]
theorem p_114_HDEL (b : Ba) (k : Txt) (t : Txt) (hb : BaG b) (hk : k.length ≤ 40) (ht : t.length ≤ 40) : pureCall (ev R) 114 [.d (baD b), .d (txts ([[72, 68, 69, 76], k, t]))] = some (pairD (rHDEL b k t)) := pureCall_eq fun H => by
  refine ev_fn (fn := f114) rfl rfl ?_
  have p1 := p_47 b k hb.sm
  have q := rGet_q hb (t := k) (by omega)
  unfold rHDEL
  have eN := p_108 [110, 117, 109, 98, 101, 114]
  have eL := p_108 [108, 111, 110, 103]
  have eP := p_108 [112, 108, 97, 99, 101]
  have eO := p_108 [110, 111, 110, 101]
  have no := p_129
  generalize rGet b k = e at *
  obtain ⟨key, till, kind, text, list, scores, fields⟩ := e
  obtain ⟨q1, q2, q3, q4, q5, q6, q7, q8, q9, q10⟩ := q
  dsimp only [withList, withScores, withFields, withText] at *
  have vq := vFDrop_q fields t ⟨q7, q8⟩
  have pv := v_155 fields t (by omega)
  generalize vFDrop fields t = V at *
  obtain ⟨vl, vo⟩ := V
  dsimp only at *
  have q : EnQ ⟨key, till, kind, text, list, scores, vl⟩ := ⟨q1, q2, q3, q4, q5, q6, vq.1, vq.2, q9, by dsimp only; omega⟩
  have p2 := p_144 vo
  have p3 := p_132 b _ (boolRe vo) hb.sm q.sm q.fit
  generalize rKeep b ⟨key, till, kind, text, list, scores, vl⟩ (boolRe vo) = P at *
  simp (maxSteps := 1000000) [evL, -List.getD_eq_getElem?_getD, -List.map_map, f114, p1, eN, eL, eP, eO, no, pairD, pv, p2, p3]
theorem p_114_HSET (b : Ba) (k : Txt) (f : Txt) (t : Txt) (hb : BaG b) (hk : k.length ≤ 40) (hf : f.length ≤ 40) (ht : t.length ≤ 40) : pureCall (ev R) 114 [.d (baD b), .d (txts ([[72, 83, 69, 84], k, f, t]))] = some (pairD (rHSET b k f t)) := pureCall_eq fun H => by
  refine ev_fn (fn := f114) rfl rfl ?_
  have p1 := p_47 b k hb.sm
  have q := rGet_q hb (t := k) (by omega)
  unfold rHSET
  have eN := p_108 [110, 117, 109, 98, 101, 114]
  have eL := p_108 [108, 111, 110, 103]
  have eP := p_108 [112, 108, 97, 99, 101]
  have eO := p_108 [110, 111, 110, 101]
  have no := p_129
  generalize rGet b k = e at *
  obtain ⟨key, till, kind, text, list, scores, fields⟩ := e
  obtain ⟨q1, q2, q3, q4, q5, q6, q7, q8, q9, q10⟩ := q
  dsimp only [withList, withScores, withFields, withText] at *
  have vq := vFPut_q fields (f, t) ⟨q7, q8⟩
  have pv := v_105 fields (f, t) (by omega)
  generalize vFPut fields (f, t) = V at *
  obtain ⟨vl, vf, vo⟩ := V
  dsimp only at *
  have q : EnQ ⟨key, till, 5, text, list, scores, vl⟩ := ⟨q1, q2, q3, q4, q5, q6, vq.1, vq.2, q9, by dsimp only; omega⟩
  have p2 := p_144 vf
  have p3 := p_132 b _ (boolRe vf) hb.sm q.sm q.fit
  generalize rKeep b ⟨key, till, 5, text, list, scores, vl⟩ (boolRe vf) = P at *
  cases vo
  · simp (maxSteps := 1000000) [evL, -List.getD_eq_getElem?_getD, -List.map_map, f114, p1, eN, eL, eP, eO, no, pairD, pv, errRe]
  · simp (maxSteps := 1000000) [evL, -List.getD_eq_getElem?_getD, -List.map_map, f114, p1, eN, eL, eP, eO, no, pairD, pv, p2, p3]
theorem p_114_HINCRBY (b : Ba) (k : Txt) (f : Txt) (y : Txt) (hb : BaG b) (hk : k.length ≤ 40) (hf : f.length ≤ 40) (hy : y.length ≤ 40) : pureCall (ev R) 114 [.d (baD b), .d (txts ([[72, 73, 78, 67, 82, 66, 89], k, f, y]))] = some (pairD (rHINCRBY b k f y)) := pureCall_eq fun H => by
  refine ev_fn (fn := f114) rfl rfl ?_
  have p1 := p_47 b k hb.sm
  have q := rGet_q hb (t := k) (by omega)
  unfold rHINCRBY
  have eN := p_108 [110, 117, 109, 98, 101, 114]
  have eL := p_108 [108, 111, 110, 103]
  have eP := p_108 [112, 108, 97, 99, 101]
  have eO := p_108 [110, 111, 110, 101]
  have no := p_129
  generalize rGet b k = e at *
  obtain ⟨key, till, kind, text, list, scores, fields⟩ := e
  obtain ⟨q1, q2, q3, q4, q5, q6, q7, q8, q9, q10⟩ := q
  dsimp only [withList, withScores, withFields, withText] at *
  unfold sumF
  have gl := vFGet_len fields f ⟨q7, q8⟩
  have pv := v_154 fields f (by omega)
  generalize vFGet fields f = V at *
  obtain ⟨gs, go⟩ := V
  dsimp only at *
  have pa := p_135 gs go y (by omega) (by omega)
  have ai := addV_in gs go y
  generalize addV gs go y = A at *
  obtain ⟨n, ao⟩ := A
  dsimp only at *
  have pd := p_83 n ai
  have pw := v_105 fields (f, decZ n) (by omega)
  have vq := vFPut_q fields (f, decZ n) ⟨q7, q8⟩
  generalize decZ n = D at *
  generalize vFPut fields (f, D) = V at *
  obtain ⟨vl, vf, vo⟩ := V
  dsimp only at *
  have q : EnQ ⟨key, till, 5, text, list, scores, vl⟩ := ⟨q1, q2, q3, q4, q5, q6, vq.1, vq.2, q9, by dsimp only; omega⟩
  have p2 := p_131 n
  have p3 := p_132 b _ (intRe n) hb.sm q.sm q.fit
  generalize rKeep b ⟨key, till, 5, text, list, scores, vl⟩ (intRe n) = P at *
  unfold intRe at p3
  cases ao
  · simp (maxSteps := 1000000) [evL, -List.getD_eq_getElem?_getD, -List.map_map, f114, p1, eN, eL, eP, eO, no, pairD, pv, pa, errRe]
  · cases vo
    · simp (maxSteps := 1000000) [evL, -List.getD_eq_getElem?_getD, -List.map_map, f114, p1, eN, eL, eP, eO, no, pairD, pv, pa, pd, pw, errRe]
    · simp (maxSteps := 1000000) [evL, -List.getD_eq_getElem?_getD, -List.map_map, f114, p1, eN, eL, eP, eO, no, pairD, pv, pa, pd, pw, p2, p3]
end Go.Proofs.YtjdmiodinhlchaaGreat.Code
/- The reference: all fields told; orders to any entry. -/
namespace Go.Proofs.YtjdmiodinhlchaaGreat.Code
open Go Go.Ev Go.Proofs
set_option maxRecDepth 100000
set_option maxHeartbeats 2000000
set_option linter.unusedSimpArgs false
set_option linter.unusedVariables false
theorem rAllF_len (xs : List Pr) : (rAllF xs).length = 2 * xs.length := by
  unfold rAllF
  induction xs with
  | nil => rfl
  | cons x xs ih => rw [List.flatMap_cons, List.length_append, ih]; simp; omega
theorem rAllF_snoc (xs : List Pr) (i : Nat) (hi : i < xs.length) : rAllF (xs.take (i + 1)) = rAllF (xs.take i) ++ [(xs.getD i ([], [])).1, (xs.getD i ([], [])).2] := by
  rw [take_snoc' xs i ([], []) hi]
  simp only [rAllF, List.flatMap_append, List.flatMap_cons, List.flatMap_nil, List.append_nil]
theorem l_114 (H : Hp) (A B C : Ev.Obj) (E : En) (hf : E.fields.length ≤ 1000) :
    Gives (fun o e X => o = .exit 1 ∧ X = ap H [A, B, C, .row 0 7 [.d (enD E)], .row E.fields.length 1 (((rAllF E.fields).map D.str).map V.d)] ∧ e.get 2 = .ptr (hlen H) 0 0 0 ∧ e.get 4 = .ptr (hlen H + 1) 0 0 0 ∧ e.get 5 = .ptr (hlen H + 2) 0 0 0 ∧ e.get 7 = .slc (hlen H + 4) E.fields.length 0 (2 * E.fields.length))
      (evLoop (evCode (ev R) R.glob (hlen H) evLoop f114l0) [2, 4, 5, 6, 7, 8] ⟨[(2, .ptr (hlen H) 0 0 0), (4, .ptr (hlen H + 1) 0 0 0), (5, .ptr (hlen H + 2) 0 0 0), (6, .ptr (hlen H + 3) 0 0 0), (7, .slc (hlen H + 4) 0 0 0), (8, .d (.int .i64 0))], ap H [A, B, C, .row 0 7 [.d (enD E)], .row 0 1 []]⟩) := by
  refine loop_keep (F := evCode (ev R) R.glob (hlen H) evLoop f114l0) (lv := [2, 4, 5, 6, 7, 8]) E.fields.length
    (fun i e X => ∃ zs : List Txt, zs = rAllF (E.fields.take i) ∧ X = ap H [A, B, C, .row 0 7 [.d (enD E)], .row i 1 ((zs.map D.str).map V.d)] ∧ e.get 2 = .ptr (hlen H) 0 0 0 ∧ e.get 4 = .ptr (hlen H + 1) 0 0 0 ∧ e.get 5 = .ptr (hlen H + 2) 0 0 0 ∧ e.get 6 = .ptr (hlen H + 3) 0 0 0 ∧ e.get 7 = .slc (hlen H + 4) i 0 (2 * i) ∧ e.get 8 = .d (.int .i64 i))
    _ ?_ ?_ E.fields.length 0 _ _ (by omega) ⟨[], by simp [rAllF], rfl, rfl, rfl, rfl, rfl, rfl, rfl⟩
  · rintro e X ⟨zs, hz, rfl, g2, g4, g5, g6, g7, g8⟩
    rw [List.take_length] at hz
    subst hz
    generalize rAllF E.fields = zs
    simp (maxSteps := 1000000) [evL, -List.getD_eq_getElem?_getD, -List.map_map, f114l0, g2, g4, g5, g6, g7, g8]
  · rintro i e X hi ⟨zs, hz, rfl, g2, g4, g5, g6, g7, g8⟩
    have c : (i : Int) < (E.fields.length : Int) := by omega
    have c0 : (0 : Int) ≤ (i : Int) := by omega
    have g := prs_get' E.fields i hi
    have hn := rAllF_snoc E.fields i hi
    rw [← hz] at hn
    have hl : zs.length = 2 * i := by rw [hz, rAllF_len, List.length_take]; omega
    have w1 : IntKind.i64.wrap ((i : Int) + 1) = (i : Int) + 1 := IntWalk.i64_in _ (by omega)
    have r : (2 * i + 2) * 16 ≤ room := by unfold room; omega
    have h2 : 2 * (i + 1) = 2 * i + 2 := by omega
    generalize E.fields.getD i ([], []) = x at *
    simp (maxSteps := 1000000) [evL, -List.getD_eq_getElem?_getD, -List.map_map, f114l0, g2, g4, g5, g6, g7, g8, c, c0, hi, g, hn, hl, w1, r, h2]
theorem p_114_HGETALL (b : Ba) (k : Txt) (hb : BaG b) (hk : k.length ≤ 40) : pureCall (ev R) 114 [.d (baD b), .d (txts [[72, 71, 69, 84, 65, 76, 76], k])] = some (pairD (rHGETALL b k)) := pureCall_eq fun H => by
  refine ev_fn (fn := f114) rfl rfl ?_
  have p1 := p_47 b k hb.sm
  have q := rGet_q hb (t := k) (by omega)
  unfold rHGETALL
  generalize rGet b k = e at *
  have lp := fun A B C => (l_114 H A B C e q.fields).out
  have p2 := fun H => pureCall_some (p_141 (rAllF e.fields)) H
  have hl := rAllF_len e.fields
  generalize rAllF e.fields = zs at *
  obtain ⟨o, e', X', he, rfl, rfl, g2, g4, g5, g7⟩ := lp (.row 0 2 [.d (baD b)]) (.row 0 2 [.agg [.d (.int .i64 0), .nils 7]]) (.row 0 5 [.agg [.d (.int .i64 0), .d (.int .i64 0), .d (.str []), .nils 1, .nils 5]])
  have ft : List.take (2 * e.fields.length) (zs.map D.str) = zs.map D.str := List.take_of_length_le (by simp; omega)
  have ft2 : 2 * e.fields.length ≤ zs.length := by omega
  simp (maxSteps := 1000000) [evL, -List.getD_eq_getElem?_getD, -List.map_map, f114, p1, p2, he, g2, g4, g5, g7, pairD, textsRe, ft, ft2]
end Go.Proofs.YtjdmiodinhlchaaGreat.Code

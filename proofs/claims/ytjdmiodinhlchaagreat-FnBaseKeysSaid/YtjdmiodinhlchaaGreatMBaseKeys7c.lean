/- Lemmas (several texts in one). -/
import Derived.Test.YtjdmiodinhlchaaGreatMBaseKeys7b
/- The reference: orders to any entry. -/
namespace Go.Proofs.YtjdmiodinhlchaaGreat.Code
open Go Go.Ev Go.Proofs
set_option maxRecDepth 100000
set_option maxHeartbeats 2000000
set_option linter.unusedSimpArgs false
set_option linter.unusedVariables false
def rDBSIZE (b : Ba) : Ba × Re := (b, intRe b.ents.length)
def rFLUSH (b : Ba) : Ba × Re := (⟨b.now, []⟩, okRe)
def rKEYS (b : Ba) (p : Txt) : Ba × Re := (b, textsRe (vKeys b p))
def rTYPE (b : Ba) (k : Txt) : Ba × Re := (b, textRe (typeV (rGet b k).kind.toNat))
def rTTL (b : Ba) (k : Txt) : Ba × Re := (b, if (rGet b k).kind = 0 then intRe (-2) else if (rGet b k).till = 0 then intRe (-1) else intRe ((rGet b k).till - b.now))
def withTill (e : En) (n : Int) : En := ⟨e.key, n, e.kind, e.text, e.list, e.scores, e.fields⟩
def withKey (e : En) (k : Txt) : En := ⟨k, e.till, e.kind, e.text, e.list, e.scores, e.fields⟩
def rPERSIST (b : Ba) (k : Txt) : Ba × Re := rKeep b (withTill (rGet b k) 0) (boolRe (!decide ((rGet b k).till = 0)))
def rRENAME (b : Ba) (k m : Txt) : Ba × Re := if (rGet b k).kind = 0 then (b, errRe [110, 111, 110, 101]) else rKeep (rDel b k) (withKey (rGet b k) m) okRe
def rUNTIL (b : Ba) (k : Txt) (n : Int) : Ba × Re := if (rGet b k).kind = 0 then (b, intRe 0) else if n ≤ b.now then (rDel b k, intRe 1) else rKeep b (withTill (rGet b k) n) (intRe 1)
def rEXPIRE (b : Ba) (k y : Txt) : Ba × Re := if (intV y).2 = true ∧ (intV y).1 ≤ 1000000 then rUNTIL b k (b.now + (intV y).1) else (b, errRe [110, 117, 109, 98, 101, 114])
def rEXPIREAT (b : Ba) (k y : Txt) : Ba × Re := if (intV y).2 = true ∧ (intV y).1 ≤ 2000000 then rUNTIL b k (intV y).1 else (b, errRe [110, 117, 109, 98, 101, 114])
def delStep (ks : List Txt) (i : Nat) (s : Ba × Nat) : Ba × Nat := (rDel s.1 (ks.getD i []), s.2 + (if kHas s.1.ents (ks.getD i []) = true then 1 else 0))
def rDELS (b : Ba) (ks : List Txt) : Ba × Nat := (List.range' 0 ks.length).foldl (fun s i => delStep ks i s) (b, 0)
def exStep (ks : List Txt) (i : Nat) (s : Ba × Nat) : Ba × Nat := (s.1, s.2 + (if kHas s.1.ents (ks.getD i []) = true then 1 else 0))
def rEXS (b : Ba) (ks : List Txt) : Ba × Nat := (List.range' 0 ks.length).foldl (fun s i => exStep ks i s) (b, 0)
def rDEL (b : Ba) (ks : List Txt) : Ba × Re := ((rDELS b ks).1, intRe (rDELS b ks).2)
def rEXISTS (b : Ba) (ks : List Txt) : Ba × Re := ((rEXS b ks).1, intRe (rEXS b ks).2)
theorem rGet_kind {b : Ba} (h : BaG b) (t : Txt) : 0 ≤ (rGet b t).kind ∧ (rGet b t).kind ≤ 5 := by
  rcases rGet_ok h t with a | a
  · have := (enOk_is a).kind; omega
  · rw [a]; simp
theorem p_115_DBSIZE (b : Ba) (hb : BaG b) : pureCall (ev R) 115 [.d (baD b), .d (txts [[68, 66, 83, 73, 90, 69]])] = some (pairD (rDBSIZE b)) := pureCall_eq fun H => by
  refine ev_fn (fn := f115) rfl rfl ?_
  have p2 := p_131 b.ents.length
  obtain ⟨now, ents⟩ := b
  simp (maxSteps := 1000000) [evL, -List.getD_eq_getElem?_getD, -List.map_map, f115, rDBSIZE, p2, pairD, intRe]
theorem p_115_FLUSH (b : Ba) (hb : BaG b) : pureCall (ev R) 115 [.d (baD b), .d (txts [[70, 76, 85, 83, 72]])] = some (pairD (rFLUSH b)) := pureCall_eq fun H => by
  refine ev_fn (fn := f115) rfl rfl ?_
  simp (maxSteps := 1000000) [evL, -List.getD_eq_getElem?_getD, -List.map_map, f115, rFLUSH, pairD, okRe, baD_fold0]
theorem p_115_KEYS (b : Ba) (p : Txt) (hb : BaG b) (hp : p.length ≤ 40) : pureCall (ev R) 115 [.d (baD b), .d (txts [[75, 69, 89, 83], p])] = some (pairD (rKEYS b p)) := pureCall_eq fun H => by
  refine ev_fn (fn := f115) rfl rfl ?_
  have p1 := p_10 b p hb.sm hb.fit (by omega)
  have p2 := p_141 (vKeys b p)
  unfold rKEYS
  generalize vKeys b p = ZV at *
  simp (maxSteps := 1000000) [evL, -List.getD_eq_getElem?_getD, -List.map_map, f115, p1, p2, pairD, textsRe]
theorem p_115_TYPE (b : Ba) (k : Txt)  (hb : BaG b) (hk : k.length ≤ 40)  : pureCall (ev R) 115 [.d (baD b), .d (txts ([[84, 89, 80, 69], k]))] = some (pairD (rTYPE b k)) := pureCall_eq fun H => by
  refine ev_fn (fn := f115) rfl rfl ?_
  have p1 := p_47 b k hb.sm
  have kq := rGet_kind hb k
  have nq := hb.now
  have q := rGet_q hb (t := k) (by omega)
  unfold rTYPE
  have eN := p_108 [110, 117, 109, 98, 101, 114]
  have eL := p_108 [108, 111, 110, 103]
  have eP := p_108 [112, 108, 97, 99, 101]
  have eO := p_108 [110, 111, 110, 101]
  have no := p_129
  generalize rGet b k = e at *
  obtain ⟨key, till, kind, text, list, scores, fields⟩ := e
  obtain ⟨q1, q2, q3, q4, q5, q6, q7, q8, q9, q10⟩ := q
  dsimp only [withTill, withKey, boolRe] at *
  have p2 := p_156 kind kq
  have p3 := p_130 (typeV kind.toNat)
  generalize typeV kind.toNat = T at *
  simp (maxSteps := 1000000) [evL, -List.getD_eq_getElem?_getD, -List.map_map, f115, p1, eN, eL, eP, eO, no, pairD, p2, p3, textRe]
theorem p_115_TTL (b : Ba) (k : Txt)  (hb : BaG b) (hk : k.length ≤ 40)  : pureCall (ev R) 115 [.d (baD b), .d (txts ([[84, 84, 76], k]))] = some (pairD (rTTL b k)) := pureCall_eq fun H => by
  refine ev_fn (fn := f115) rfl rfl ?_
  have p1 := p_47 b k hb.sm
  have kq := rGet_kind hb k
  have nq := hb.now
  have q := rGet_q hb (t := k) (by omega)
  unfold rTTL
  have eN := p_108 [110, 117, 109, 98, 101, 114]
  have eL := p_108 [108, 111, 110, 103]
  have eP := p_108 [112, 108, 97, 99, 101]
  have eO := p_108 [110, 111, 110, 101]
  have no := p_129
  generalize rGet b k = e at *
  obtain ⟨key, till, kind, text, list, scores, fields⟩ := e
  obtain ⟨q1, q2, q3, q4, q5, q6, q7, q8, q9, q10⟩ := q
  dsimp only [withTill, withKey, boolRe] at *
  have i1 := p_131 (-2)
  have i2 := p_131 (-1)
  have i3 := p_131 (till - b.now)
  have w : IntKind.i64.wrap (till - b.now) = till - b.now := IntWalk.i64_in _ (by omega)
  by_cases a : kind = 0
  · simp (maxSteps := 1000000) [evL, -List.getD_eq_getElem?_getD, -List.map_map, f115, p1, eN, eL, eP, eO, no, pairD, i1, eq_true a, intRe]
  · by_cases c : till = 0
    · simp (maxSteps := 1000000) [evL, -List.getD_eq_getElem?_getD, -List.map_map, f115, p1, eN, eL, eP, eO, no, pairD, i2, eq_false a, eq_true c, intRe]
    · simp (maxSteps := 1000000) [evL, -List.getD_eq_getElem?_getD, -List.map_map, f115, p1, eN, eL, eP, eO, no, pairD, i3, eq_false a, eq_false c, w, intRe]
theorem p_115_PERSIST (b : Ba) (k : Txt)  (hb : BaG b) (hk : k.length ≤ 40)  : pureCall (ev R) 115 [.d (baD b), .d (txts ([[80, 69, 82, 83, 73, 83, 84], k]))] = some (pairD (rPERSIST b k)) := pureCall_eq fun H => by
  refine ev_fn (fn := f115) rfl rfl ?_
  have p1 := p_47 b k hb.sm
  have kq := rGet_kind hb k
  have nq := hb.now
  have q := rGet_q hb (t := k) (by omega)
  unfold rPERSIST
  have eN := p_108 [110, 117, 109, 98, 101, 114]
  have eL := p_108 [108, 111, 110, 103]
  have eP := p_108 [112, 108, 97, 99, 101]
  have eO := p_108 [110, 111, 110, 101]
  have no := p_129
  generalize rGet b k = e at *
  obtain ⟨key, till, kind, text, list, scores, fields⟩ := e
  obtain ⟨q1, q2, q3, q4, q5, q6, q7, q8, q9, q10⟩ := q
  dsimp only [withTill, withKey, boolRe] at *
  have q : EnQ ⟨key, 0, kind, text, list, scores, fields⟩ := ⟨q1, q2, q3, q4, q5, q6, q7, q8, by simp, q10⟩
  have p2 := p_144 (!decide (till = 0))
  unfold boolRe at p2
  generalize hz : (!decide (till = 0)) = Z at *
  have p3 := p_132 b _ (Re.mk 2 (if Z = true then 1 else 0) [] [] []) hb.sm q.sm q.fit
  generalize rKeep b _ _ = P at *
  by_cases a : till = 0
  · subst a
    simp at hz
    subst hz
    simp only [Bool.false_eq_true, if_false] at p2 p3
    simp (maxSteps := 1000000) [evL, -List.getD_eq_getElem?_getD, -List.map_map, f115, p1, eN, eL, eP, eO, no, pairD, p2, p3]
  · simp [a] at hz
    subst hz
    simp only [if_true] at p2 p3
    simp (maxSteps := 1000000) [evL, -List.getD_eq_getElem?_getD, -List.map_map, f115, p1, eN, eL, eP, eO, no, pairD, p2, p3, eq_false a]
theorem p_115_RENAME (b : Ba) (k : Txt) (m : Txt) (hb : BaG b) (hk : k.length ≤ 40) (hm : m.length ≤ 40) : pureCall (ev R) 115 [.d (baD b), .d (txts ([[82, 69, 78, 65, 77, 69], k, m]))] = some (pairD (rRENAME b k m)) := pureCall_eq fun H => by
  have pd := p_46 b k hb.sm
  have hd := rDel_g hb k
  refine ev_fn (fn := f115) rfl rfl ?_
  have p1 := p_47 b k hb.sm
  have kq := rGet_kind hb k
  have nq := hb.now
  have q := rGet_q hb (t := k) (by omega)
  unfold rRENAME
  have eN := p_108 [110, 117, 109, 98, 101, 114]
  have eL := p_108 [108, 111, 110, 103]
  have eP := p_108 [112, 108, 97, 99, 101]
  have eO := p_108 [110, 111, 110, 101]
  have no := p_129
  generalize rGet b k = e at *
  obtain ⟨key, till, kind, text, list, scores, fields⟩ := e
  obtain ⟨q1, q2, q3, q4, q5, q6, q7, q8, q9, q10⟩ := q
  dsimp only [withTill, withKey, boolRe] at *
  generalize rDel b k = B at *
  have q : EnQ ⟨m, till, kind, text, list, scores, fields⟩ := ⟨by dsimp only; omega, q2, q3, q4, q5, q6, q7, q8, q9, q10⟩
  have p3 := p_132 B _ okRe hd.sm q.sm q.fit
  generalize rKeep B _ okRe = P at *
  unfold okRe at p3
  by_cases a : kind = 0
  · simp (maxSteps := 1000000) [evL, -List.getD_eq_getElem?_getD, -List.map_map, f115, p1, eN, eL, eP, eO, no, pairD, eq_true a, errRe]
  · simp (maxSteps := 1000000) [evL, -List.getD_eq_getElem?_getD, -List.map_map, f115, p1, eN, eL, eP, eO, no, pairD, eq_false a, pd, p3]
theorem p_115_EXPIRE (b : Ba) (k : Txt) (y : Txt) (hb : BaG b) (hk : k.length ≤ 40) (hy : y.length ≤ 40) : pureCall (ev R) 115 [.d (baD b), .d (txts ([[69, 88, 80, 73, 82, 69], k, y]))] = some (pairD (rEXPIRE b k y)) := pureCall_eq fun H => by
  have pd := p_46 b k hb.sm
  refine ev_fn (fn := f115) rfl rfl ?_
  have p1 := p_47 b k hb.sm
  have kq := rGet_kind hb k
  have nq := hb.now
  have q := rGet_q hb (t := k) (by omega)
  unfold rEXPIRE rUNTIL
  have eN := p_108 [110, 117, 109, 98, 101, 114]
  have eL := p_108 [108, 111, 110, 103]
  have eP := p_108 [112, 108, 97, 99, 101]
  have eO := p_108 [110, 111, 110, 101]
  have no := p_129
  generalize rGet b k = e at *
  obtain ⟨key, till, kind, text, list, scores, fields⟩ := e
  obtain ⟨q1, q2, q3, q4, q5, q6, q7, q8, q9, q10⟩ := q
  dsimp only [withTill, withKey, boolRe] at *
  have i0 := intV_in y
  have pi0 := p_133 y (by omega)
  generalize intV y = I0 at *
  obtain ⟨n0, o0⟩ := I0
  dsimp only at *
  generalize rDel b k = B at *
  have j0 := p_131 0
  have j1 := p_131 1
  cases o0
  · simp (maxSteps := 1000000) [evL, -List.getD_eq_getElem?_getD, -List.map_map, f115, p1, eN, eL, eP, eO, no, pairD, pi0, errRe]
  by_cases a : n0 ≤ 1000000
  rotate_left
  · have a1 : 1000000 < n0 := by omega
    have a2 : (1000000 : Int) < n0 := by omega
    simp (maxSteps := 1000000) [evL, -List.getD_eq_getElem?_getD, -List.map_map, f115, p1, eN, eL, eP, eO, no, pairD, pi0, eq_false a, a1, a2, errRe]
  have a1 : ¬ 1000000 < n0 := by omega
  have a2 : ¬ (2000000 : Int) < n0 := by omega
  have w : IntKind.i64.wrap (b.now + n0) = b.now + n0 := IntWalk.i64_in _ (by omega)
  skip
  · by_cases c : kind = 0
    · simp (maxSteps := 1000000) [evL, -List.getD_eq_getElem?_getD, -List.map_map, f115, p1, eN, eL, eP, eO, no, pairD, pi0, eq_true a, a1, a2, w, eq_true c, j0, intRe, a1]
    by_cases d : (b.now + n0) ≤ b.now
    · simp (maxSteps := 1000000) [evL, -List.getD_eq_getElem?_getD, -List.map_map, f115, p1, eN, eL, eP, eO, no, pairD, pi0, eq_true a, a1, a2, w, eq_false c, eq_true d, pd, j1, intRe, a1]
    have q : EnQ ⟨key, (b.now + n0), kind, text, list, scores, fields⟩ := ⟨q1, q2, q3, q4, q5, q6, q7, q8, by dsimp only; omega, q10⟩
    have p3 := p_132 b _ (intRe 1) hb.sm q.sm q.fit
    generalize rKeep b _ (intRe 1) = P at *
    unfold intRe at p3
    simp (maxSteps := 1000000) [evL, -List.getD_eq_getElem?_getD, -List.map_map, f115, p1, eN, eL, eP, eO, no, pairD, pi0, eq_true a, a1, a2, w, eq_false c, eq_false d, j1, p3, a1]
theorem p_115_EXPIREAT (b : Ba) (k : Txt) (y : Txt) (hb : BaG b) (hk : k.length ≤ 40) (hy : y.length ≤ 40) : pureCall (ev R) 115 [.d (baD b), .d (txts ([[69, 88, 80, 73, 82, 69, 65, 84], k, y]))] = some (pairD (rEXPIREAT b k y)) := pureCall_eq fun H => by
  have pd := p_46 b k hb.sm
  refine ev_fn (fn := f115) rfl rfl ?_
  have p1 := p_47 b k hb.sm
  have kq := rGet_kind hb k
  have nq := hb.now
  have q := rGet_q hb (t := k) (by omega)
  unfold rEXPIREAT rUNTIL
  have eN := p_108 [110, 117, 109, 98, 101, 114]
  have eL := p_108 [108, 111, 110, 103]
  have eP := p_108 [112, 108, 97, 99, 101]
  have eO := p_108 [110, 111, 110, 101]
  have no := p_129
  generalize rGet b k = e at *
  obtain ⟨key, till, kind, text, list, scores, fields⟩ := e
  obtain ⟨q1, q2, q3, q4, q5, q6, q7, q8, q9, q10⟩ := q
  dsimp only [withTill, withKey, boolRe] at *
  have i0 := intV_in y
  have pi0 := p_133 y (by omega)
  generalize intV y = I0 at *
  obtain ⟨n0, o0⟩ := I0
  dsimp only at *
  generalize rDel b k = B at *
  have j0 := p_131 0
  have j1 := p_131 1
  cases o0
  · simp (maxSteps := 1000000) [evL, -List.getD_eq_getElem?_getD, -List.map_map, f115, p1, eN, eL, eP, eO, no, pairD, pi0, errRe]
  by_cases a : n0 ≤ 2000000
  rotate_left
  · have a1 : 2000000 < n0 := by omega
    have a2 : (1000000 : Int) < n0 := by omega
    simp (maxSteps := 1000000) [evL, -List.getD_eq_getElem?_getD, -List.map_map, f115, p1, eN, eL, eP, eO, no, pairD, pi0, eq_false a, a1, a2, errRe]
  have a1 : ¬ 2000000 < n0 := by omega
  have a2 : ¬ (2000000 : Int) < n0 := by omega
  have w : IntKind.i64.wrap (b.now + n0) = b.now + n0 := IntWalk.i64_in _ (by omega)
  by_cases e1 : (1000000 : Int) < n0
  all_goals
    by_cases c : kind = 0
    · simp (maxSteps := 1000000) [evL, -List.getD_eq_getElem?_getD, -List.map_map, f115, p1, eN, eL, eP, eO, no, pairD, pi0, eq_true a, a1, a2, w, eq_true c, j0, intRe, e1]
    by_cases d : n0 ≤ b.now
    · simp (maxSteps := 1000000) [evL, -List.getD_eq_getElem?_getD, -List.map_map, f115, p1, eN, eL, eP, eO, no, pairD, pi0, eq_true a, a1, a2, w, eq_false c, eq_true d, pd, j1, intRe, e1]
    have q : EnQ ⟨key, n0, kind, text, list, scores, fields⟩ := ⟨q1, q2, q3, q4, q5, q6, q7, q8, by dsimp only; omega, q10⟩
    have p3 := p_132 b _ (intRe 1) hb.sm q.sm q.fit
    generalize rKeep b _ (intRe 1) = P at *
    unfold intRe at p3
    simp (maxSteps := 1000000) [evL, -List.getD_eq_getElem?_getD, -List.map_map, f115, p1, eN, eL, eP, eO, no, pairD, pi0, eq_true a, a1, a2, w, eq_false c, eq_false d, j1, p3, e1]
theorem delStep_g (ks : List Txt) (i : Nat) (s : Ba × Nat) (h : BaG s.1) : BaG (delStep ks i s).1 := rDel_g h _
theorem l_115_DEL (H : Hp) (A B C : Ev.Obj) (b : Ba) (ks : List Txt) (hb : BaG b) (hk : ks.length ≤ 1000) :
    Gives (fun o e X => o = .exit 1 ∧ X = ap H [A, B, C, .row 0 2 [.d (baD (rDELS b ks).1)]] ∧ e.get 4 = .ptr (hlen H + 1) 0 0 0 ∧ e.get 5 = .ptr (hlen H + 2) 0 0 0 ∧ e.get 6 = .d (.int .i64 (rDELS b ks).2) ∧ e.get 7 = .ptr (hlen H + 3) 0 0 0)
      (evLoop (evCode (ev R) R.glob (hlen H) evLoop f115l0) [1, 4, 5, 6, 7, 8] ⟨[(1, .d (txts ([68, 69, 76] :: ks))), (4, .ptr (hlen H + 1) 0 0 0), (5, .ptr (hlen H + 2) 0 0 0), (6, .d (.int .i64 0)), (7, .ptr (hlen H + 3) 0 0 0), (8, .d (.int .i64 1))], ap H [A, B, C, .row 0 2 [.d (baD b)]]⟩) := by
  refine loop_all (F := evCode (ev R) R.glob (hlen H) evLoop f115l0) (lv := [1, 4, 5, 6, 7, 8]) (delStep ks) ks.length
    (fun i s e X => BaG s.1 ∧ s.2 ≤ i ∧ X = ap H [A, B, C, .row 0 2 [.d (baD s.1)]] ∧ e.get 1 = .d (txts ([68, 69, 76] :: ks)) ∧ e.get 4 = .ptr (hlen H + 1) 0 0 0 ∧ e.get 5 = .ptr (hlen H + 2) 0 0 0 ∧ e.get 6 = .d (.int .i64 s.2) ∧ e.get 7 = .ptr (hlen H + 3) 0 0 0 ∧ e.get 8 = .d (.int .i64 ((i : Int) + 1)))
    (fun s o e X => o = .exit 1 ∧ X = ap H [A, B, C, .row 0 2 [.d (baD s.1)]] ∧ e.get 4 = .ptr (hlen H + 1) 0 0 0 ∧ e.get 5 = .ptr (hlen H + 2) 0 0 0 ∧ e.get 6 = .d (.int .i64 s.2) ∧ e.get 7 = .ptr (hlen H + 3) 0 0 0)
    ?_ ?_ ks.length 0 (b, 0) _ _ (by omega) ⟨hb, by simp, rfl, rfl, rfl, rfl, rfl, rfl, rfl⟩
  · rintro ⟨B1, n⟩ e X ⟨hg, hn, rfl, g1, g4, g5, g6, g7, g8⟩
    dsimp only at *
    simp (maxSteps := 1000000) [evL, -List.getD_eq_getElem?_getD, -List.map_map, f115l0, g1, g4, g5, g6, g7, g8]
  · rintro i ⟨B1, n⟩ e X hi ⟨hg, hn, rfl, g1, g4, g5, g6, g7, g8⟩
    dsimp only at *
    have c : (i : Int) < (ks.length : Int) := by omega
    have c0 : (0 : Int) ≤ (i : Int) + 1 := by omega
    have c1 : (i : Int) + 1 < (ks.length : Int) + 1 := by omega
    have c2 : ((i : Int) + 1).toNat = i + 1 := by omega
    have c3 : (0 : Int) < (ks.length : Int) + 1 := by omega
    have g := txts_get ks i hi
    have gg : ∀ x : D, (x :: ks.map D.str).getD (i + 1) .nilp = .str (ks.getD i []) := fun x => by rw [← g]; rfl
    have w1 : IntKind.i64.wrap ((i : Int) + 1 + 1) = (i : Int) + 1 + 1 := IntWalk.i64_in _ (by omega)
    have w2 : IntKind.i64.wrap ((n : Int) + 1) = (n : Int) + 1 := IntWalk.i64_in _ (by omega)
    have p1 := p_45 B1 (ks.getD i []) hg.sm.len
    have p2 := p_46 B1 (ks.getD i []) hg.sm
    have hs := rDel_g hg (ks.getD i [])
    unfold delStep
    generalize ks.getD i [] = k at *
    generalize rDel B1 k = B2 at *
    have n1 : n + 1 ≤ i + 1 := by omega
    have n2 : n ≤ i + 1 := by omega
    cases hh : kHas B1.ents k with
    | false =>
      rw [hh] at p1
      simp (maxSteps := 1000000) [evL, -List.getD_eq_getElem?_getD, -List.map_map, f115l0, g1, g4, g5, g6, g7, g8, c, c0, c1, c2, c3, hi, g, gg, w1, w2, p1, p2, hs, hg, n2, hh]
    | true =>
      rw [hh] at p1
      simp (maxSteps := 1000000) [evL, -List.getD_eq_getElem?_getD, -List.map_map, f115l0, g1, g4, g5, g6, g7, g8, c, c0, c1, c2, c3, hi, g, gg, w1, w2, p1, p2, hs, hg, n1, hh]
theorem p_115_DEL (b : Ba) (ks : List Txt) (hb : BaG b) (hk : ks.length ≤ 1000) : pureCall (ev R) 115 [.d (baD b), .d (txts ([68, 69, 76] :: ks))] = some (pairD (rDEL b ks)) := pureCall_eq fun H => by
  refine ev_fn (fn := f115) rfl rfl ?_
  have lp := fun A B C => (l_115_DEL H A B C b ks hb hk).out
  unfold rDEL
  generalize rDELS b ks = S at *
  obtain ⟨B1, n⟩ := S
  dsimp only at *
  have p2 := p_131 n
  have c3 : (0 : Int) < (ks.length : Int) + 1 := by omega
  obtain ⟨o, e', X', he, rfl, rfl, g4, g5, g6, g7⟩ := lp (.row 0 2 [.d (baD b)]) (.row 0 2 [.agg [.d (.int .i64 0), .nils 7]]) (.row 0 5 [.agg [.d (.int .i64 0), .d (.int .i64 0), .d (.str []), .nils 1, .nils 5]])
  simp only [txts, List.map_cons] at he
  simp (maxSteps := 1000000) [evL, -List.getD_eq_getElem?_getD, -List.map_map, f115, p2, he, c3, g4, g5, g6, g7, pairD, intRe]
theorem l_115_EXISTS (H : Hp) (A B C : Ev.Obj) (b : Ba) (ks : List Txt) (hb : BaG b) (hk : ks.length ≤ 1000) :
    Gives (fun o e X => o = .exit 1 ∧ X = ap H [A, B, C, .row 0 2 [.d (baD (rEXS b ks).1)]] ∧ e.get 4 = .ptr (hlen H + 1) 0 0 0 ∧ e.get 5 = .ptr (hlen H + 2) 0 0 0 ∧ e.get 6 = .d (.int .i64 (rEXS b ks).2) ∧ e.get 7 = .ptr (hlen H + 3) 0 0 0)
      (evLoop (evCode (ev R) R.glob (hlen H) evLoop f115l0) [1, 4, 5, 6, 7, 8] ⟨[(1, .d (txts ([69, 88, 73, 83, 84, 83] :: ks))), (4, .ptr (hlen H + 1) 0 0 0), (5, .ptr (hlen H + 2) 0 0 0), (6, .d (.int .i64 0)), (7, .ptr (hlen H + 3) 0 0 0), (8, .d (.int .i64 1))], ap H [A, B, C, .row 0 2 [.d (baD b)]]⟩) := by
  refine loop_all (F := evCode (ev R) R.glob (hlen H) evLoop f115l0) (lv := [1, 4, 5, 6, 7, 8]) (exStep ks) ks.length
    (fun i s e X => BaG s.1 ∧ s.2 ≤ i ∧ X = ap H [A, B, C, .row 0 2 [.d (baD s.1)]] ∧ e.get 1 = .d (txts ([69, 88, 73, 83, 84, 83] :: ks)) ∧ e.get 4 = .ptr (hlen H + 1) 0 0 0 ∧ e.get 5 = .ptr (hlen H + 2) 0 0 0 ∧ e.get 6 = .d (.int .i64 s.2) ∧ e.get 7 = .ptr (hlen H + 3) 0 0 0 ∧ e.get 8 = .d (.int .i64 ((i : Int) + 1)))
    (fun s o e X => o = .exit 1 ∧ X = ap H [A, B, C, .row 0 2 [.d (baD s.1)]] ∧ e.get 4 = .ptr (hlen H + 1) 0 0 0 ∧ e.get 5 = .ptr (hlen H + 2) 0 0 0 ∧ e.get 6 = .d (.int .i64 s.2) ∧ e.get 7 = .ptr (hlen H + 3) 0 0 0)
    ?_ ?_ ks.length 0 (b, 0) _ _ (by omega) ⟨hb, by simp, rfl, rfl, rfl, rfl, rfl, rfl, rfl⟩
  · rintro ⟨B1, n⟩ e X ⟨hg, hn, rfl, g1, g4, g5, g6, g7, g8⟩
    dsimp only at *
    simp (maxSteps := 1000000) [evL, -List.getD_eq_getElem?_getD, -List.map_map, f115l0, g1, g4, g5, g6, g7, g8]
  · rintro i ⟨B1, n⟩ e X hi ⟨hg, hn, rfl, g1, g4, g5, g6, g7, g8⟩
    dsimp only at *
    have c : (i : Int) < (ks.length : Int) := by omega
    have c0 : (0 : Int) ≤ (i : Int) + 1 := by omega
    have c1 : (i : Int) + 1 < (ks.length : Int) + 1 := by omega
    have c2 : ((i : Int) + 1).toNat = i + 1 := by omega
    have c3 : (0 : Int) < (ks.length : Int) + 1 := by omega
    have g := txts_get ks i hi
    have gg : ∀ x : D, (x :: ks.map D.str).getD (i + 1) .nilp = .str (ks.getD i []) := fun x => by rw [← g]; rfl
    have w1 : IntKind.i64.wrap ((i : Int) + 1 + 1) = (i : Int) + 1 + 1 := IntWalk.i64_in _ (by omega)
    have w2 : IntKind.i64.wrap ((n : Int) + 1) = (n : Int) + 1 := IntWalk.i64_in _ (by omega)
    have p1 := p_45 B1 (ks.getD i []) hg.sm.len
    have p2 := p_46 B1 (ks.getD i []) hg.sm
    have hs := rDel_g hg (ks.getD i [])
    unfold exStep
    generalize ks.getD i [] = k at *
    generalize rDel B1 k = B2 at *
    have n1 : n + 1 ≤ i + 1 := by omega
    have n2 : n ≤ i + 1 := by omega
    cases hh : kHas B1.ents k with
    | false =>
      rw [hh] at p1
      simp (maxSteps := 1000000) [evL, -List.getD_eq_getElem?_getD, -List.map_map, f115l0, g1, g4, g5, g6, g7, g8, c, c0, c1, c2, c3, hi, g, gg, w1, w2, p1, p2, hs, hg, n2, hh]
    | true =>
      rw [hh] at p1
      simp (maxSteps := 1000000) [evL, -List.getD_eq_getElem?_getD, -List.map_map, f115l0, g1, g4, g5, g6, g7, g8, c, c0, c1, c2, c3, hi, g, gg, w1, w2, p1, p2, hs, hg, n1, hh]
theorem p_115_EXISTS (b : Ba) (ks : List Txt) (hb : BaG b) (hk : ks.length ≤ 1000) : pureCall (ev R) 115 [.d (baD b), .d (txts ([69, 88, 73, 83, 84, 83] :: ks))] = some (pairD (rEXISTS b ks)) := pureCall_eq fun H => by
  refine ev_fn (fn := f115) rfl rfl ?_
  have lp := fun A B C => (l_115_EXISTS H A B C b ks hb hk).out
  unfold rEXISTS
  generalize rEXS b ks = S at *
  obtain ⟨B1, n⟩ := S
  dsimp only at *
  have p2 := p_131 n
  have c3 : (0 : Int) < (ks.length : Int) + 1 := by omega
  obtain ⟨o, e', X', he, rfl, rfl, g4, g5, g6, g7⟩ := lp (.row 0 2 [.d (baD b)]) (.row 0 2 [.agg [.d (.int .i64 0), .nils 7]]) (.row 0 5 [.agg [.d (.int .i64 0), .d (.int .i64 0), .d (.str []), .nils 1, .nils 5]])
  simp only [txts, List.map_cons] at he
  simp (maxSteps := 1000000) [evL, -List.getD_eq_getElem?_getD, -List.map_map, f115, p2, he, c3, g4, g5, g6, g7, pairD, intRe]
end Go.Proofs.YtjdmiodinhlchaaGreat.Code

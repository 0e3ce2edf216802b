/- Lemmas (several texts in one). -/
import Derived.Test.YtjdmiodinhlchaaGreatMBaseTick6
/- The reference: orders to texts. -/
namespace Go.Proofs.YtjdmiodinhlchaaGreat.Code
open Go Go.Ev Go.Proofs
set_option maxRecDepth 100000
set_option maxHeartbeats 2000000
set_option linter.unusedSimpArgs false
set_option linter.unusedVariables false
def intRe (n : Int) : Re := .mk 2 n [] [] []
def textRe (s : Txt) : Re := .mk 3 0 s [] []
def noneRe : Re := .mk 4 0 [] [] []
def textsRe (xs : List Txt) : Re := .mk 5 0 [] xs []
def okRe : Re := .mk 0 0 [] [] []
def pairD (p : Ba × Re) : V := .tup [.d (baD p.1), .d (reD p.2)]
def withText (e : En) (s : Txt) : En := ⟨e.key, e.till, 1, s, e.list, e.scores, e.fields⟩
def rGET (b : Ba) (k : Txt) : Ba × Re := (b, if (rGet b k).kind = 1 then textRe (rGet b k).text else noneRe)
def rSTRLEN (b : Ba) (k : Txt) : Ba × Re := (b, intRe (rGet b k).text.length)
def rSET (b : Ba) (k t : Txt) : Ba × Re := rKeep b ⟨k, 0, 1, t, [], [], []⟩ okRe
def rAPPEND (b : Ba) (k t : Txt) : Ba × Re := if 40 < ((rGet b k).text ++ t).length then (b, errRe [108, 111, 110, 103]) else rKeep b (withText (rGet b k) ((rGet b k).text ++ t)) (intRe ((rGet b k).text ++ t).length)
def subT (s : Txt) (f t : Int) : Txt := (s.take (endsV s.length f t).2.toNat).drop (endsV s.length f t).1.toNat
def rGETRANGE (b : Ba) (k f t : Txt) : Ba × Re := if (intV f).2 = true ∧ (intV t).2 = true then (b, textRe (subT (rGet b k).text (intV f).1 (intV t).1)) else (b, errRe [110, 117, 109, 98, 101, 114])
def rADD (b : Ba) (k y : Txt) : Ba × Re := if (addV (rGet b k).text (decide ((rGet b k).kind = 1)) y).2 = true then rKeep b (withText (rGet b k) (decZ (addV (rGet b k).text (decide ((rGet b k).kind = 1)) y).1)) (intRe (addV (rGet b k).text (decide ((rGet b k).kind = 1)) y).1) else (b, errRe [110, 117, 109, 98, 101, 114])
theorem p_110_GET (b : Ba) (k : Txt) (hb : BaG b) (hk : k.length ≤ 40) : pureCall (ev R) 110 [.d (baD b), .d (txts [[71, 69, 84], k])] = some (pairD (rGET b k)) := pureCall_eq fun H => by
  refine ev_fn (fn := f110) rfl rfl ?_
  have p1 := p_47 b k hb.sm
  unfold rGET
  generalize rGet b k = e at *
  have p2 := p_129
  have p3 := p_130 e.text
  by_cases a : e.kind = 1
  · simp (maxSteps := 1000000) [evL, -List.getD_eq_getElem?_getD, -List.map_map, f110, p1, p2, p3, eq_true a, pairD, textRe, noneRe]
  · simp (maxSteps := 1000000) [evL, -List.getD_eq_getElem?_getD, -List.map_map, f110, p1, p2, p3, eq_false a, pairD, textRe, noneRe]
theorem p_110_STRLEN (b : Ba) (k : Txt) (hb : BaG b) (hk : k.length ≤ 40) : pureCall (ev R) 110 [.d (baD b), .d (txts [[83, 84, 82, 76, 69, 78], k])] = some (pairD (rSTRLEN b k)) := pureCall_eq fun H => by
  refine ev_fn (fn := f110) rfl rfl ?_
  have p1 := p_47 b k hb.sm
  unfold rSTRLEN
  generalize rGet b k = e at *
  have p2 := p_131 e.text.length
  simp (maxSteps := 1000000) [evL, -List.getD_eq_getElem?_getD, -List.map_map, f110, p1, p2, pairD, intRe]
theorem p_110_SET (b : Ba) (k t : Txt) (hb : BaG b) (hk : k.length ≤ 40) (ht : t.length ≤ 40) : pureCall (ev R) 110 [.d (baD b), .d (txts [[83, 69, 84], k, t])] = some (pairD (rSET b k t)) := pureCall_eq fun H => by
  refine ev_fn (fn := f110) rfl rfl ?_
  have p1 := p_47 b k hb.sm
  unfold rSET
  have q : EnQ ⟨k, 0, 1, t, [], [], []⟩ := ⟨by simp; omega, by simp; omega, by simp, by simp, by simp, by simp, by simp, by simp, by simp, by simp⟩
  have p2 := p_132 b ⟨k, 0, 1, t, [], [], []⟩ okRe hb.sm q.sm q.fit
  generalize rKeep b ⟨k, 0, 1, t, [], [], []⟩ okRe = P at *
  unfold okRe at p2
  simp (maxSteps := 1000000) [evL, -List.getD_eq_getElem?_getD, -List.map_map, f110, p1, p2, pairD]
theorem p_110_APPEND (b : Ba) (k t : Txt) (hb : BaG b) (hk : k.length ≤ 40) (ht : t.length ≤ 40) : pureCall (ev R) 110 [.d (baD b), .d (txts [[65, 80, 80, 69, 78, 68], k, t])] = some (pairD (rAPPEND b k t)) := pureCall_eq fun H => by
  refine ev_fn (fn := f110) rfl rfl ?_
  have p1 := p_47 b k hb.sm
  have q := rGet_q hb (t := k) (by omega)
  unfold rAPPEND
  have p4 := p_108 [108, 111, 110, 103]
  generalize rGet b k = e at *
  obtain ⟨key, till, kind, text, list, scores, fields⟩ := e
  obtain ⟨q1, q2, q3, q4, q5, q6, q7, q8, q9, q10⟩ := q
  dsimp only [withText] at *
  have r : text.length + t.length ≤ strRoom := by unfold strRoom; omega
  by_cases a : 40 < (text ++ t).length
  · have a' : (40 : Int) < (text.length : Int) + (t.length : Int) := by rw [List.length_append] at a; omega
    rw [if_pos a]
    simp (maxSteps := 1000000) [evL, -List.getD_eq_getElem?_getD, -List.map_map, f110, p1, p4, a', r, pairD, errRe]
  · have a' : ¬ (40 : Int) < (text.length : Int) + (t.length : Int) := by rw [List.length_append] at a; omega
    rw [if_neg a]
    have q : EnQ ⟨key, till, 1, text ++ t, list, scores, fields⟩ := ⟨q1, by dsimp only; omega, q3, q4, q5, q6, q7, q8, q9, by dsimp only; omega⟩
    have p2 := p_131 ((text.length : Int) + (t.length : Int))
    have p3 := p_132 b _ (intRe (text ++ t).length) hb.sm q.sm q.fit
    generalize rKeep b ⟨key, till, 1, text ++ t, list, scores, fields⟩ (intRe (text ++ t).length) = P at *
    have hc : (((text ++ t).length : Nat) : Int) = (text.length : Int) + (t.length : Int) := by rw [List.length_append]; omega
    rw [hc] at p3
    unfold intRe at p3
    simp (maxSteps := 1000000) [evL, -List.getD_eq_getElem?_getD, -List.map_map, f110, p1, p2, p3, a', r, pairD]
theorem p_110_GETRANGE (b : Ba) (k f t : Txt) (hb : BaG b) (hk : k.length ≤ 40) (hf : f.length ≤ 40) (ht : t.length ≤ 40) : pureCall (ev R) 110 [.d (baD b), .d (txts [[71, 69, 84, 82, 65, 78, 71, 69], k, f, t])] = some (pairD (rGETRANGE b k f t)) := pureCall_eq fun H => by
  refine ev_fn (fn := f110) rfl rfl ?_
  have p1 := p_47 b k hb.sm
  have q := rGet_q hb (t := k) (by omega)
  unfold rGETRANGE
  have p2 := p_133 f (by omega)
  have p3 := p_133 t (by omega)
  have i2 := intV_in f
  have i3 := intV_in t
  have p4 := p_108 [110, 117, 109, 98, 101, 114]
  generalize rGet b k = e at *
  generalize intV f = F at *
  generalize intV t = T at *
  obtain ⟨m, mo⟩ := F
  obtain ⟨n, no⟩ := T
  dsimp only at *
  have p5 := p_134 e.text.length m n (by have := q.text; omega) i2 i3
  obtain ⟨b1, b2, b3⟩ := endsV_in e.text.length m n
  have hr : subT e.text m n = ((e.text.take (endsV e.text.length m n).2.toNat).drop (endsV e.text.length m n).1.toNat) := rfl
  have p6 := p_130 (subT e.text m n)
  generalize (endsV e.text.length m n).1 = x at *
  generalize (endsV e.text.length m n).2 = y at *
  obtain ⟨A, rfl⟩ : ∃ A : Nat, x = (A : Int) := ⟨x.toNat, by omega⟩
  obtain ⟨B, rfl⟩ : ∃ B : Nat, y = (B : Int) := ⟨y.toNat, by omega⟩
  simp only [Int.toNat_natCast] at hr
  have hr := hr.symm
  generalize subT e.text m n = S at *
  have b4 : (0 : Int) ≤ (B : Int) := by omega
  have b5 : A ≤ B := by omega
  have b6 : B ≤ e.text.length := by omega
  cases mo <;> cases no
  · simp (maxSteps := 1000000) [evL, -List.getD_eq_getElem?_getD, -List.map_map, f110, p1, p2, p3, p4, pairD, errRe]
  · simp (maxSteps := 1000000) [evL, -List.getD_eq_getElem?_getD, -List.map_map, f110, p1, p2, p3, p4, pairD, errRe]
  · simp (maxSteps := 1000000) [evL, -List.getD_eq_getElem?_getD, -List.map_map, f110, p1, p2, p3, p4, pairD, errRe]
  · simp (maxSteps := 1000000) [evL, -List.getD_eq_getElem?_getD, -List.map_map, f110, p1, p2, p3, p5, p6, b1, b2, b3, b4, b5, b6, hr, pairD, textRe]
theorem decV_len10p : ∀ (k n : Nat), n < 10 ^ (k + 1) → (decV n).length ≤ k + 1
  | 0, n, h => by
    rw [decV]; split
    · simp
    · omega
  | k + 1, n, h => by
    rw [decV]; split
    · simp
    · have := decV_len10p k (n / 10) (by rw [Nat.pow_succ] at h; omega)
      rw [List.length_append]; simp; omega
theorem decZ_short (z : Int) (h : -1000000000 ≤ z ∧ z ≤ 1000000000) : (decZ z).length ≤ 1000000 := by
  unfold decZ
  split
  · have := decV_len10p 9 z.natAbs (by omega)
    rw [List.length_cons]; omega
  · have := decV_len10p 9 z.toNat (by omega)
    omega
theorem p_83 (z : Int) (h : -1000000000 ≤ z ∧ z ≤ 1000000000) : pureCall (ev R) 83 [.d (.int .i64 z)] = some (.d (.str (decZ z))) := pureCall_eq fun H => e_83z H z h
theorem addV_in (t : Txt) (th : Bool) (y : Txt) : -1000000000 ≤ (addV t th y).1 ∧ (addV t th y).1 ≤ 1000000000 := by
  unfold addV
  split
  · dsimp only; omega
  · by_cases h : (intV y).2 = true ∧ -1000000000 ≤ (if th = true then (intV t).1 else 0) + (intV y).1 ∧ (if th = true then (intV t).1 else 0) + (intV y).1 ≤ 1000000000
    · rw [if_pos h]; exact ⟨h.2.1, h.2.2⟩
    · rw [if_neg h]; dsimp only; omega
theorem p_110_INCR (b : Ba) (k : Txt) (hb : BaG b) (hk : k.length ≤ 40) : pureCall (ev R) 110 [.d (baD b), .d (txts [[73, 78, 67, 82], k])] = some (pairD (rADD b k [49])) := pureCall_eq fun H => by
  refine ev_fn (fn := f110) rfl rfl ?_
  have p1 := p_47 b k hb.sm
  have q := rGet_q hb (t := k) (by omega)
  unfold rADD
  have p4 := p_108 [110, 117, 109, 98, 101, 114]
  generalize rGet b k = e at *
  obtain ⟨key, till, kind, text, list, scores, fields⟩ := e
  obtain ⟨q1, q2, q3, q4, q5, q6, q7, q8, q9, q10⟩ := q
  dsimp only [withText] at *
  have p5 := p_135 text (decide (kind = 1)) [49] q2 (by decide)
  have ai := addV_in text (decide (kind = 1)) [49]
  generalize addV text (decide (kind = 1)) [49] = A at *
  obtain ⟨a, ao⟩ := A
  dsimp only at *
  have p6 := p_83 a ai
  have dl := decZ_short a ai
  have q : EnQ ⟨key, till, 1, decZ a, list, scores, fields⟩ := ⟨q1, dl, q3, q4, q5, q6, q7, q8, q9, by dsimp only; omega⟩
  have p2 := p_131 a
  have p3 := p_132 b _ (intRe a) hb.sm q.sm q.fit
  generalize rKeep b ⟨key, till, 1, decZ a, list, scores, fields⟩ (intRe a) = P at *
  unfold intRe at p3
  cases ao
  · simp (maxSteps := 1000000) [evL, -List.getD_eq_getElem?_getD, -List.map_map, f110, p1, p5, p4, pairD, errRe]
  · simp (maxSteps := 1000000) [evL, -List.getD_eq_getElem?_getD, -List.map_map, f110, p1, p5, p6, p2, p3, pairD]
theorem p_110_INCRBY (b : Ba) (k y : Txt) (hb : BaG b) (hk : k.length ≤ 40) (hy : y.length ≤ 40) : pureCall (ev R) 110 [.d (baD b), .d (txts [[73, 78, 67, 82, 66, 89], k, y])] = some (pairD (rADD b k y)) := pureCall_eq fun H => by
  refine ev_fn (fn := f110) rfl rfl ?_
  have p1 := p_47 b k hb.sm
  have q := rGet_q hb (t := k) (by omega)
  unfold rADD
  have p4 := p_108 [110, 117, 109, 98, 101, 114]
  generalize rGet b k = e at *
  obtain ⟨key, till, kind, text, list, scores, fields⟩ := e
  obtain ⟨q1, q2, q3, q4, q5, q6, q7, q8, q9, q10⟩ := q
  dsimp only [withText] at *
  have p5 := p_135 text (decide (kind = 1)) y q2 (by omega)
  have ai := addV_in text (decide (kind = 1)) y
  generalize addV text (decide (kind = 1)) y = A at *
  obtain ⟨a, ao⟩ := A
  dsimp only at *
  have p6 := p_83 a ai
  have dl := decZ_short a ai
  have q : EnQ ⟨key, till, 1, decZ a, list, scores, fields⟩ := ⟨q1, dl, q3, q4, q5, q6, q7, q8, q9, by dsimp only; omega⟩
  have p2 := p_131 a
  have p3 := p_132 b _ (intRe a) hb.sm q.sm q.fit
  generalize rKeep b ⟨key, till, 1, decZ a, list, scores, fields⟩ (intRe a) = P at *
  unfold intRe at p3
  cases ao
  · simp (maxSteps := 1000000) [evL, -List.getD_eq_getElem?_getD, -List.map_map, f110, p1, p5, p4, pairD, errRe]
  · simp (maxSteps := 1000000) [evL, -List.getD_eq_getElem?_getD, -List.map_map, f110, p1, p5, p6, p2, p3, pairD]
end Go.Proofs.YtjdmiodinhlchaaGreat.Code
/- What lists, sets, scores and fields become: as pairs, and how long they are. -/
namespace Go.Proofs.YtjdmiodinhlchaaGreat.Code
open Go Go.Ev Go.Proofs
set_option maxRecDepth 100000
set_option maxHeartbeats 2000000
set_option linter.unusedSimpArgs false
set_option linter.unusedVariables false
def vPush (xs : List Txt) (f : Bool) (ts : List Txt) : List Txt × Bool := if okTexts xs = true then (if okTexts ts = true ∧ xs.length + ts.length ≤ 16 then (rPush xs f ts, true) else (xs, false)) else ([], false)
def vPop (xs : List Txt) (f : Bool) : List Txt × Txt × Bool := if okTexts xs = true ∧ 0 < xs.length then (if f = true then (xs.tail, xs.getD 0 [], true) else (xs.take (xs.length - 1), xs.getD (xs.length - 1) [], true)) else ([], [], false)
def vSet (xs : List Txt) (k : Int) (t : Txt) : List Txt × Bool := if okTexts xs = true then (match rSet xs k t with | some ys => (ys, true) | none => (xs, false)) else ([], false)
def vDrop (xs : List Txt) (c : Int) (t : Txt) : List Txt × Int := if okTexts xs = true ∧ place c = true then ((rLDrop xs c t).1, (rLDrop xs c t).2) else ([], 0)
def vRange (xs : List Txt) (f t : Int) : List Txt := if okTexts xs = true ∧ place f = true ∧ place t = true then rRange xs f t else []
def vSAdd (xs ts : List Txt) : List Txt × Int × Bool := if setV xs = true then (if okTexts ts = true ∧ (rAll xs ts).length ≤ 16 then (rAll xs ts, (rAll xs ts).length - xs.length, true) else (xs, 0, false)) else ([], 0, false)
def vSDrop (xs ys : List Txt) : List Txt × Int := if setV xs = true then (rLess xs ys, xs.length - (rLess xs ys).length) else ([], 0)
def vBoth (xs ys : List Txt) : List Txt := if setV xs = true ∧ setV ys = true then rBoth xs ys else []
def vAny (xs ys : List Txt) : List Txt := if setV xs = true ∧ setV ys = true then rAll xs ys else []
def vLess (xs ys : List Txt) : List Txt := if setV xs = true ∧ setV ys = true then rLess xs ys else []
def vZPut (xs : List Sc) (x : Sc) : List Sc × Bool × Bool := if scoresV xs = true then (if scoresV (rSPut xs x) = true then (rSPut xs x, decide ((rWithout xs x.1).length = xs.length), true) else (xs, false, false)) else ([], false, false)
def vZDrop (xs : List Sc) (t : Txt) : List Sc × Bool := if scoresV xs = true then (rWithout xs t, decide ((rWithout xs t).length < xs.length)) else ([], false)
def vZAt (xs : List Sc) (f t : Int) : List Sc := if scoresV xs = true ∧ place f = true ∧ place t = true then rScAt xs f t else []
def vFPut (xs : List Pr) (x : Pr) : List Pr × Bool × Bool := if fieldsV xs = true then (if fieldsV (rFPut xs x) = true then (rFPut xs x, !fHas xs x.1, true) else (xs, false, false)) else ([], false, false)
def vFDrop (xs : List Pr) (t : Txt) : List Pr × Bool := if fieldsV xs = true then (if fHas xs t = true then delAt xs (fAt xs t) else xs, fHas xs t) else ([], false)
def vFGet (xs : List Pr) (t : Txt) : Txt × Bool := if fieldsV xs = true ∧ fHas xs t = true then ((xs.getD (fAt xs t) ([], [])).2, true) else ([], false)
theorem v_136 (xs : List Txt) (f : Bool) (ts : List Txt) (hx : xs.length ≤ 1000000) (ht : ts.length ≤ 1000000) : pureCall (ev R) 136 [.d (txts xs), .d (.bool f), .d (txts ts)] = some (.tup [.d (txts (vPush xs f ts).1), .d (.bool (vPush xs f ts).2)]) := by
  rw [p_136 xs f ts hx ht]; unfold vPush; split <;> (try split) <;> rfl
theorem v_137 (xs : List Txt) (f : Bool) (hx : xs.length ≤ 1000000) : pureCall (ev R) 137 [.d (txts xs), .d (.bool f)] = some (.tup [.d (txts (vPop xs f).1), .d (.str (vPop xs f).2.1), .d (.bool (vPop xs f).2.2)]) := by
  rw [p_137 xs f hx]; unfold vPop; split <;> (try split) <;> rfl
theorem v_138 (xs : List Txt) (k : Int) (t : Txt) (hx : xs.length ≤ 1000000) (hk : In64 k) : pureCall (ev R) 138 [.d (txts xs), .d (.int .i64 k), .d (.str t)] = some (.tup [.d (txts (vSet xs k t).1), .d (.bool (vSet xs k t).2)]) := by
  rw [p_138 xs k t hx hk]; unfold vSet; cases okTexts xs <;> cases rSet xs k t <;> rfl
theorem v_139 (xs : List Txt) (c : Int) (t : Txt) (hx : xs.length ≤ 1000000) : pureCall (ev R) 139 [.d (txts xs), .d (.int .i64 c), .d (.str t)] = some (.tup [.d (txts (vDrop xs c t).1), .d (.int .i64 (vDrop xs c t).2)]) := by
  rw [p_139 xs c t hx]; unfold vDrop; split <;> (try split) <;> rfl
theorem v_140 (xs : List Txt) (f t : Int) (hx : xs.length ≤ 1000000) : pureCall (ev R) 140 [.d (txts xs), .d (.int .i64 f), .d (.int .i64 t)] = some (.d (txts (vRange xs f t))) := p_140 xs f t hx
theorem v_142 (xs ts : List Txt) (hx : xs.length ≤ 500000) (ht : ts.length ≤ 500000) : pureCall (ev R) 142 [.d (txts xs), .d (txts ts)] = some (.tup [.d (txts (vSAdd xs ts).1), .d (.int .i64 (vSAdd xs ts).2.1), .d (.bool (vSAdd xs ts).2.2)]) := by
  rw [p_142 xs ts hx ht]; unfold vSAdd; split <;> (try split) <;> rfl
theorem v_143 (xs ys : List Txt) (hx : xs.length ≤ 1000000) (hy : ys.length ≤ 1000000) : pureCall (ev R) 143 [.d (txts xs), .d (txts ys)] = some (.tup [.d (txts (vSDrop xs ys).1), .d (.int .i64 (vSDrop xs ys).2)]) := by
  rw [p_143 xs ys hx hy]; unfold vSDrop; split <;> (try split) <;> rfl
theorem v_146 (xs ys : List Txt) (hx : xs.length ≤ 1000000) (hy : ys.length ≤ 1000000) : pureCall (ev R) 146 [.d (txts xs), .d (txts ys)] = some (.d (txts (vBoth xs ys))) := p_146 xs ys hx hy
theorem v_147 (xs ys : List Txt) (hx : xs.length ≤ 500000) (hy : ys.length ≤ 500000) : pureCall (ev R) 147 [.d (txts xs), .d (txts ys)] = some (.d (txts (vAny xs ys))) := p_147 xs ys hx hy
theorem v_148 (xs ys : List Txt) (hx : xs.length ≤ 1000000) (hy : ys.length ≤ 1000000) : pureCall (ev R) 148 [.d (txts xs), .d (txts ys)] = some (.d (txts (vLess xs ys))) := p_148 xs ys hx hy
theorem v_126 (xs : List Sc) (x : Sc) (hx : xs.length ≤ 1000000) : pureCall (ev R) 126 [.d (scs xs), .d (scD x)] = some (.tup [.d (scs (vZPut xs x).1), .d (.bool (vZPut xs x).2.1), .d (.bool (vZPut xs x).2.2)]) := by
  rw [p_126 xs x hx]; unfold vZPut; split <;> (try split) <;> rfl
theorem v_149 (xs : List Sc) (t : Txt) (hx : xs.length ≤ 1000000) : pureCall (ev R) 149 [.d (scs xs), .d (.str t)] = some (.tup [.d (scs (vZDrop xs t).1), .d (.bool (vZDrop xs t).2)]) := by
  rw [p_149 xs t hx]; unfold vZDrop; split <;> (try split) <;> rfl
theorem v_152 (xs : List Sc) (f t : Int) (hx : xs.length ≤ 1000000) : pureCall (ev R) 152 [.d (scs xs), .d (.int .i64 f), .d (.int .i64 t)] = some (.d (scs (vZAt xs f t))) := p_152 xs f t hx
theorem v_105 (xs : List Pr) (x : Pr) (hx : xs.length ≤ 1000000) : pureCall (ev R) 105 [.d (prs xs), .d (prD x)] = some (.tup [.d (prs (vFPut xs x).1), .d (.bool (vFPut xs x).2.1), .d (.bool (vFPut xs x).2.2)]) := by
  rw [p_105 xs x hx]; unfold vFPut; split <;> (try split) <;> rfl
theorem v_155 (xs : List Pr) (t : Txt) (hx : xs.length ≤ 1000000) : pureCall (ev R) 155 [.d (prs xs), .d (.str t)] = some (.tup [.d (prs (vFDrop xs t).1), .d (.bool (vFDrop xs t).2)]) := by
  rw [p_155 xs t hx]; unfold vFDrop; split <;> (try split) <;> rfl
theorem v_154 (xs : List Pr) (t : Txt) (hx : xs.length ≤ 1000000) : pureCall (ev R) 154 [.d (prs xs), .d (.str t)] = some (.tup [.d (.str (vFGet xs t).1), .d (.bool (vFGet xs t).2)]) := by
  rw [p_154 xs t hx]; unfold vFGet; split <;> (try split) <;> rfl
/-! ### How long they are -/
def TxQ (xs : List Txt) : Prop := xs.length ≤ 1000 ∧ ∀ x ∈ xs, x.length ≤ 1000000
theorem TxQ.nil : TxQ [] := ⟨by simp, by simp⟩
theorem TxQ.of {xs ys : List Txt} (h : TxQ xs) (hl : ys.length ≤ xs.length) (hm : ∀ y ∈ ys, y ∈ xs) : TxQ ys := ⟨Nat.le_trans hl h.1, fun y hy => h.2 y (hm y hy)⟩
theorem vPush_q (xs : List Txt) (f : Bool) (ts : List Txt) (hx : TxQ xs) : TxQ (vPush xs f ts).1 := by
  unfold vPush
  split
  · split
    · rename_i h1 h2
      refine ⟨?_, fun x hm => ?_⟩
      · cases f <;> simp [rPush] <;> omega
      · have : x ∈ xs ∨ x ∈ ts := by
          cases f <;> simp [rPush] at hm
          · exact hm
          · exact hm.symm
        rcases this with h | h
        · have := okTexts_each h1 x h; omega
        · have := okTexts_each h2.1 x h; omega
    · exact hx
  · exact TxQ.nil
theorem vPop_q (xs : List Txt) (f : Bool) (hx : TxQ xs) : TxQ (vPop xs f).1 := by
  unfold vPop
  split
  · split
    · exact hx.of (by simp) fun y hy => List.mem_of_mem_tail hy
    · exact hx.of (by simp) fun y hy => List.mem_of_mem_take hy
  · exact TxQ.nil
theorem vSet_q (xs : List Txt) (k : Int) (t : Txt) (hx : TxQ xs) : TxQ (vSet xs k t).1 := by
  unfold vSet
  split
  · split
    · rename_i ys hy
      unfold rSet at hy
      split at hy
      · rename_i h
        simp only [Option.some.injEq] at hy
        subst hy
        refine ⟨by rw [List.length_set]; exact hx.1, fun y hy => ?_⟩
        rcases List.mem_or_eq_of_mem_set hy with h1 | h1
        · exact hx.2 y h1
        · subst h1; have := h.2.1; omega
      · simp at hy
    · exact hx
  · exact TxQ.nil
theorem dropAll_mem (xs : List Txt) (t : Txt) (c m : Int) : (dropAll xs t c m).1.length ≤ xs.length ∧ ∀ y ∈ (dropAll xs t c m).1, y ∈ xs := by
  unfold dropAll
  have key : ∀ (n i : Nat) (s : List Txt × Nat), i + n = xs.length → s.1.length ≤ i → (∀ y ∈ s.1, y ∈ xs) → ((List.range' i n).foldl (fun s i => dropStep xs t c m i s) s).1.length ≤ xs.length ∧ ∀ y ∈ ((List.range' i n).foldl (fun s i => dropStep xs t c m i s) s).1, y ∈ xs := by
    intro n
    induction n with
    | zero => intro i s h1 h2 h3; exact ⟨by simp only [List.range'_zero, List.foldl_nil]; omega, h3⟩
    | succ n ih =>
      intro i s h1 h2 h3
      rw [List.range'_succ, List.foldl_cons]
      refine ih (i + 1) _ (by omega) ?_ ?_
      · unfold dropStep
        split
        · dsimp only; omega
        · dsimp only; rw [List.length_append]; simp; omega
      · unfold dropStep
        split
        · exact h3
        · intro y hy
          simp only [List.mem_append, List.mem_singleton] at hy
          rcases hy with hy | rfl
          · exact h3 y hy
          · exact getD_in (by omega)
  exact key xs.length 0 ([], 0) (by omega) (by simp) (by simp)
theorem vDrop_q (xs : List Txt) (c : Int) (t : Txt) (hx : TxQ xs) : TxQ (vDrop xs c t).1 := by
  unfold vDrop
  split
  · unfold rLDrop
    split
    · have := dropAll_mem xs.reverse t c (-c)
      refine hx.of ?_ fun y hy => ?_
      · simpa using this.1
      · have := this.2 y (by simpa using hy)
        simpa using this
    · have := dropAll_mem xs t c c
      exact hx.of this.1 this.2
  · exact TxQ.nil
theorem vRange_q (xs : List Txt) (f t : Int) (hx : TxQ xs) : TxQ (vRange xs f t) := by
  unfold vRange
  split
  · unfold rRange
    refine hx.of ?_ fun y hy => ?_
    · rw [List.length_drop, List.length_take]; omega
    · exact List.mem_of_mem_take (List.mem_of_mem_drop hy)
  · exact TxQ.nil
theorem rPut_mem {xs : List Txt} {t y : Txt} (h : y ∈ rPut xs t) : y = t ∨ y ∈ xs := by
  unfold rPut at h
  split at h
  · exact .inr h
  · exact insAt_mem h
theorem rAll_mem : ∀ {ts xs : List Txt} {y : Txt}, y ∈ rAll xs ts → y ∈ xs ∨ y ∈ ts
  | [], xs, y, h => .inl h
  | t :: ts, xs, y, h => by
    have h : y ∈ rAll (rPut xs t) ts := h
    rcases rAll_mem h with h1 | h1
    · rcases rPut_mem h1 with rfl | h2
      · exact .inr (by simp)
      · exact .inl h2
    · exact .inr (by simp [h1])
theorem vSAdd_q (xs ts : List Txt) (hx : TxQ xs) : TxQ (vSAdd xs ts).1 := by
  unfold vSAdd
  split
  · split
    · rename_i h1 h2
      refine ⟨by dsimp only; omega, fun y hy => ?_⟩
      rcases rAll_mem hy with h | h
      · exact hx.2 y h
      · have := okTexts_each h2.1 y h; omega
    · exact hx
  · exact TxQ.nil
theorem vSDrop_q (xs ys : List Txt) (hx : TxQ xs) : TxQ (vSDrop xs ys).1 := by
  unfold vSDrop
  split
  · exact hx.of (List.length_filter_le _ _) fun y hy => (List.mem_filter.1 hy).1
  · exact TxQ.nil
def ScQ (xs : List Sc) : Prop := xs.length ≤ 1000 ∧ ∀ x ∈ xs, x.1.length ≤ 1000000 ∧ -2000000000 ≤ x.2 ∧ x.2 ≤ 2000000000
theorem ScQ.nil : ScQ [] := ⟨by simp, by simp⟩
theorem ScQ.of {xs ys : List Sc} (h : ScQ xs) (hl : ys.length ≤ xs.length) (hm : ∀ y ∈ ys, y ∈ xs) : ScQ ys := ⟨Nat.le_trans hl h.1, fun y hy => h.2 y (hm y hy)⟩
theorem vZPut_q (xs : List Sc) (x : Sc) (hx : ScQ xs) : ScQ (vZPut xs x).1 := by
  unfold vZPut
  split
  · split
    · rename_i h1 h2
      have := scoresV_in h2
      exact ⟨by dsimp only; omega, fun y hy => by have := this.2 y hy; omega⟩
    · exact hx
  · exact ScQ.nil
theorem vZDrop_q (xs : List Sc) (t : Txt) (hx : ScQ xs) : ScQ (vZDrop xs t).1 := by
  unfold vZDrop
  split
  · exact hx.of (List.length_filter_le _ _) fun y hy => (List.mem_filter.1 hy).1
  · exact ScQ.nil
theorem vZAt_q (xs : List Sc) (f t : Int) (hx : ScQ xs) : ScQ (vZAt xs f t) := by
  unfold vZAt
  split
  · unfold rScAt
    refine hx.of ?_ fun y hy => ?_
    · rw [List.length_drop, List.length_take]; omega
    · exact List.mem_of_mem_take (List.mem_of_mem_drop hy)
  · exact ScQ.nil
theorem rBy_q (xs : List Sc) (f t : Int) (hx : ScQ xs) : ScQ (rBy xs f t) := by
  unfold rBy
  split
  · exact hx.of (List.length_filter_le _ _) fun y hy => (List.mem_filter.1 hy).1
  · exact ScQ.nil
def PrQ (xs : List Pr) : Prop := xs.length ≤ 1000 ∧ ∀ x ∈ xs, x.1.length ≤ 1000000 ∧ x.2.length ≤ 1000000
theorem PrQ.nil : PrQ [] := ⟨by simp, by simp⟩
theorem PrQ.of {xs ys : List Pr} (h : PrQ xs) (hl : ys.length ≤ xs.length) (hm : ∀ y ∈ ys, y ∈ xs) : PrQ ys := ⟨Nat.le_trans hl h.1, fun y hy => h.2 y (hm y hy)⟩
theorem vFPut_q (xs : List Pr) (x : Pr) (hx : PrQ xs) : PrQ (vFPut xs x).1 := by
  unfold vFPut
  split
  · split
    · rename_i h1 h2
      have := fieldsV_in h2
      exact ⟨by dsimp only; omega, fun y hy => by have := this.2 y hy; omega⟩
    · exact hx
  · exact PrQ.nil
theorem delAt_mem {α : Type} {xs : List α} {k : Nat} {y : α} (h : y ∈ delAt xs k) : y ∈ xs := by
  unfold delAt at h
  rw [List.mem_append] at h
  rcases h with h | h
  · exact List.mem_of_mem_take h
  · exact List.mem_of_mem_drop h
theorem delAt_le {α : Type} (xs : List α) (k : Nat) : (delAt xs k).length ≤ xs.length := by
  unfold delAt
  rw [List.length_append, List.length_take, List.length_drop]; omega
theorem vFDrop_q (xs : List Pr) (t : Txt) (hx : PrQ xs) : PrQ (vFDrop xs t).1 := by
  unfold vFDrop
  split
  · dsimp only
    split
    · exact hx.of (delAt_le _ _) fun y hy => delAt_mem hy
    · exact hx
  · exact PrQ.nil
end Go.Proofs.YtjdmiodinhlchaaGreat.Code
/- The reference: orders to lists. -/
namespace Go.Proofs.YtjdmiodinhlchaaGreat.Code
open Go Go.Ev Go.Proofs
set_option maxRecDepth 100000
set_option maxHeartbeats 2000000
set_option linter.unusedSimpArgs false
set_option linter.unusedVariables false
def withList (e : En) (kind : Int) (l : List Txt) : En := ⟨e.key, e.till, kind, e.text, l, e.scores, e.fields⟩
def withScores (e : En) (kind : Int) (l : List Sc) : En := ⟨e.key, e.till, kind, e.text, e.list, l, e.fields⟩
def withFields (e : En) (kind : Int) (l : List Pr) : En := ⟨e.key, e.till, kind, e.text, e.list, e.scores, l⟩
def rPUSH (b : Ba) (k : Txt) (f : Bool) (ts : List Txt) : Ba × Re := if (vPush (rGet b k).list f ts).2 = true then rKeep b (withList (rGet b k) 2 (vPush (rGet b k).list f ts).1) (intRe (vPush (rGet b k).list f ts).1.length) else (b, errRe [108, 111, 110, 103])
def rPOP (b : Ba) (k : Txt) (f : Bool) : Ba × Re := if (vPop (rGet b k).list f).2.2 = true then rKeep b (withList (rGet b k) (rGet b k).kind (vPop (rGet b k).list f).1) (textRe (vPop (rGet b k).list f).2.1) else (b, noneRe)
def rLLEN (b : Ba) (k : Txt) : Ba × Re := (b, intRe (rGet b k).list.length)
def rLSET (b : Ba) (k n t : Txt) : Ba × Re := if (intV n).2 = true then (if (vSet (rGet b k).list (intV n).1 t).2 = true then rKeep b (withList (rGet b k) (rGet b k).kind (vSet (rGet b k).list (intV n).1 t).1) okRe else (b, errRe [112, 108, 97, 99, 101])) else (b, errRe [110, 117, 109, 98, 101, 114])
def rLREM (b : Ba) (k n t : Txt) : Ba × Re := if (intV n).2 = true then rKeep b (withList (rGet b k) (rGet b k).kind (vDrop (rGet b k).list (intV n).1 t).1) (intRe (vDrop (rGet b k).list (intV n).1 t).2) else (b, errRe [110, 117, 109, 98, 101, 114])
def rLRANGE (b : Ba) (k n m : Txt) : Ba × Re := if (intV n).2 = true ∧ (intV m).2 = true then (b, textsRe (vRange (rGet b k).list (intV n).1 (intV m).1)) else (b, errRe [110, 117, 109, 98, 101, 114])
def rLTRIM (b : Ba) (k n m : Txt) : Ba × Re := if (intV n).2 = true ∧ (intV m).2 = true then rKeep b (withList (rGet b k) (rGet b k).kind (vRange (rGet b k).list (intV n).1 (intV m).1)) okRe else (b, errRe [110, 117, 109, 98, 101, 114])
theorem p_111_LPUSH (b : Ba) (k : Txt) (ts : List Txt) (hb : BaG b) (hk : k.length ≤ 40) (hts : ts.length ≤ 1000) : pureCall (ev R) 111 [.d (baD b), .d (txts ([76, 80, 85, 83, 72] :: k :: ts))] = some (pairD (rPUSH b k true ts)) := pureCall_eq fun H => by
  refine ev_fn (fn := f111) rfl rfl ?_
  have p1 := p_47 b k hb.sm
  have q := rGet_q hb (t := k) (by omega)
  unfold rPUSH
  have eN := p_108 [110, 117, 109, 98, 101, 114]
  have eL := p_108 [108, 111, 110, 103]
  have eP := p_108 [112, 108, 97, 99, 101]
  have eO := p_108 [110, 111, 110, 101]
  have no := p_129
  generalize rGet b k = e at *
  obtain ⟨key, till, kind, text, list, scores, fields⟩ := e
  obtain ⟨q1, q2, q3, q4, q5, q6, q7, q8, q9, q10⟩ := q
  dsimp only [withList, withScores, withFields, withText] at *
  have c00 : (0 : Int) < (ts.length : Int) + 1 + 1 := by omega
  have c01 : (1 : Int) < (ts.length : Int) + 1 + 1 := by omega
  have c02 : (0 : Int) ≤ (ts.length : Int) + 1 + 1 := by omega
  have c03 : (2 : Int) ≤ (ts.length : Int) + 1 + 1 := by omega
  have vq := vPush_q list true ts ⟨q3, q4⟩
  have pv := v_136 list true ts (by omega) (by omega)
  generalize vPush list true ts = V at *
  obtain ⟨vl, vo⟩ := V
  dsimp only at *
  have q : EnQ ⟨key, till, 2, text, vl, scores, fields⟩ := ⟨q1, q2, vq.1, vq.2, q5, q6, q7, q8, q9, by dsimp only; omega⟩
  have p2 := p_131 vl.length
  have p3 := p_132 b _ (intRe vl.length) hb.sm q.sm q.fit
  generalize rKeep b ⟨key, till, 2, text, vl, scores, fields⟩ (intRe vl.length) = P at *
  unfold intRe at p3
  cases vo
  · simp (maxSteps := 1000000) [evL, -List.getD_eq_getElem?_getD, -List.map_map, f111, p1, eN, eL, eP, eO, no, pairD, pv, errRe, c00, c01, c02, c03]
  · simp (maxSteps := 1000000) [evL, -List.getD_eq_getElem?_getD, -List.map_map, f111, p1, eN, eL, eP, eO, no, pairD, pv, p2, p3, c00, c01, c02, c03]
theorem p_111_RPUSH (b : Ba) (k : Txt) (ts : List Txt) (hb : BaG b) (hk : k.length ≤ 40) (hts : ts.length ≤ 1000) : pureCall (ev R) 111 [.d (baD b), .d (txts ([82, 80, 85, 83, 72] :: k :: ts))] = some (pairD (rPUSH b k false ts)) := pureCall_eq fun H => by
  refine ev_fn (fn := f111) rfl rfl ?_
  have p1 := p_47 b k hb.sm
  have q := rGet_q hb (t := k) (by omega)
  unfold rPUSH
  have eN := p_108 [110, 117, 109, 98, 101, 114]
  have eL := p_108 [108, 111, 110, 103]
  have eP := p_108 [112, 108, 97, 99, 101]
  have eO := p_108 [110, 111, 110, 101]
  have no := p_129
  generalize rGet b k = e at *
  obtain ⟨key, till, kind, text, list, scores, fields⟩ := e
  obtain ⟨q1, q2, q3, q4, q5, q6, q7, q8, q9, q10⟩ := q
  dsimp only [withList, withScores, withFields, withText] at *
  have c00 : (0 : Int) < (ts.length : Int) + 1 + 1 := by omega
  have c01 : (1 : Int) < (ts.length : Int) + 1 + 1 := by omega
  have c02 : (0 : Int) ≤ (ts.length : Int) + 1 + 1 := by omega
  have c03 : (2 : Int) ≤ (ts.length : Int) + 1 + 1 := by omega
  have vq := vPush_q list false ts ⟨q3, q4⟩
  have pv := v_136 list false ts (by omega) (by omega)
  generalize vPush list false ts = V at *
  obtain ⟨vl, vo⟩ := V
  dsimp only at *
  have q : EnQ ⟨key, till, 2, text, vl, scores, fields⟩ := ⟨q1, q2, vq.1, vq.2, q5, q6, q7, q8, q9, by dsimp only; omega⟩
  have p2 := p_131 vl.length
  have p3 := p_132 b _ (intRe vl.length) hb.sm q.sm q.fit
  generalize rKeep b ⟨key, till, 2, text, vl, scores, fields⟩ (intRe vl.length) = P at *
  unfold intRe at p3
  cases vo
  · simp (maxSteps := 1000000) [evL, -List.getD_eq_getElem?_getD, -List.map_map, f111, p1, eN, eL, eP, eO, no, pairD, pv, errRe, c00, c01, c02, c03]
  · simp (maxSteps := 1000000) [evL, -List.getD_eq_getElem?_getD, -List.map_map, f111, p1, eN, eL, eP, eO, no, pairD, pv, p2, p3, c00, c01, c02, c03]
theorem p_111_LPOP (b : Ba) (k : Txt)  (hb : BaG b) (hk : k.length ≤ 40)  : pureCall (ev R) 111 [.d (baD b), .d (txts ([[76, 80, 79, 80], k]))] = some (pairD (rPOP b k true)) := pureCall_eq fun H => by
  refine ev_fn (fn := f111) rfl rfl ?_
  have p1 := p_47 b k hb.sm
  have q := rGet_q hb (t := k) (by omega)
  unfold rPOP
  have eN := p_108 [110, 117, 109, 98, 101, 114]
  have eL := p_108 [108, 111, 110, 103]
  have eP := p_108 [112, 108, 97, 99, 101]
  have eO := p_108 [110, 111, 110, 101]
  have no := p_129
  generalize rGet b k = e at *
  obtain ⟨key, till, kind, text, list, scores, fields⟩ := e
  obtain ⟨q1, q2, q3, q4, q5, q6, q7, q8, q9, q10⟩ := q
  dsimp only [withList, withScores, withFields, withText] at *
  have vq := vPop_q list true ⟨q3, q4⟩
  have pv := v_137 list true (by omega)
  generalize vPop list true = V at *
  obtain ⟨vl, vs, vo⟩ := V
  dsimp only at *
  have q : EnQ ⟨key, till, kind, text, vl, scores, fields⟩ := ⟨q1, q2, vq.1, vq.2, q5, q6, q7, q8, q9, by dsimp only; omega⟩
  have p2 := p_130 vs
  have p3 := p_132 b _ (textRe vs) hb.sm q.sm q.fit
  generalize rKeep b ⟨key, till, kind, text, vl, scores, fields⟩ (textRe vs) = P at *
  unfold textRe at p3
  cases vo
  · simp (maxSteps := 1000000) [evL, -List.getD_eq_getElem?_getD, -List.map_map, f111, p1, eN, eL, eP, eO, no, pairD, pv, noneRe]
  · simp (maxSteps := 1000000) [evL, -List.getD_eq_getElem?_getD, -List.map_map, f111, p1, eN, eL, eP, eO, no, pairD, pv, p2, p3]
theorem p_111_RPOP (b : Ba) (k : Txt)  (hb : BaG b) (hk : k.length ≤ 40)  : pureCall (ev R) 111 [.d (baD b), .d (txts ([[82, 80, 79, 80], k]))] = some (pairD (rPOP b k false)) := pureCall_eq fun H => by
  refine ev_fn (fn := f111) rfl rfl ?_
  have p1 := p_47 b k hb.sm
  have q := rGet_q hb (t := k) (by omega)
  unfold rPOP
  have eN := p_108 [110, 117, 109, 98, 101, 114]
  have eL := p_108 [108, 111, 110, 103]
  have eP := p_108 [112, 108, 97, 99, 101]
  have eO := p_108 [110, 111, 110, 101]
  have no := p_129
  generalize rGet b k = e at *
  obtain ⟨key, till, kind, text, list, scores, fields⟩ := e
  obtain ⟨q1, q2, q3, q4, q5, q6, q7, q8, q9, q10⟩ := q
  dsimp only [withList, withScores, withFields, withText] at *
  have vq := vPop_q list false ⟨q3, q4⟩
  have pv := v_137 list false (by omega)
  generalize vPop list false = V at *
  obtain ⟨vl, vs, vo⟩ := V
  dsimp only at *
  have q : EnQ ⟨key, till, kind, text, vl, scores, fields⟩ := ⟨q1, q2, vq.1, vq.2, q5, q6, q7, q8, q9, by dsimp only; omega⟩
  have p2 := p_130 vs
  have p3 := p_132 b _ (textRe vs) hb.sm q.sm q.fit
  generalize rKeep b ⟨key, till, kind, text, vl, scores, fields⟩ (textRe vs) = P at *
  unfold textRe at p3
  cases vo
  · simp (maxSteps := 1000000) [evL, -List.getD_eq_getElem?_getD, -List.map_map, f111, p1, eN, eL, eP, eO, no, pairD, pv, noneRe]
  · simp (maxSteps := 1000000) [evL, -List.getD_eq_getElem?_getD, -List.map_map, f111, p1, eN, eL, eP, eO, no, pairD, pv, p2, p3]
theorem p_111_LLEN (b : Ba) (k : Txt)  (hb : BaG b) (hk : k.length ≤ 40)  : pureCall (ev R) 111 [.d (baD b), .d (txts ([[76, 76, 69, 78], k]))] = some (pairD (rLLEN b k)) := pureCall_eq fun H => by
  refine ev_fn (fn := f111) rfl rfl ?_
  have p1 := p_47 b k hb.sm
  have q := rGet_q hb (t := k) (by omega)
  unfold rLLEN
  have eN := p_108 [110, 117, 109, 98, 101, 114]
  have eL := p_108 [108, 111, 110, 103]
  have eP := p_108 [112, 108, 97, 99, 101]
  have eO := p_108 [110, 111, 110, 101]
  have no := p_129
  generalize rGet b k = e at *
  obtain ⟨key, till, kind, text, list, scores, fields⟩ := e
  obtain ⟨q1, q2, q3, q4, q5, q6, q7, q8, q9, q10⟩ := q
  dsimp only [withList, withScores, withFields, withText] at *
  have p2 := p_131 list.length
  simp (maxSteps := 1000000) [evL, -List.getD_eq_getElem?_getD, -List.map_map, f111, p1, eN, eL, eP, eO, no, pairD, p2, intRe]
theorem p_111_LSET (b : Ba) (k : Txt) (n : Txt) (t : Txt) (hb : BaG b) (hk : k.length ≤ 40) (hn : n.length ≤ 40) (ht : t.length ≤ 40) : pureCall (ev R) 111 [.d (baD b), .d (txts ([[76, 83, 69, 84], k, n, t]))] = some (pairD (rLSET b k n t)) := pureCall_eq fun H => by
  refine ev_fn (fn := f111) rfl rfl ?_
  have p1 := p_47 b k hb.sm
  have q := rGet_q hb (t := k) (by omega)
  unfold rLSET
  have eN := p_108 [110, 117, 109, 98, 101, 114]
  have eL := p_108 [108, 111, 110, 103]
  have eP := p_108 [112, 108, 97, 99, 101]
  have eO := p_108 [110, 111, 110, 101]
  have no := p_129
  generalize rGet b k = e at *
  obtain ⟨key, till, kind, text, list, scores, fields⟩ := e
  obtain ⟨q1, q2, q3, q4, q5, q6, q7, q8, q9, q10⟩ := q
  dsimp only [withList, withScores, withFields, withText] at *
  have i0 := intV_in n
  have pi0 := p_133 n (by omega)
  generalize intV n = I0 at *
  obtain ⟨n0, o0⟩ := I0
  dsimp only at *
  have vq := vSet_q list n0 t ⟨q3, q4⟩
  have pv := v_138 list n0 t (by omega) ⟨by omega, by omega⟩
  generalize vSet list n0 t = V at *
  obtain ⟨vl, vo⟩ := V
  dsimp only at *
  have q : EnQ ⟨key, till, kind, text, vl, scores, fields⟩ := ⟨q1, q2, vq.1, vq.2, q5, q6, q7, q8, q9, by dsimp only; omega⟩
  have p3 := p_132 b _ (okRe) hb.sm q.sm q.fit
  generalize rKeep b ⟨key, till, kind, text, vl, scores, fields⟩ (okRe) = P at *
  unfold okRe at p3
  cases o0
  · simp (maxSteps := 1000000) [evL, -List.getD_eq_getElem?_getD, -List.map_map, f111, p1, eN, eL, eP, eO, no, pairD, pi0, errRe]
  · cases vo
    · simp (maxSteps := 1000000) [evL, -List.getD_eq_getElem?_getD, -List.map_map, f111, p1, eN, eL, eP, eO, no, pairD, pi0, pv, errRe]
    · simp (maxSteps := 1000000) [evL, -List.getD_eq_getElem?_getD, -List.map_map, f111, p1, eN, eL, eP, eO, no, pairD, pi0, pv, p3]
theorem p_111_LREM (b : Ba) (k : Txt) (n : Txt) (t : Txt) (hb : BaG b) (hk : k.length ≤ 40) (hn : n.length ≤ 40) (ht : t.length ≤ 40) : pureCall (ev R) 111 [.d (baD b), .d (txts ([[76, 82, 69, 77], k, n, t]))] = some (pairD (rLREM b k n t)) := pureCall_eq fun H => by
  refine ev_fn (fn := f111) rfl rfl ?_
  have p1 := p_47 b k hb.sm
  have q := rGet_q hb (t := k) (by omega)
  unfold rLREM
  have eN := p_108 [110, 117, 109, 98, 101, 114]
  have eL := p_108 [108, 111, 110, 103]
  have eP := p_108 [112, 108, 97, 99, 101]
  have eO := p_108 [110, 111, 110, 101]
  have no := p_129
  generalize rGet b k = e at *
  obtain ⟨key, till, kind, text, list, scores, fields⟩ := e
  obtain ⟨q1, q2, q3, q4, q5, q6, q7, q8, q9, q10⟩ := q
  dsimp only [withList, withScores, withFields, withText] at *
  have i0 := intV_in n
  have pi0 := p_133 n (by omega)
  generalize intV n = I0 at *
  obtain ⟨n0, o0⟩ := I0
  dsimp only at *
  have vq := vDrop_q list n0 t ⟨q3, q4⟩
  have pv := v_139 list n0 t (by omega)
  generalize vDrop list n0 t = V at *
  obtain ⟨vl, vo⟩ := V
  dsimp only at *
  have q : EnQ ⟨key, till, kind, text, vl, scores, fields⟩ := ⟨q1, q2, vq.1, vq.2, q5, q6, q7, q8, q9, by dsimp only; omega⟩
  have p2 := p_131 vo
  have p3 := p_132 b _ (intRe vo) hb.sm q.sm q.fit
  generalize rKeep b ⟨key, till, kind, text, vl, scores, fields⟩ (intRe vo) = P at *
  unfold intRe at p3
  cases o0
  · simp (maxSteps := 1000000) [evL, -List.getD_eq_getElem?_getD, -List.map_map, f111, p1, eN, eL, eP, eO, no, pairD, pi0, errRe]
  · simp (maxSteps := 1000000) [evL, -List.getD_eq_getElem?_getD, -List.map_map, f111, p1, eN, eL, eP, eO, no, pairD, pi0, pv, p2, p3]
theorem p_111_LRANGE (b : Ba) (k : Txt) (n : Txt) (m : Txt) (hb : BaG b) (hk : k.length ≤ 40) (hn : n.length ≤ 40) (hm : m.length ≤ 40) : pureCall (ev R) 111 [.d (baD b), .d (txts ([[76, 82, 65, 78, 71, 69], k, n, m]))] = some (pairD (rLRANGE b k n m)) := pureCall_eq fun H => by
  refine ev_fn (fn := f111) rfl rfl ?_
  have p1 := p_47 b k hb.sm
  have q := rGet_q hb (t := k) (by omega)
  unfold rLRANGE
  have eN := p_108 [110, 117, 109, 98, 101, 114]
  have eL := p_108 [108, 111, 110, 103]
  have eP := p_108 [112, 108, 97, 99, 101]
  have eO := p_108 [110, 111, 110, 101]
  have no := p_129
  generalize rGet b k = e at *
  obtain ⟨key, till, kind, text, list, scores, fields⟩ := e
  obtain ⟨q1, q2, q3, q4, q5, q6, q7, q8, q9, q10⟩ := q
  dsimp only [withList, withScores, withFields, withText] at *
  have i0 := intV_in n
  have pi0 := p_133 n (by omega)
  have i1 := intV_in m
  have pi1 := p_133 m (by omega)
  generalize intV n = I0 at *
  obtain ⟨n0, o0⟩ := I0
  generalize intV m = I1 at *
  obtain ⟨n1, o1⟩ := I1
  dsimp only at *
  have pv := v_140 list n0 n1 (by omega)
  generalize vRange list n0 n1 = ZV at *
  have p2 := p_141 ZV
  cases o0 <;> cases o1
  · simp (maxSteps := 1000000) [evL, -List.getD_eq_getElem?_getD, -List.map_map, f111, p1, eN, eL, eP, eO, no, pairD, pi0, pi1, errRe]
  · simp (maxSteps := 1000000) [evL, -List.getD_eq_getElem?_getD, -List.map_map, f111, p1, eN, eL, eP, eO, no, pairD, pi0, pi1, errRe]
  · simp (maxSteps := 1000000) [evL, -List.getD_eq_getElem?_getD, -List.map_map, f111, p1, eN, eL, eP, eO, no, pairD, pi0, pi1, errRe]
  · simp (maxSteps := 1000000) [evL, -List.getD_eq_getElem?_getD, -List.map_map, f111, p1, eN, eL, eP, eO, no, pairD, pi0, pi1, pv, p2, textsRe]
theorem p_111_LTRIM (b : Ba) (k : Txt) (n : Txt) (m : Txt) (hb : BaG b) (hk : k.length ≤ 40) (hn : n.length ≤ 40) (hm : m.length ≤ 40) : pureCall (ev R) 111 [.d (baD b), .d (txts ([[76, 84, 82, 73, 77], k, n, m]))] = some (pairD (rLTRIM b k n m)) := pureCall_eq fun H => by
  refine ev_fn (fn := f111) rfl rfl ?_
  have p1 := p_47 b k hb.sm
  have q := rGet_q hb (t := k) (by omega)
  unfold rLTRIM
  have eN := p_108 [110, 117, 109, 98, 101, 114]
  have eL := p_108 [108, 111, 110, 103]
  have eP := p_108 [112, 108, 97, 99, 101]
  have eO := p_108 [110, 111, 110, 101]
  have no := p_129
  generalize rGet b k = e at *
  obtain ⟨key, till, kind, text, list, scores, fields⟩ := e
  obtain ⟨q1, q2, q3, q4, q5, q6, q7, q8, q9, q10⟩ := q
  dsimp only [withList, withScores, withFields, withText] at *
  have i0 := intV_in n
  have pi0 := p_133 n (by omega)
  have i1 := intV_in m
  have pi1 := p_133 m (by omega)
  generalize intV n = I0 at *
  obtain ⟨n0, o0⟩ := I0
  generalize intV m = I1 at *
  obtain ⟨n1, o1⟩ := I1
  dsimp only at *
  have vq := vRange_q list n0 n1 ⟨q3, q4⟩
  have pv := v_140 list n0 n1 (by omega)
  generalize vRange list n0 n1 = ZV at *
  have q : EnQ ⟨key, till, kind, text, ZV, scores, fields⟩ := ⟨q1, q2, vq.1, vq.2, q5, q6, q7, q8, q9, by dsimp only; omega⟩
  have p3 := p_132 b _ (okRe) hb.sm q.sm q.fit
  generalize rKeep b ⟨key, till, kind, text, ZV, scores, fields⟩ (okRe) = P at *
  unfold okRe at p3
  cases o0 <;> cases o1
  · simp (maxSteps := 1000000) [evL, -List.getD_eq_getElem?_getD, -List.map_map, f111, p1, eN, eL, eP, eO, no, pairD, pi0, pi1, errRe]
  · simp (maxSteps := 1000000) [evL, -List.getD_eq_getElem?_getD, -List.map_map, f111, p1, eN, eL, eP, eO, no, pairD, pi0, pi1, errRe]
  · simp (maxSteps := 1000000) [evL, -List.getD_eq_getElem?_getD, -List.map_map, f111, p1, eN, eL, eP, eO, no, pairD, pi0, pi1, errRe]
  · simp (maxSteps := 1000000) [evL, -List.getD_eq_getElem?_getD, -List.map_map, f111, p1, eN, eL, eP, eO, no, pairD, pi0, pi1, pv, p3]
end Go.Proofs.YtjdmiodinhlchaaGreat.Code
/- The reference: orders to sets. -/
namespace Go.Proofs.YtjdmiodinhlchaaGreat.Code
open Go Go.Ev Go.Proofs
set_option maxRecDepth 100000
set_option maxHeartbeats 2000000
set_option linter.unusedSimpArgs false
set_option linter.unusedVariables false
def rSADD (b : Ba) (k : Txt) (ts : List Txt) : Ba × Re := if (vSAdd (rGet b k).list ts).2.2 = true then rKeep b (withList (rGet b k) 3 (vSAdd (rGet b k).list ts).1) (intRe (vSAdd (rGet b k).list ts).2.1) else (b, errRe [108, 111, 110, 103])
def rSREM (b : Ba) (k : Txt) (ts : List Txt) : Ba × Re := rKeep b (withList (rGet b k) (rGet b k).kind (vSDrop (rGet b k).list ts).1) (intRe (vSDrop (rGet b k).list ts).2)
def rSMEMBERS (b : Ba) (k : Txt) : Ba × Re := (b, textsRe (rGet b k).list)
def rSISMEMBER (b : Ba) (k t : Txt) : Ba × Re := (b, boolRe (decide (t ∈ (rGet b k).list)))
def rSINTER (b : Ba) (k m : Txt) : Ba × Re := (b, textsRe (vBoth (rGet b k).list (rGet b m).list))
def rSUNION (b : Ba) (k m : Txt) : Ba × Re := (b, textsRe (vAny (rGet b k).list (rGet b m).list))
def rSDIFF (b : Ba) (k m : Txt) : Ba × Re := (b, textsRe (vLess (rGet b k).list (rGet b m).list))
theorem p_112_SADD (b : Ba) (k : Txt) (ts : List Txt) (hb : BaG b) (hk : k.length ≤ 40) (hts : ts.length ≤ 1000) : pureCall (ev R) 112 [.d (baD b), .d (txts ([83, 65, 68, 68] :: k :: ts))] = some (pairD (rSADD b k ts)) := pureCall_eq fun H => by
  refine ev_fn (fn := f112) rfl rfl ?_
  have p1 := p_47 b k hb.sm
  have q := rGet_q hb (t := k) (by omega)
  unfold rSADD
  have eN := p_108 [110, 117, 109, 98, 101, 114]
  have eL := p_108 [108, 111, 110, 103]
  have eP := p_108 [112, 108, 97, 99, 101]
  have eO := p_108 [110, 111, 110, 101]
  have no := p_129
  generalize rGet b k = e at *
  obtain ⟨key, till, kind, text, list, scores, fields⟩ := e
  obtain ⟨q1, q2, q3, q4, q5, q6, q7, q8, q9, q10⟩ := q
  dsimp only [withList, withScores, withFields, withText] at *
  have c00 : (0 : Int) < (ts.length : Int) + 1 + 1 := by omega
  have c01 : (1 : Int) < (ts.length : Int) + 1 + 1 := by omega
  have c02 : (0 : Int) ≤ (ts.length : Int) + 1 + 1 := by omega
  have c03 : (2 : Int) ≤ (ts.length : Int) + 1 + 1 := by omega
  have vq := vSAdd_q list ts ⟨q3, q4⟩
  have pv := v_142 list ts (by omega) (by omega)
  generalize vSAdd list ts = V at *
  obtain ⟨vl, vn, vo⟩ := V
  dsimp only at *
  have q : EnQ ⟨key, till, 3, text, vl, scores, fields⟩ := ⟨q1, q2, vq.1, vq.2, q5, q6, q7, q8, q9, by dsimp only; omega⟩
  have p2 := p_131 vn
  have p3 := p_132 b _ (intRe vn) hb.sm q.sm q.fit
  generalize rKeep b ⟨key, till, 3, text, vl, scores, fields⟩ (intRe vn) = P at *
  unfold intRe at p3
  cases vo
  · simp (maxSteps := 1000000) [evL, -List.getD_eq_getElem?_getD, -List.map_map, f112, p1, eN, eL, eP, eO, no, pairD, pv, errRe, c00, c01, c02, c03]
  · simp (maxSteps := 1000000) [evL, -List.getD_eq_getElem?_getD, -List.map_map, f112, p1, eN, eL, eP, eO, no, pairD, pv, p2, p3, c00, c01, c02, c03]
theorem p_112_SREM (b : Ba) (k : Txt) (ts : List Txt) (hb : BaG b) (hk : k.length ≤ 40) (hts : ts.length ≤ 1000) : pureCall (ev R) 112 [.d (baD b), .d (txts ([83, 82, 69, 77] :: k :: ts))] = some (pairD (rSREM b k ts)) := pureCall_eq fun H => by
  refine ev_fn (fn := f112) rfl rfl ?_
  have p1 := p_47 b k hb.sm
  have q := rGet_q hb (t := k) (by omega)
  unfold rSREM
  have eN := p_108 [110, 117, 109, 98, 101, 114]
  have eL := p_108 [108, 111, 110, 103]
  have eP := p_108 [112, 108, 97, 99, 101]
  have eO := p_108 [110, 111, 110, 101]
  have no := p_129
  generalize rGet b k = e at *
  obtain ⟨key, till, kind, text, list, scores, fields⟩ := e
  obtain ⟨q1, q2, q3, q4, q5, q6, q7, q8, q9, q10⟩ := q
  dsimp only [withList, withScores, withFields, withText] at *
  have c00 : (0 : Int) < (ts.length : Int) + 1 + 1 := by omega
  have c01 : (1 : Int) < (ts.length : Int) + 1 + 1 := by omega
  have c02 : (0 : Int) ≤ (ts.length : Int) + 1 + 1 := by omega
  have c03 : (2 : Int) ≤ (ts.length : Int) + 1 + 1 := by omega
  have vq := vSDrop_q list ts ⟨q3, q4⟩
  have pv := v_143 list ts (by omega) (by omega)
  generalize vSDrop list ts = V at *
  obtain ⟨vl, vn⟩ := V
  dsimp only at *
  have q : EnQ ⟨key, till, kind, text, vl, scores, fields⟩ := ⟨q1, q2, vq.1, vq.2, q5, q6, q7, q8, q9, by dsimp only; omega⟩
  have p2 := p_131 vn
  have p3 := p_132 b _ (intRe vn) hb.sm q.sm q.fit
  generalize rKeep b ⟨key, till, kind, text, vl, scores, fields⟩ (intRe vn) = P at *
  unfold intRe at p3
  simp (maxSteps := 1000000) [evL, -List.getD_eq_getElem?_getD, -List.map_map, f112, p1, eN, eL, eP, eO, no, pairD, pv, p2, p3, c00, c01, c02, c03]
theorem p_112_SMEMBERS (b : Ba) (k : Txt)  (hb : BaG b) (hk : k.length ≤ 40)  : pureCall (ev R) 112 [.d (baD b), .d (txts ([[83, 77, 69, 77, 66, 69, 82, 83], k]))] = some (pairD (rSMEMBERS b k)) := pureCall_eq fun H => by
  refine ev_fn (fn := f112) rfl rfl ?_
  have p1 := p_47 b k hb.sm
  have q := rGet_q hb (t := k) (by omega)
  unfold rSMEMBERS
  have eN := p_108 [110, 117, 109, 98, 101, 114]
  have eL := p_108 [108, 111, 110, 103]
  have eP := p_108 [112, 108, 97, 99, 101]
  have eO := p_108 [110, 111, 110, 101]
  have no := p_129
  generalize rGet b k = e at *
  obtain ⟨key, till, kind, text, list, scores, fields⟩ := e
  obtain ⟨q1, q2, q3, q4, q5, q6, q7, q8, q9, q10⟩ := q
  dsimp only [withList, withScores, withFields, withText] at *
  have p2 := p_141 list
  simp (maxSteps := 1000000) [evL, -List.getD_eq_getElem?_getD, -List.map_map, f112, p1, eN, eL, eP, eO, no, pairD, p2, textsRe]
theorem p_112_SCARD (b : Ba) (k : Txt)  (hb : BaG b) (hk : k.length ≤ 40)  : pureCall (ev R) 112 [.d (baD b), .d (txts ([[83, 67, 65, 82, 68], k]))] = some (pairD (rLLEN b k)) := pureCall_eq fun H => by
  refine ev_fn (fn := f112) rfl rfl ?_
  have p1 := p_47 b k hb.sm
  have q := rGet_q hb (t := k) (by omega)
  unfold rLLEN
  have eN := p_108 [110, 117, 109, 98, 101, 114]
  have eL := p_108 [108, 111, 110, 103]
  have eP := p_108 [112, 108, 97, 99, 101]
  have eO := p_108 [110, 111, 110, 101]
  have no := p_129
  generalize rGet b k = e at *
  obtain ⟨key, till, kind, text, list, scores, fields⟩ := e
  obtain ⟨q1, q2, q3, q4, q5, q6, q7, q8, q9, q10⟩ := q
  dsimp only [withList, withScores, withFields, withText] at *
  have p2 := p_131 list.length
  simp (maxSteps := 1000000) [evL, -List.getD_eq_getElem?_getD, -List.map_map, f112, p1, eN, eL, eP, eO, no, pairD, p2, intRe]
theorem p_112_SISMEMBER (b : Ba) (k : Txt) (t : Txt) (hb : BaG b) (hk : k.length ≤ 40) (ht : t.length ≤ 40) : pureCall (ev R) 112 [.d (baD b), .d (txts ([[83, 73, 83, 77, 69, 77, 66, 69, 82], k, t]))] = some (pairD (rSISMEMBER b k t)) := pureCall_eq fun H => by
  refine ev_fn (fn := f112) rfl rfl ?_
  have p1 := p_47 b k hb.sm
  have q := rGet_q hb (t := k) (by omega)
  unfold rSISMEMBER
  have eN := p_108 [110, 117, 109, 98, 101, 114]
  have eL := p_108 [108, 111, 110, 103]
  have eP := p_108 [112, 108, 97, 99, 101]
  have eO := p_108 [110, 111, 110, 101]
  have no := p_129
  generalize rGet b k = e at *
  obtain ⟨key, till, kind, text, list, scores, fields⟩ := e
  obtain ⟨q1, q2, q3, q4, q5, q6, q7, q8, q9, q10⟩ := q
  dsimp only [withList, withScores, withFields, withText] at *
  have pv := p_145 list t (by omega)
  generalize decide (t ∈ list) = ZV at *
  have p2 := p_144 ZV
  simp (maxSteps := 1000000) [evL, -List.getD_eq_getElem?_getD, -List.map_map, f112, p1, eN, eL, eP, eO, no, pairD, pv, p2]
theorem p_112_SINTER (b : Ba) (k : Txt) (m : Txt) (hb : BaG b) (hk : k.length ≤ 40) (hm : m.length ≤ 40) : pureCall (ev R) 112 [.d (baD b), .d (txts ([[83, 73, 78, 84, 69, 82], k, m]))] = some (pairD (rSINTER b k m)) := pureCall_eq fun H => by
  have p9 := p_47 b m hb.sm
  have q' := rGet_q hb (t := m) (by omega)
  refine ev_fn (fn := f112) rfl rfl ?_
  have p1 := p_47 b k hb.sm
  have q := rGet_q hb (t := k) (by omega)
  unfold rSINTER
  have eN := p_108 [110, 117, 109, 98, 101, 114]
  have eL := p_108 [108, 111, 110, 103]
  have eP := p_108 [112, 108, 97, 99, 101]
  have eO := p_108 [110, 111, 110, 101]
  have no := p_129
  generalize rGet b k = e at *
  obtain ⟨key, till, kind, text, list, scores, fields⟩ := e
  obtain ⟨q1, q2, q3, q4, q5, q6, q7, q8, q9, q10⟩ := q
  dsimp only [withList, withScores, withFields, withText] at *
  generalize rGet b m = e2 at *
  obtain ⟨key2, till2, kind2, text2, list2, scores2, fields2⟩ := e2
  obtain ⟨_, _, qq, _, _, _, _, _, _, _⟩ := q'
  dsimp only at *
  have pv := v_146 list list2 (by omega) (by omega)
  generalize vBoth list list2 = ZV at *
  have p2 := p_141 ZV
  simp (maxSteps := 1000000) [evL, -List.getD_eq_getElem?_getD, -List.map_map, f112, p1, eN, eL, eP, eO, no, pairD, p9, pv, p2, textsRe]
theorem p_112_SUNION (b : Ba) (k : Txt) (m : Txt) (hb : BaG b) (hk : k.length ≤ 40) (hm : m.length ≤ 40) : pureCall (ev R) 112 [.d (baD b), .d (txts ([[83, 85, 78, 73, 79, 78], k, m]))] = some (pairD (rSUNION b k m)) := pureCall_eq fun H => by
  have p9 := p_47 b m hb.sm
  have q' := rGet_q hb (t := m) (by omega)
  refine ev_fn (fn := f112) rfl rfl ?_
  have p1 := p_47 b k hb.sm
  have q := rGet_q hb (t := k) (by omega)
  unfold rSUNION
  have eN := p_108 [110, 117, 109, 98, 101, 114]
  have eL := p_108 [108, 111, 110, 103]
  have eP := p_108 [112, 108, 97, 99, 101]
  have eO := p_108 [110, 111, 110, 101]
  have no := p_129
  generalize rGet b k = e at *
  obtain ⟨key, till, kind, text, list, scores, fields⟩ := e
  obtain ⟨q1, q2, q3, q4, q5, q6, q7, q8, q9, q10⟩ := q
  dsimp only [withList, withScores, withFields, withText] at *
  generalize rGet b m = e2 at *
  obtain ⟨key2, till2, kind2, text2, list2, scores2, fields2⟩ := e2
  obtain ⟨_, _, qq, _, _, _, _, _, _, _⟩ := q'
  dsimp only at *
  have pv := v_147 list list2 (by omega) (by omega)
  generalize vAny list list2 = ZV at *
  have p2 := p_141 ZV
  simp (maxSteps := 1000000) [evL, -List.getD_eq_getElem?_getD, -List.map_map, f112, p1, eN, eL, eP, eO, no, pairD, p9, pv, p2, textsRe]
theorem p_112_SDIFF (b : Ba) (k : Txt) (m : Txt) (hb : BaG b) (hk : k.length ≤ 40) (hm : m.length ≤ 40) : pureCall (ev R) 112 [.d (baD b), .d (txts ([[83, 68, 73, 70, 70], k, m]))] = some (pairD (rSDIFF b k m)) := pureCall_eq fun H => by
  have p9 := p_47 b m hb.sm
  have q' := rGet_q hb (t := m) (by omega)
  refine ev_fn (fn := f112) rfl rfl ?_
  have p1 := p_47 b k hb.sm
  have q := rGet_q hb (t := k) (by omega)
  unfold rSDIFF
  have eN := p_108 [110, 117, 109, 98, 101, 114]
  have eL := p_108 [108, 111, 110, 103]
  have eP := p_108 [112, 108, 97, 99, 101]
  have eO := p_108 [110, 111, 110, 101]
  have no := p_129
  generalize rGet b k = e at *
  obtain ⟨key, till, kind, text, list, scores, fields⟩ := e
  obtain ⟨q1, q2, q3, q4, q5, q6, q7, q8, q9, q10⟩ := q
  dsimp only [withList, withScores, withFields, withText] at *
  generalize rGet b m = e2 at *
  obtain ⟨key2, till2, kind2, text2, list2, scores2, fields2⟩ := e2
  obtain ⟨_, _, qq, _, _, _, _, _, _, _⟩ := q'
  dsimp only at *
  have pv := v_148 list list2 (by omega) (by omega)
  generalize vLess list list2 = ZV at *
  have p2 := p_141 ZV
  simp (maxSteps := 1000000) [evL, -List.getD_eq_getElem?_getD, -List.map_map, f112, p1, eN, eL, eP, eO, no, pairD, p9, pv, p2, textsRe]
end Go.Proofs.YtjdmiodinhlchaaGreat.Code
/- The reference: orders to scores. -/
namespace Go.Proofs.YtjdmiodinhlchaaGreat.Code
open Go Go.Ev Go.Proofs
set_option maxRecDepth 100000
set_option maxHeartbeats 2000000
set_option linter.unusedSimpArgs false
set_option linter.unusedVariables false
def rZCARD (b : Ba) (k : Txt) : Ba × Re := (b, intRe (rGet b k).scores.length)
def rZREM (b : Ba) (k t : Txt) : Ba × Re := rKeep b (withScores (rGet b k) (rGet b k).kind (vZDrop (rGet b k).scores t).1) (boolRe (vZDrop (rGet b k).scores t).2)
def rZSCORE (b : Ba) (k t : Txt) : Ba × Re := (b, if rRank (rGet b k).scores t < 0 then noneRe else intRe ((rGet b k).scores.getD (rRank (rGet b k).scores t).toNat ([], 0)).2)
def rZRANK (b : Ba) (k t : Txt) : Ba × Re := (b, if rRank (rGet b k).scores t < 0 then noneRe else intRe (rRank (rGet b k).scores t))
def rZADD (b : Ba) (k n t : Txt) : Ba × Re := if (intV n).2 = true then (if (vZPut (rGet b k).scores (t, (intV n).1)).2.2 = true then rKeep b (withScores (rGet b k) 4 (vZPut (rGet b k).scores (t, (intV n).1)).1) (boolRe (vZPut (rGet b k).scores (t, (intV n).1)).2.1) else (b, errRe [108, 111, 110, 103])) else (b, errRe [110, 117, 109, 98, 101, 114])
def sumZ (xs : List Sc) (t : Txt) (n : Int) : Int := if rRank xs t < 0 then n else n + (xs.getD (rRank xs t).toNat ([], 0)).2
def rZINCRBY (b : Ba) (k n t : Txt) : Ba × Re := if (intV n).2 = true then (if (vZPut (rGet b k).scores (t, sumZ (rGet b k).scores t (intV n).1)).2.2 = true then rKeep b (withScores (rGet b k) 4 (vZPut (rGet b k).scores (t, sumZ (rGet b k).scores t (intV n).1)).1) (intRe (sumZ (rGet b k).scores t (intV n).1)) else (b, errRe [108, 111, 110, 103])) else (b, errRe [110, 117, 109, 98, 101, 114])
def rZRANGE (b : Ba) (k n m : Txt) : Ba × Re := if (intV n).2 = true ∧ (intV m).2 = true then (b, textsRe (rNames (vZAt (rGet b k).scores (intV n).1 (intV m).1))) else (b, errRe [110, 117, 109, 98, 101, 114])
def rZRANGEBYSCORE (b : Ba) (k n m : Txt) : Ba × Re := if (intV n).2 = true ∧ (intV m).2 = true then (b, textsRe (rNames (rBy (rGet b k).scores (intV n).1 (intV m).1))) else (b, errRe [110, 117, 109, 98, 101, 114])
theorem rRank_in (xs : List Sc) (t : Txt) : -1 ≤ rRank xs t ∧ rRank xs t < xs.length := by
  unfold rRank
  split
  · split
    · constructor <;> omega
    · constructor <;> omega
  · constructor <;> omega
theorem p_113_ZCARD (b : Ba) (k : Txt)  (hb : BaG b) (hk : k.length ≤ 40)  : pureCall (ev R) 113 [.d (baD b), .d (txts ([[90, 67, 65, 82, 68], k]))] = some (pairD (rZCARD b k)) := pureCall_eq fun H => by
  refine ev_fn (fn := f113) rfl rfl ?_
  have p1 := p_47 b k hb.sm
  have q := rGet_q hb (t := k) (by omega)
  unfold rZCARD
  have eN := p_108 [110, 117, 109, 98, 101, 114]
  have eL := p_108 [108, 111, 110, 103]
  have eP := p_108 [112, 108, 97, 99, 101]
  have eO := p_108 [110, 111, 110, 101]
  have no := p_129
  generalize rGet b k = e at *
  obtain ⟨key, till, kind, text, list, scores, fields⟩ := e
  obtain ⟨q1, q2, q3, q4, q5, q6, q7, q8, q9, q10⟩ := q
  dsimp only [withList, withScores, withFields, withText] at *
  have p2 := p_131 scores.length
  simp (maxSteps := 1000000) [evL, -List.getD_eq_getElem?_getD, -List.map_map, f113, p1, eN, eL, eP, eO, no, pairD, p2, intRe]
theorem p_113_ZREM (b : Ba) (k : Txt) (t : Txt) (hb : BaG b) (hk : k.length ≤ 40) (ht : t.length ≤ 40) : pureCall (ev R) 113 [.d (baD b), .d (txts ([[90, 82, 69, 77], k, t]))] = some (pairD (rZREM b k t)) := pureCall_eq fun H => by
  refine ev_fn (fn := f113) rfl rfl ?_
  have p1 := p_47 b k hb.sm
  have q := rGet_q hb (t := k) (by omega)
  unfold rZREM
  have eN := p_108 [110, 117, 109, 98, 101, 114]
  have eL := p_108 [108, 111, 110, 103]
  have eP := p_108 [112, 108, 97, 99, 101]
  have eO := p_108 [110, 111, 110, 101]
  have no := p_129
  generalize rGet b k = e at *
  obtain ⟨key, till, kind, text, list, scores, fields⟩ := e
  obtain ⟨q1, q2, q3, q4, q5, q6, q7, q8, q9, q10⟩ := q
  dsimp only [withList, withScores, withFields, withText] at *
  have vq := vZDrop_q scores t ⟨q5, q6⟩
  have pv := v_149 scores t (by omega)
  generalize vZDrop scores t = V at *
  obtain ⟨vl, vo⟩ := V
  dsimp only at *
  have q : EnQ ⟨key, till, kind, text, list, vl, fields⟩ := ⟨q1, q2, q3, q4, vq.1, vq.2, q7, q8, q9, by dsimp only; omega⟩
  have p2 := p_144 vo
  have p3 := p_132 b _ (boolRe vo) hb.sm q.sm q.fit
  generalize rKeep b ⟨key, till, kind, text, list, vl, fields⟩ (boolRe vo) = P at *
  simp (maxSteps := 1000000) [evL, -List.getD_eq_getElem?_getD, -List.map_map, f113, p1, eN, eL, eP, eO, no, pairD, pv, p2, p3]
theorem p_113_ZSCORE (b : Ba) (k : Txt) (t : Txt) (hb : BaG b) (hk : k.length ≤ 40) (ht : t.length ≤ 40) : pureCall (ev R) 113 [.d (baD b), .d (txts ([[90, 83, 67, 79, 82, 69], k, t]))] = some (pairD (rZSCORE b k t)) := pureCall_eq fun H => by
  refine ev_fn (fn := f113) rfl rfl ?_
  have p1 := p_47 b k hb.sm
  have q := rGet_q hb (t := k) (by omega)
  unfold rZSCORE
  have eN := p_108 [110, 117, 109, 98, 101, 114]
  have eL := p_108 [108, 111, 110, 103]
  have eP := p_108 [112, 108, 97, 99, 101]
  have eO := p_108 [110, 111, 110, 101]
  have no := p_129
  generalize rGet b k = e at *
  obtain ⟨key, till, kind, text, list, scores, fields⟩ := e
  obtain ⟨q1, q2, q3, q4, q5, q6, q7, q8, q9, q10⟩ := q
  dsimp only [withList, withScores, withFields, withText] at *
  have ri := rRank_in scores t
  have pr := p_150 scores t (by omega)
  by_cases a : rRank scores t < 0
  · generalize rRank scores t = r at *
    have a' : ¬ (0 : Int) ≤ r := by omega
    simp (maxSteps := 1000000) [evL, -List.getD_eq_getElem?_getD, -List.map_map, f113, p1, eN, eL, eP, eO, no, pairD, pr, eq_true a, noneRe]
  · generalize rRank scores t = r at *
    obtain ⟨j, rfl⟩ : ∃ j : Nat, r = (j : Int) := ⟨r.toNat, by omega⟩
    have c : (j : Int) < (scores.length : Int) := by omega
    have c' : j < scores.length := by omega
    have c0 : ¬ (j : Int) < 0 := by omega
    have c1 : (0 : Int) ≤ (j : Int) := by omega
    have g := scs_get' scores j c'
    try rw [Int.toNat_natCast] at *
    have p2 := p_131 (scores.getD j ([], 0)).2
    generalize scores.getD j ([], 0) = s at *
    simp (maxSteps := 1000000) [evL, -List.getD_eq_getElem?_getD, -List.map_map, f113, p1, eN, eL, eP, eO, no, pairD, pr, c, c', c0, c1, g, p2, intRe]
theorem p_113_ZRANK (b : Ba) (k : Txt) (t : Txt) (hb : BaG b) (hk : k.length ≤ 40) (ht : t.length ≤ 40) : pureCall (ev R) 113 [.d (baD b), .d (txts ([[90, 82, 65, 78, 75], k, t]))] = some (pairD (rZRANK b k t)) := pureCall_eq fun H => by
  refine ev_fn (fn := f113) rfl rfl ?_
  have p1 := p_47 b k hb.sm
  have q := rGet_q hb (t := k) (by omega)
  unfold rZRANK
  have eN := p_108 [110, 117, 109, 98, 101, 114]
  have eL := p_108 [108, 111, 110, 103]
  have eP := p_108 [112, 108, 97, 99, 101]
  have eO := p_108 [110, 111, 110, 101]
  have no := p_129
  generalize rGet b k = e at *
  obtain ⟨key, till, kind, text, list, scores, fields⟩ := e
  obtain ⟨q1, q2, q3, q4, q5, q6, q7, q8, q9, q10⟩ := q
  dsimp only [withList, withScores, withFields, withText] at *
  have ri := rRank_in scores t
  have pr := p_150 scores t (by omega)
  by_cases a : rRank scores t < 0
  · generalize rRank scores t = r at *
    have a' : ¬ (0 : Int) ≤ r := by omega
    simp (maxSteps := 1000000) [evL, -List.getD_eq_getElem?_getD, -List.map_map, f113, p1, eN, eL, eP, eO, no, pairD, pr, eq_true a, noneRe]
  · generalize rRank scores t = r at *
    obtain ⟨j, rfl⟩ : ∃ j : Nat, r = (j : Int) := ⟨r.toNat, by omega⟩
    have c : (j : Int) < (scores.length : Int) := by omega
    have c' : j < scores.length := by omega
    have c0 : ¬ (j : Int) < 0 := by omega
    have c1 : (0 : Int) ≤ (j : Int) := by omega
    have g := scs_get' scores j c'
    try rw [Int.toNat_natCast] at *
    have p2 := p_131 j
    simp (maxSteps := 1000000) [evL, -List.getD_eq_getElem?_getD, -List.map_map, f113, p1, eN, eL, eP, eO, no, pairD, pr, c, c', c0, c1, g, p2, intRe]
theorem p_113_ZADD (b : Ba) (k : Txt) (n : Txt) (t : Txt) (hb : BaG b) (hk : k.length ≤ 40) (hn : n.length ≤ 40) (ht : t.length ≤ 40) : pureCall (ev R) 113 [.d (baD b), .d (txts ([[90, 65, 68, 68], k, n, t]))] = some (pairD (rZADD b k n t)) := pureCall_eq fun H => by
  refine ev_fn (fn := f113) rfl rfl ?_
  have p1 := p_47 b k hb.sm
  have q := rGet_q hb (t := k) (by omega)
  unfold rZADD
  have eN := p_108 [110, 117, 109, 98, 101, 114]
  have eL := p_108 [108, 111, 110, 103]
  have eP := p_108 [112, 108, 97, 99, 101]
  have eO := p_108 [110, 111, 110, 101]
  have no := p_129
  generalize rGet b k = e at *
  obtain ⟨key, till, kind, text, list, scores, fields⟩ := e
  obtain ⟨q1, q2, q3, q4, q5, q6, q7, q8, q9, q10⟩ := q
  dsimp only [withList, withScores, withFields, withText] at *
  have i0 := intV_in n
  have pi0 := p_133 n (by omega)
  generalize intV n = I0 at *
  obtain ⟨n0, o0⟩ := I0
  dsimp only at *
  have vq := vZPut_q scores (t, n0) ⟨q5, q6⟩
  have pv := v_126 scores (t, n0) (by omega)
  generalize vZPut scores (t, n0) = V at *
  obtain ⟨vl, vf, vo⟩ := V
  dsimp only at *
  have q : EnQ ⟨key, till, 4, text, list, vl, fields⟩ := ⟨q1, q2, q3, q4, vq.1, vq.2, q7, q8, q9, by dsimp only; omega⟩
  have pr := p_150 scores t (by omega)
  have p2 := p_144 vf
  have p3 := p_132 b _ (boolRe vf) hb.sm q.sm q.fit
  generalize rKeep b ⟨key, till, 4, text, list, vl, fields⟩ (boolRe vf) = P at *
  generalize rRank scores t = r at *
  cases o0
  · simp (maxSteps := 1000000) [evL, -List.getD_eq_getElem?_getD, -List.map_map, f113, p1, eN, eL, eP, eO, no, pairD, pi0, errRe]
  · cases vo
    · simp (maxSteps := 1000000) [evL, -List.getD_eq_getElem?_getD, -List.map_map, f113, p1, eN, eL, eP, eO, no, pairD, pi0, pr, pv, errRe]
    · simp (maxSteps := 1000000) [evL, -List.getD_eq_getElem?_getD, -List.map_map, f113, p1, eN, eL, eP, eO, no, pairD, pi0, pr, pv, p2, p3]
theorem sumZ_in (xs : List Sc) (t : Txt) (n : Int) (hx : ScQ xs) (hn : -1000000000 ≤ n ∧ n ≤ 1000000000) : -3000000000 ≤ sumZ xs t n ∧ sumZ xs t n ≤ 3000000000 := by
  unfold sumZ
  split
  · omega
  · rename_i h
    have := rRank_in xs t
    have := hx.2 _ (getD_in (xs := xs) (i := (rRank xs t).toNat) (d := ([], 0)) (by omega))
    omega
theorem p_113_ZINCRBY (b : Ba) (k : Txt) (n : Txt) (t : Txt) (hb : BaG b) (hk : k.length ≤ 40) (hn : n.length ≤ 40) (ht : t.length ≤ 40) : pureCall (ev R) 113 [.d (baD b), .d (txts ([[90, 73, 78, 67, 82, 66, 89], k, n, t]))] = some (pairD (rZINCRBY b k n t)) := pureCall_eq fun H => by
  refine ev_fn (fn := f113) rfl rfl ?_
  have p1 := p_47 b k hb.sm
  have q := rGet_q hb (t := k) (by omega)
  unfold rZINCRBY
  have eN := p_108 [110, 117, 109, 98, 101, 114]
  have eL := p_108 [108, 111, 110, 103]
  have eP := p_108 [112, 108, 97, 99, 101]
  have eO := p_108 [110, 111, 110, 101]
  have no := p_129
  generalize rGet b k = e at *
  obtain ⟨key, till, kind, text, list, scores, fields⟩ := e
  obtain ⟨q1, q2, q3, q4, q5, q6, q7, q8, q9, q10⟩ := q
  dsimp only [withList, withScores, withFields, withText] at *
  have i0 := intV_in n
  have pi0 := p_133 n (by omega)
  generalize intV n = I0 at *
  obtain ⟨n0, o0⟩ := I0
  dsimp only at *
  have si := sumZ_in scores t n0 ⟨q5, q6⟩ i0
  have hs : ∀ j : Nat, rRank scores t = (j : Int) → sumZ scores t n0 = n0 + (scores.getD j ([], 0)).2 := fun j hj => by unfold sumZ; rw [hj, Int.toNat_natCast, if_neg (by omega)]
  have hs0 : rRank scores t < 0 → sumZ scores t n0 = n0 := fun h => by unfold sumZ; rw [if_pos h]
  have pv0 := v_126 scores (t, sumZ scores t n0) (by omega)
  have vq := vZPut_q scores (t, sumZ scores t n0) ⟨q5, q6⟩
  have pi2 := p_131 (sumZ scores t n0)
  generalize sumZ scores t n0 = S at *
  generalize vZPut scores (t, S) = V at *
  obtain ⟨vl, vf, vo⟩ := V
  dsimp only at *
  have q : EnQ ⟨key, till, 4, text, list, vl, fields⟩ := ⟨q1, q2, q3, q4, vq.1, vq.2, q7, q8, q9, by dsimp only; omega⟩
  have p3 := p_132 b _ (intRe S) hb.sm q.sm q.fit
  generalize rKeep b ⟨key, till, 4, text, list, vl, fields⟩ (intRe S) = P at *
  unfold intRe at p3
  have ri := rRank_in scores t
  have pr := p_150 scores t (by omega)
  cases o0
  · simp (maxSteps := 1000000) [evL, -List.getD_eq_getElem?_getD, -List.map_map, f113, p1, eN, eL, eP, eO, no, pairD, pi0, errRe]
  by_cases a : rRank scores t < 0
  · generalize rRank scores t = r at *
    have a' : ¬ (0 : Int) ≤ r := by omega
    have hs1 := hs0 a
    subst hs1
    cases vo
    · simp (maxSteps := 1000000) [evL, -List.getD_eq_getElem?_getD, -List.map_map, f113, p1, eN, eL, eP, eO, no, pairD, pi0, pr, eq_true a, a', pv0, errRe]
    · simp (maxSteps := 1000000) [evL, -List.getD_eq_getElem?_getD, -List.map_map, f113, p1, eN, eL, eP, eO, no, pairD, pi0, pr, eq_true a, a', pv0, pi2, p3]
  · generalize rRank scores t = r at *
    obtain ⟨j, rfl⟩ : ∃ j : Nat, r = (j : Int) := ⟨r.toNat, by omega⟩
    have hs1 := hs j rfl
    have c : (j : Int) < (scores.length : Int) := by omega
    have c' : j < scores.length := by omega
    have c0 : ¬ (j : Int) < 0 := by omega
    have c1 : (0 : Int) ≤ (j : Int) := by omega
    have g := scs_get' scores j c'
    try rw [Int.toNat_natCast] at *
    have w : IntKind.i64.wrap (n0 + (scores.getD j ([], 0)).2) = S := by rw [← hs1]; exact IntWalk.i64_in _ (by omega)
    generalize scores.getD j ([], 0) = s at *
    cases vo
    · simp (maxSteps := 1000000) [evL, -List.getD_eq_getElem?_getD, -List.map_map, f113, p1, eN, eL, eP, eO, no, pairD, pi0, pr, c, c', c0, c1, g, w, pv0, errRe]
    · simp (maxSteps := 1000000) [evL, -List.getD_eq_getElem?_getD, -List.map_map, f113, p1, eN, eL, eP, eO, no, pairD, pi0, pr, c, c', c0, c1, g, w, pv0, pi2, p3]
theorem p_113_ZRANGE (b : Ba) (k : Txt) (n : Txt) (m : Txt) (hb : BaG b) (hk : k.length ≤ 40) (hn : n.length ≤ 40) (hm : m.length ≤ 40) : pureCall (ev R) 113 [.d (baD b), .d (txts ([[90, 82, 65, 78, 71, 69], k, n, m]))] = some (pairD (rZRANGE b k n m)) := pureCall_eq fun H => by
  refine ev_fn (fn := f113) rfl rfl ?_
  have p1 := p_47 b k hb.sm
  have q := rGet_q hb (t := k) (by omega)
  unfold rZRANGE
  have eN := p_108 [110, 117, 109, 98, 101, 114]
  have eL := p_108 [108, 111, 110, 103]
  have eP := p_108 [112, 108, 97, 99, 101]
  have eO := p_108 [110, 111, 110, 101]
  have no := p_129
  generalize rGet b k = e at *
  obtain ⟨key, till, kind, text, list, scores, fields⟩ := e
  obtain ⟨q1, q2, q3, q4, q5, q6, q7, q8, q9, q10⟩ := q
  dsimp only [withList, withScores, withFields, withText] at *
  have i0 := intV_in n
  have pi0 := p_133 n (by omega)
  have i1 := intV_in m
  have pi1 := p_133 m (by omega)
  generalize intV n = I0 at *
  obtain ⟨n0, o0⟩ := I0
  generalize intV m = I1 at *
  obtain ⟨n1, o1⟩ := I1
  dsimp only at *
  have vq := vZAt_q scores n0 n1 ⟨q5, q6⟩
  have pv := v_152 scores n0 n1 (by omega)
  generalize vZAt scores n0 n1 = ZV at *
  have p4 := p_151 ZV (by have := vq.1; omega)
  have p2 := p_141 (rNames ZV)
  generalize rNames ZV = N at *
  cases o0 <;> cases o1
  · simp (maxSteps := 1000000) [evL, -List.getD_eq_getElem?_getD, -List.map_map, f113, p1, eN, eL, eP, eO, no, pairD, pi0, pi1, errRe]
  · simp (maxSteps := 1000000) [evL, -List.getD_eq_getElem?_getD, -List.map_map, f113, p1, eN, eL, eP, eO, no, pairD, pi0, pi1, errRe]
  · simp (maxSteps := 1000000) [evL, -List.getD_eq_getElem?_getD, -List.map_map, f113, p1, eN, eL, eP, eO, no, pairD, pi0, pi1, errRe]
  · simp (maxSteps := 1000000) [evL, -List.getD_eq_getElem?_getD, -List.map_map, f113, p1, eN, eL, eP, eO, no, pairD, pi0, pi1, pv, p4, p2, textsRe]
theorem p_113_ZRANGEBYSCORE (b : Ba) (k : Txt) (n : Txt) (m : Txt) (hb : BaG b) (hk : k.length ≤ 40) (hn : n.length ≤ 40) (hm : m.length ≤ 40) : pureCall (ev R) 113 [.d (baD b), .d (txts ([[90, 82, 65, 78, 71, 69, 66, 89, 83, 67, 79, 82, 69], k, n, m]))] = some (pairD (rZRANGEBYSCORE b k n m)) := pureCall_eq fun H => by
  refine ev_fn (fn := f113) rfl rfl ?_
  have p1 := p_47 b k hb.sm
  have q := rGet_q hb (t := k) (by omega)
  unfold rZRANGEBYSCORE
  have eN := p_108 [110, 117, 109, 98, 101, 114]
  have eL := p_108 [108, 111, 110, 103]
  have eP := p_108 [112, 108, 97, 99, 101]
  have eO := p_108 [110, 111, 110, 101]
  have no := p_129
  generalize rGet b k = e at *
  obtain ⟨key, till, kind, text, list, scores, fields⟩ := e
  obtain ⟨q1, q2, q3, q4, q5, q6, q7, q8, q9, q10⟩ := q
  dsimp only [withList, withScores, withFields, withText] at *
  have i0 := intV_in n
  have pi0 := p_133 n (by omega)
  have i1 := intV_in m
  have pi1 := p_133 m (by omega)
  generalize intV n = I0 at *
  obtain ⟨n0, o0⟩ := I0
  generalize intV m = I1 at *
  obtain ⟨n1, o1⟩ := I1
  dsimp only at *
  have vq := rBy_q scores n0 n1 ⟨q5, q6⟩
  have pv := p_153 scores n0 n1 (by omega)
  generalize rBy scores n0 n1 = ZV at *
  have p4 := p_151 ZV (by have := vq.1; omega)
  have p2 := p_141 (rNames ZV)
  generalize rNames ZV = N at *
  cases o0 <;> cases o1
  · simp (maxSteps := 1000000) [evL, -List.getD_eq_getElem?_getD, -List.map_map, f113, p1, eN, eL, eP, eO, no, pairD, pi0, pi1, errRe]
  · simp (maxSteps := 1000000) [evL, -List.getD_eq_getElem?_getD, -List.map_map, f113, p1, eN, eL, eP, eO, no, pairD, pi0, pi1, errRe]
  · simp (maxSteps := 1000000) [evL, -List.getD_eq_getElem?_getD, -List.map_map, f113, p1, eN, eL, eP, eO, no, pairD, pi0, pi1, errRe]
  · simp (maxSteps := 1000000) [evL, -List.getD_eq_getElem?_getD, -List.map_map, f113, p1, eN, eL, eP, eO, no, pairD, pi0, pi1, pv, p4, p2, textsRe]
end Go.Proofs.YtjdmiodinhlchaaGreat.Code

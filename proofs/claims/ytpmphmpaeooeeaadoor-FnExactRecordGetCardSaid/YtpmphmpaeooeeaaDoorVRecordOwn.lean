/- Whole records: the reader under test, whose rows are handed over. -/
import Derived.Test.YtpmphmpaeooeeaaDoorVRecordRead
namespace Go.Proofs.YtpmphmpaeooeeaaDoor.Code
open Go Go.Ev Go.Proofs
set_option maxRecDepth 100000
set_option linter.unusedSimpArgs false
set_option linter.unusedVariables false
theorem hget_is : ∀ (H : Hp) (r : Nat), hget H r = H[r]?
  | [], _ => rfl
  | o :: H, 0 => rfl
  | o :: H, r + 1 => by simp only [hget, List.getElem?_cons_succ, hget_is H r]
theorem hset_is : ∀ (H : Hp) (r : Nat) (o : Ev.Obj), hset H r o = H.set r o
  | [], _, _ => rfl
  | x :: H, 0, _ => rfl
  | x :: H, r + 1, o => by simp only [hset, List.set_cons_succ, hset_is H r]
theorem e16_ok (H : Hp) (s : Txt) (hs : s.length ≤ 1000000000) (h : ¬ ordN s < 1) : ev R 16 [.d (.str s)] H = some (.tup [.slc (hlen H) 0 0 (ordX s).length, .d (.int .i64 (ordN s))], hpush H (rowT 0 (ordX s))) := by
  rw [e16 H s hs]
  unfold v16
  cases hq : pOrder s with
  | ok xs r =>
    have : ordX s = xs := by unfold ordX; rw [hq]
    rw [this]
  | short =>
    have : ordN s = 0 := by unfold ordN; rw [hq]
    omega
  | bad =>
    have : ordN s = -1 := by unfold ordN; rw [hq]
    omega
theorem e16_bad (H : Hp) (s : Txt) (hs : s.length ≤ 1000000000) : ∃ v X, ev R 16 [.d (.str s)] H = some (.tup [v, .d (.int .i64 (ordN s))], X) ∧ ((v = .d (.vals 1 []) ∧ X = H) ∨ (∃ k o, v = .slc (hlen H) 0 0 k ∧ X = hpush H o)) := by
  rw [e16 H s hs]
  unfold v16
  cases hq : pOrder s with
  | ok xs r => exact ⟨_, _, rfl, .inr ⟨_, _, rfl, rfl⟩⟩
  | short => exact ⟨_, _, rfl, .inl ⟨rfl, rfl⟩⟩
  | bad => exact ⟨_, _, rfl, .inl ⟨rfl, rfl⟩⟩
def refs2 (k : Nat) : List (List Txt) → List V
  | [] => []
  | x :: r => .slc k 0 0 x.length :: refs2 (k + 2) r
def tailO (k : Nat) : List (List Txt) → Hp
  | [] => []
  | x :: r => rowT 0 x :: .row 0 1 [.slc k 0 0 x.length] :: tailO (k + 2) r
theorem refs2_len : ∀ (xss : List (List Txt)) (k : Nat), (refs2 k xss).length = xss.length
  | [], _ => rfl
  | x :: r, k => by simp [refs2, refs2_len r]
theorem tailO_len : ∀ (xss : List (List Txt)) (k : Nat), (tailO k xss).length = 2 * xss.length
  | [], _ => rfl
  | x :: r, k => by simp [tailO, tailO_len r]; omega
theorem refs2_snoc : ∀ (acc : List (List Txt)) (k : Nat) (x : List Txt), refs2 k (acc ++ [x]) = refs2 k acc ++ [.slc (k + 2 * acc.length) 0 0 x.length]
  | [], k, x => rfl
  | y :: r, k, x => by
    simp only [List.cons_append, refs2, refs2_snoc r, List.length_cons, List.cons.injEq, true_and]
    rw [show k + 2 + 2 * r.length = k + 2 * (r.length + 1) by omega]
theorem tailO_snoc : ∀ (acc : List (List Txt)) (k : Nat) (x : List Txt), tailO k (acc ++ [x]) = tailO k acc ++ [rowT 0 x, .row 0 1 [.slc (k + 2 * acc.length) 0 0 x.length]]
  | [], k, x => rfl
  | y :: r, k, x => by
    simp only [List.cons_append, tailO, tailO_snoc r, List.length_cons, List.cons.injEq, true_and]
    rw [show k + 2 + 2 * r.length = k + 2 * (r.length + 1) by omega]
theorem tailO_get : ∀ (xss : List (List Txt)) (k j : Nat), j < xss.length → (tailO k xss)[2 * j]? = some (rowT 0 (xss.getD j []))
  | x :: r, k, 0, _ => rfl
  | x :: r, k, j + 1, h => by
    simp only [List.length_cons] at h
    have := tailO_get r (k + 2) j (by omega)
    rw [show 2 * (j + 1) = 2 * j + 1 + 1 by omega]
    simpa only [tailO, List.getElem?_cons_succ, List.getD_cons_succ] using this
/-- The heap in the loop: the head's list, the list of lists, and the lists, each with the literal that it was added by. -/
def recH (H : Hp) (hd : List Txt) (g : Nat) (acc : List (List Txt)) : Hp := (hpush (hpush H (rowT 0 hd)) (.row g 1 (refs2 (hlen H + 2) acc)) : List Ev.Obj) ++ tailO (hlen H + 2) acc
theorem recH_nil (H : Hp) (hd : List Txt) : hpush (hpush H (rowT 0 hd)) (.row 0 1 []) = recH H hd 0 [] := by
  simp [recH, tailO, refs2]
theorem recH_len (H : Hp) (hd : List Txt) (g : Nat) (acc : List (List Txt)) : hlen (recH H hd g acc) = hlen H + 2 + 2 * acc.length := by
  simp [recH, hlen, hpush, tailO_len]
  omega
theorem recH_take (H : Hp) (hd : List Txt) (g : Nat) (acc : List (List Txt)) (T : Hp) : htake ((recH H hd g acc : List Ev.Obj) ++ T) (hlen H) = H := by
  simp [recH, hlen, hpush, htake]
theorem recH_row (H : Hp) (hd : List Txt) (g : Nat) (acc : List (List Txt)) : rowOf (recH H hd g acc) (hlen H + 1) g = some (1, refs2 (hlen H + 2) acc) := by
  simp [rowOf, hget_is, recH, hpush, hlen]
theorem recH_at (H : Hp) (hd : List Txt) (g : Nat) (acc : List (List Txt)) (j : Nat) (hj : j < acc.length) : rowOf (recH H hd g acc) (hlen H + 2 + 2 * j) 0 = some (1, dat (acc.getD j [])) := by
  have h := tailO_get acc (hlen H + 2) j hj
  have e : (recH H hd g acc)[hlen H + 2 + 2 * j]? = some (rowT 0 (acc.getD j [])) := by
    rw [recH, List.getElem?_append_right (by simp [hpush, hlen] <;> omega)]
    rw [← h]
    congr 1
    simp [hpush, hlen] <;> omega
  simp only [rowOf, hget_is, e, rowT_is]
  simp
theorem recH_set (H : Hp) (hd : List Txt) (g : Nat) (acc : List (List Txt)) (x : List Txt) (K : Nat) (hK : K = hlen H + 2 + 2 * acc.length) :
    hset (hpush (hpush (recH H hd g acc) (rowT 0 x)) (.row 0 1 [.slc K 0 0 x.length])) (hlen H + 1) (.row (g + 1) 1 (refs2 (hlen H + 2) acc ++ [.slc K 0 0 x.length])) = recH H hd (g + 1) (acc ++ [x]) := by
  subst hK
  rw [hset_is]
  simp only [recH, hpush, refs2_snoc, tailO_snoc, List.append_assoc, List.cons_append, List.nil_append]
  rw [List.set_append_right _ _ (by simp [hlen])]
  have : hlen H + 1 - H.length = 1 := by simp only [hlen]; omega
  rw [this]
  simp
/-- Lists handed over: their rows, and the row of them. -/
def nestH (H : Hp) (xss : List (List Txt)) : Hp := hpush ((H : List Ev.Obj) ++ xss.map (rowT 0)) (.row 0 1 (refs1 (hlen H) xss))
theorem nestH_nest (H : Hp) (xss : List (List Txt)) : Nest (nestH H xss) (hlen H) xss := by
  refine ⟨fun j hj => ?_, ?_⟩
  · have e : (nestH H xss)[hlen H + j]? = some (rowT 0 (xss.getD j [])) := by
      simp only [nestH, hpush]
      rw [List.append_assoc, List.getElem?_append_right (by simp [hlen])]
      have : hlen H + j - H.length = j := by simp only [hlen]; omega
      rw [this, List.getElem?_append_left (by simpa using hj)]
      simp [List.getD_eq_getElem?_getD, hj]
    simp only [rowOf, hget_is, e, rowT_is]
    simp
  · have e : (nestH H xss)[hlen H + xss.length]? = some (.row 0 1 (refs1 (hlen H) xss)) := by
      simp only [nestH, hpush]
      rw [List.getElem?_append_right (by simp [hlen])]
      simp [hlen]
    simp only [rowOf, hget_is, e]
    simp
theorem nestH_below (H X : Hp) (xss yss : List (List Txt)) (k : Nat) (h : Nest X k yss) : Nest (nestH X xss) k yss := by
  have key : ∀ r g p, rowOf X r g = some p → rowOf (nestH X xss) r g = some p := by
    intro r g p hr
    have hl := rowOf_lt hr
    unfold rowOf at hr ⊢
    have e : hget (nestH X xss) r = hget X r := by
      rw [hget_is, hget_is]
      simp only [nestH, hpush]
      simp only [hlen] at hl
      rw [List.append_assoc, List.getElem?_append_left hl]
    rw [e]; exact hr
  exact ⟨fun j hj => key _ _ _ (h.1 j hj), key _ _ _ h.2⟩
theorem allD_dat (x : List Txt) : allD (dat x) = some (x.map D.str) := allD_d _
theorem own_refs (n : Nat) (f : Hp → Hp → V → Option (V × Hp × Hp)) : ∀ (xss : List (List Txt)) (k : Nat) (X base : Hp), n ≤ k → (∀ j, j < xss.length → rowOf X (k + 2 * j) 0 = some (1, dat (xss.getD j []))) →
    ∃ X', ownEs (layer n (layer n (own1 n))) X base (refs2 k xss) = some (refs1 (hlen base) xss, X', (base : List Ev.Obj) ++ xss.map (rowT 0)) ∧ ∀ r g, r < k → rowOf X' r g = rowOf X r g
  | [], k, X, base, hk, h => ⟨X, by simp [refs2, ownEs, refs1], fun _ _ _ => rfl⟩
  | x :: r, k, X, base, hk, h => by
    have h0 := h 0 (by simp)
    simp only [Nat.mul_zero, Nat.add_zero, List.getD_cons_zero] at h0
    obtain ⟨X', h1, h2⟩ := own_refs n f r (k + 2) (hset X k .dead) (hpush base (rowT 0 x)) (by omega) (fun j hj => by
      have := h (j + 1) (by simp; omega)
      rw [rowOf_hset_ne _ (by omega), show k + 2 + 2 * j = k + 2 * (j + 1) by omega, this, List.getD_cons_succ])
    have hn : ¬ k < n := by omega
    have a := allD_dat x
    rw [hlen_hpush] at h1
    have e1 : own1 n X base (.slc k 0 0 x.length) = some (.slc (hlen base) 0 0 x.length, hset X k .dead, hpush base (rowT 0 x)) := by
      simp only [own1, hn, if_false, h0, a, rowT_is]
    have e2 : layer n (layer n (own1 n)) X base (.slc k 0 0 x.length) = some (.slc (hlen base) 0 0 x.length, hset X k .dead, hpush base (rowT 0 x)) := by
      rw [layer, e1]
    refine ⟨X', ?_, fun q g hq => by rw [h2 q g (by omega), rowOf_hset_ne _ (by omega)]⟩
    simp only [refs2, ownEs, ownEl, e2, h1, refs1]
    simp [hpush]
theorem own_rec (H : Hp) (hd : List Txt) (g : Nat) (xss : List (List Txt)) (a b : D) : ∃ X, ownL (hlen H) (recH H hd g xss) H [.d a, .slc (hlen H + 1) g 0 xss.length, .d b] = some ([.d a, .slc (hlen H + xss.length) 0 0 xss.length, .d b], X, nestH H xss) := by
  have hr := recH_row H hd g xss
  obtain ⟨X', h1, h2⟩ := own_refs (hlen H) (own1 (hlen H)) xss (hlen H + 2) (recH H hd g xss) H (by omega) (fun j hj => recH_at H hd g xss j hj)
  have hr2 := h2 (hlen H + 1) g (by omega)
  rw [hr] at hr2
  have hn : ¬ hlen H + 1 < hlen H := by omega
  have bl : hlen ((H : List Ev.Obj) ++ xss.map (rowT 0)) = hlen H + xss.length := by simp [hlen]
  have d1 : ∀ (X B : Hp) (x : D), ownEl (layer (hlen H) (layer (hlen H) (layer (hlen H) (own1 (hlen H))))) X B (.d x) = some (.d x, X, B) := fun X B x => by
    simp only [ownEl, layer, own1]
  have d2 : ∃ X, ownEl (layer (hlen H) (layer (hlen H) (layer (hlen H) (own1 (hlen H))))) (recH H hd g xss) H (.slc (hlen H + 1) g 0 xss.length) = some (.slc (hlen H + xss.length) 0 0 xss.length, X, nestH H xss) := by
    simp only [ownEl]
    rw [layer]
    cases hx : xss with
    | nil =>
      refine ⟨hset (recH H hd g []) (hlen H + 1) .dead, ?_⟩
      rw [hx] at hr
      simp only [own1, hn, if_false, hr, refs2, allD]
      simp [nestH, refs1]
    | cons y r =>
      rw [← hx]
      have al : allD (refs2 (hlen H + 2) xss) = none := by rw [hx]; rfl
      refine ⟨hset X' (hlen H + 1) .dead, ?_⟩
      simp only [own1, hn, if_false, hr, al, h1, hr2, bl]
      rfl
  obtain ⟨X, d2⟩ := d2
  refine ⟨X, ?_⟩
  simp only [ownL, ownEs, d1, d2]
/-- What the loop over the orders leaves: the reader under test's. -/
def Q20 (H : Hp) (hd : List Txt) (a : Int) (p : Option (List (List Txt) × Nat)) (o : Option (Out × St)) : Prop :=
  match p with
  | none => ∃ e' X, o = some (.ret, ⟨e', X⟩) ∧ htake X (hlen H) = H ∧ e'.get 2 = .d (.int .i64 0) ∧ e'.get 3 = .d (.vals 1 []) ∧ e'.get 4 = .d (.int .i64 0)
  | some (xss, k) => ∃ e' g, o = some (.exit 0, ⟨e', recH H hd g xss⟩) ∧ e'.get 6 = .d (.int .i64 k) ∧ e'.get 7 = .d (.int .i64 a) ∧ e'.get 11 = .slc (hlen H + 1) g 0 xss.length
theorem l20 (s : Txt) (hs : s.length ≤ 1000000000) (H : Hp) (hd : List Txt) (a : Int) (B : Nat) (hB : B ≤ 60) : ∀ (m i n g : Nat) (acc : List (List Txt)) (e : Env), i + m = B → acc.length + m ≤ 60 → n ≤ s.length → e.get 0 = .d (.str s) → e.get 6 = .d (.int .i64 n) → e.get 7 = .d (.int .i64 a) → e.get 11 = .slc (hlen H + 1) g 0 acc.length → e.get 65 = .d (.int .i64 B) → e.get 66 = .d (.int .i64 i) →
    Q20 H hd a (recGo s m n acc) (evLoop (evCode (ev R) R.glob (hlen H) evLoop f20l0) [0, 6, 7, 11, 65, 66] ⟨e, recH H hd g acc⟩)
  | 0, i, n, g, acc, e, hi, hl, hn, h0, h6, h7, h11, h65, h66 => by
    have c : ¬ (i : Int) < (B : Int) := by omega
    have c' : ¬ i < B := by omega
    rw [evLoop_eq, recGo]
    unfold Q20
    refine ⟨?_, g, ?_, ?_⟩
    rotate_left
    · simp [-List.getD_eq_getElem?_getD, -List.map_map, evBody, evCode, evOps, evOper, evOp, opd, Env.get, Env.put, Env.keep, zipEnv, V.ok, V.sto, V.cells, D.cells, V.isAgg, binD, binInt, binStr, shInt, unD, eqOf, asI, leave, resOf, mapO, fzV, tupOf, view, view1, isData, hand, flatV, flatD, allD, mkAgg, mkVal, beq_lit, IntKind.bits, htake_self, htake_push, hget_hpush_self, hset_push, rowOf_self, okIn, lowIn, lowIn1, fzC_d, fzC_row, f20l0, h0, h6, h7, h11, h65, h66, c, c']
      try rfl
    · simp [-List.getD_eq_getElem?_getD, -List.map_map, evBody, evCode, evOps, evOper, evOp, opd, Env.get, Env.put, Env.keep, zipEnv, V.ok, V.sto, V.cells, D.cells, V.isAgg, binD, binInt, binStr, shInt, unD, eqOf, asI, leave, resOf, mapO, fzV, tupOf, view, view1, isData, hand, flatV, flatD, allD, mkAgg, mkVal, beq_lit, IntKind.bits, htake_self, htake_push, hget_hpush_self, hset_push, rowOf_self, okIn, lowIn, lowIn1, fzC_d, fzC_row, h6, h7, h11]
  | m + 1, i, n, g, acc, e, hi, hl, hn, h0, h6, h7, h11, h65, h66 => by
    have c : (i : Int) < (B : Int) := by omega
    have c' : i < B := by omega
    have tl : s.take s.length = s := List.take_length
    have b1 : (0 : Int) ≤ (n : Int) := by omega
    have b2 : (n : Int) ≤ (s.length : Int) := by omega
    have w1 : IntKind.i64.wrap ((i : Int) + 1) = ((i + 1 : Nat) : Int) := by rw [IntWalk.i64_in _ (by omega)]; rfl
    have dn := drop_sub s n hn
    have on := ordN_in (s.drop n)
    have eo := e16_ok (recH H hd g acc) (s.drop n) (by simp; omega)
    have eb := e16_bad (recH H hd g acc) (s.drop n) (by simp; omega)
    rw [evLoop_eq, recGo]
    obtain ⟨k, hk⟩ : ∃ k, ordN (s.drop n) = k := ⟨_, rfl⟩
    obtain ⟨x, hx⟩ : ∃ x, ordX (s.drop n) = x := ⟨_, rfl⟩
    rw [hk] at eo eb dn on ⊢
    rw [hx] at eo ⊢
    by_cases d : k < 1
    · have d' : k ≤ 0 := by omega
      rw [if_pos d]
      unfold Q20
      have tk0 : htake (recH H hd g acc) (hlen H) = H := by simpa using recH_take H hd g acc []
      have tk1 : ∀ o, htake (hpush (recH H hd g acc) o) (hlen H) = H := fun o => recH_take H hd g acc [o]
      clear eo
      generalize recH H hd g acc = Y at *
      obtain ⟨v, X, p, ⟨rfl, rfl⟩ | ⟨kk, o, rfl, rfl⟩⟩ := eb
      · refine ⟨?_, X, ?_, tk0, ?_⟩
        rotate_left
        · simp [-List.getD_eq_getElem?_getD, -List.map_map, evBody, evCode, evOps, evOper, evOp, opd, Env.get, Env.put, Env.keep, zipEnv, V.ok, V.sto, V.cells, D.cells, V.isAgg, binD, binInt, binStr, shInt, unD, eqOf, asI, leave, resOf, mapO, fzV, tupOf, view, view1, isData, hand, flatV, flatD, allD, mkAgg, mkVal, beq_lit, IntKind.bits, htake_self, htake_push, hget_hpush_self, hset_push, rowOf_self, okIn, lowIn, lowIn1, fzC_d, fzC_row, f20l0, h0, h6, h7, h11, h65, h66, c, c', p, tl, b1, b2, hn, bound, d, d']
          try rfl
        · simp [-List.getD_eq_getElem?_getD, -List.map_map, evBody, evCode, evOps, evOper, evOp, opd, Env.get, Env.put, Env.keep, zipEnv, V.ok, V.sto, V.cells, D.cells, V.isAgg, binD, binInt, binStr, shInt, unD, eqOf, asI, leave, resOf, mapO, fzV, tupOf, view, view1, isData, hand, flatV, flatD, allD, mkAgg, mkVal, beq_lit, IntKind.bits, htake_self, htake_push, hget_hpush_self, hset_push, rowOf_self, okIn, lowIn, lowIn1, fzC_d, fzC_row]
      · have tk1 := tk1 o
        generalize hpush Y o = Y' at *
        refine ⟨?_, Y', ?_, tk1, ?_⟩
        rotate_left
        · simp [-List.getD_eq_getElem?_getD, -List.map_map, evBody, evCode, evOps, evOper, evOp, opd, Env.get, Env.put, Env.keep, zipEnv, V.ok, V.sto, V.cells, D.cells, V.isAgg, binD, binInt, binStr, shInt, unD, eqOf, asI, leave, resOf, mapO, fzV, tupOf, view, view1, isData, hand, flatV, flatD, allD, mkAgg, mkVal, beq_lit, IntKind.bits, htake_self, htake_push, hget_hpush_self, hset_push, rowOf_self, okIn, lowIn, lowIn1, fzC_d, fzC_row, f20l0, h0, h6, h7, h11, h65, h66, c, c', p, tl, b1, b2, hn, bound, d, d']
          try rfl
        · simp [-List.getD_eq_getElem?_getD, -List.map_map, evBody, evCode, evOps, evOper, evOp, opd, Env.get, Env.put, Env.keep, zipEnv, V.ok, V.sto, V.cells, D.cells, V.isAgg, binD, binInt, binStr, shInt, unD, eqOf, asI, leave, resOf, mapO, fzV, tupOf, view, view1, isData, hand, flatV, flatD, allD, mkAgg, mkVal, beq_lit, IntKind.bits, htake_self, htake_push, hget_hpush_self, hset_push, rowOf_self, okIn, lowIn, lowIn1, fzC_d, fzC_row]
    · have d' : ¬ k ≤ 0 := by omega
      have p := eo d
      rw [if_neg d]
      have w2 : IntKind.i64.wrap ((n : Int) + k) = ((n + k.toNat : Nat) : Int) := by rw [IntWalk.i64_in _ (by omega)]; omega
      have ih := l20 s hs H hd a B hB m (i + 1) (n + k.toNat) (g + 1) (acc ++ [x])
      have rs := recH_set H hd g acc x (hlen (recH H hd g acc)) (recH_len H hd g acc)
      have rr := rowOf_push (o := .row 0 1 [.slc (hlen (recH H hd g acc)) 0 0 x.length]) (rowOf_push (o := rowT 0 x) (recH_row H hd g acc))
      have al : (acc ++ [x]).length = acc.length + 1 := by simp
      have rl := refs2_len acc (hlen H + 2)
      rw [al] at ih
      have rm : (acc.length + 1) * 24 ≤ room := by unfold room; omega
      have bl : (hlen H).ble (hlen H + 1) = true := by simp
      generalize ((n + k.toNat : Nat) : Int) = n2 at *
      generalize refs2 (hlen H + 2) acc = vs at *
      generalize recGo s m (n + k.toNat) (acc ++ [x]) = RG at *
      generalize recH H hd (g + 1) (acc ++ [x]) = Y2 at *
      generalize hlen (recH H hd g acc) = K at *
      generalize recH H hd g acc = Y at *
      generalize hpush Y (rowT 0 x) = Y1 at *
      generalize evLoop (evCode (ev R) R.glob (hlen H) evLoop f20l0) [0, 6, 7, 11, 65, 66] = F at ih ⊢
      simp [-List.getD_eq_getElem?_getD, -List.map_map, evBody, evCode, evOps, evOper, evOp, opd, Env.get, Env.put, Env.keep, zipEnv, V.ok, V.sto, V.cells, D.cells, V.isAgg, binD, binInt, binStr, shInt, unD, eqOf, asI, leave, resOf, mapO, fzV, tupOf, view, view1, isData, hand, flatV, flatD, allD, mkAgg, mkVal, beq_lit, IntKind.bits, htake_self, htake_push, hget_hpush_self, hset_push, rowOf_self, okIn, lowIn, lowIn1, fzC_d, fzC_row, f20l0, h0, h6, h7, h11, h65, h66, c, c', p, tl, b1, b2, hn, bound, d, d', src, rl, rm, w1, w2, rr, rs, bl]
      refine ih _ (by omega) (by omega) (by omega) ?_ ?_ ?_ ?_ ?_ ?_ <;> rfl
theorem recGo_len (s : Txt) : ∀ (m n : Nat) (acc xss : List (List Txt)) (k : Nat), recGo s m n acc = some (xss, k) → xss.length = acc.length + m
  | 0, n, acc, xss, k, h => by
    simp only [recGo, Option.some.injEq, Prod.mk.injEq] at h
    rw [h.1]; rfl
  | m + 1, n, acc, xss, k, h => by
    rw [recGo] at h
    split at h
    · simp at h
    · have := recGo_len s m _ _ _ _ h
      rw [this, List.length_append, List.length_singleton]
      omega
theorem recX_tri (s : Txt) (d : ¬ ordN s < 1) {x0 x1 x2 : Txt} (e : ordX s = [x0, x1, x2]) : recX s = if x0 = [65, 84] then recTail s (ordN s).toNat (intV x1) (intV x2) else recBad := by
  unfold recX
  rw [if_neg d, e]
theorem recTail_bad (s : Txt) (n : Nat) (a b : Int × Bool) (h : ¬ (a.2 = true ∧ b.2 = true ∧ 0 ≤ a.1 ∧ a.1 ≤ 1000000 ∧ 1 ≤ b.1 ∧ b.1 ≤ 60)) : recTail s n a b = recBad := if_neg h
/-- What the reader under test says of a text, its rows handed over. -/
def v20 (H : Hp) (s : Txt) : V × Hp :=
  if (recX s).2.1 = [] then (.tup [.d (.int .i64 0), .d (.vals 1 []), .d (.int .i64 0)], H)
  else (.tup [.d (.int .i64 (recX s).1), .slc (hlen H + (recX s).2.1.length) 0 0 (recX s).2.1.length, .d (.int .i64 (recX s).2.2)], nestH H (recX s).2.1)
theorem v20_bad (H : Hp) (s : Txt) (h : recX s = recBad) : v20 H s = (.tup [.d (.int .i64 0), .d (.vals 1 []), .d (.int .i64 0)], H) := by
  unfold v20
  rw [h]
  rfl
theorem e20 (H : Hp) (s : Txt) (hs : s.length ≤ 1000000000) : ev R 20 [.d (.str s)] H = some (v20 H s) := by
  refine ev_fn (fn := f20) rfl rfl ?_
  have eo := e16_ok H s hs
  have eb := e16_bad H s hs
  have on := ordN_in s
  have sh := ordX_short s
  by_cases d : ordN s < 1
  · have hb : recX s = recBad := by unfold recX; rw [if_pos d]
    rw [v20_bad H s hb]
    have d' : ordN s ≤ 0 := by omega
    obtain ⟨v, X, p, ⟨rfl, rfl⟩ | ⟨kk, o, rfl, rfl⟩⟩ := eb
    · simp [-List.getD_eq_getElem?_getD, -List.map_map, evBody, evCode, evOps, evOper, evOp, opd, Env.get, Env.put, Env.keep, zipEnv, V.ok, V.sto, V.cells, D.cells, V.isAgg, binD, binInt, binStr, shInt, unD, eqOf, asI, leave, resOf, mapO, fzV, tupOf, view, view1, isData, hand, flatV, flatD, allD, mkAgg, mkVal, beq_lit, IntKind.bits, htake_self, htake_push, hget_hpush_self, hset_push, rowOf_self, okIn, lowIn, lowIn1, fzC_d, fzC_row, f20, p, d, d', ownL, ownCs, own1, ownEs, ownEl, layer]
    · simp [-List.getD_eq_getElem?_getD, -List.map_map, evBody, evCode, evOps, evOper, evOp, opd, Env.get, Env.put, Env.keep, zipEnv, V.ok, V.sto, V.cells, D.cells, V.isAgg, binD, binInt, binStr, shInt, unD, eqOf, asI, leave, resOf, mapO, fzV, tupOf, view, view1, isData, hand, flatV, flatD, allD, mkAgg, mkVal, beq_lit, IntKind.bits, htake_self, htake_push, hget_hpush_self, hset_push, rowOf_self, okIn, lowIn, lowIn1, fzC_d, fzC_row, f20, p, d, d', ownL, ownCs, own1, ownEs, ownEl, layer]
  · have d' : ¬ ordN s ≤ 0 := by omega
    have p := eo d
    clear eo eb
    by_cases l3 : (ordX s).length = 3
    · obtain ⟨x0, x1, x2, e⟩ : ∃ x0 x1 x2, ordX s = [x0, x1, x2] := by
        match ordX s, l3 with
        | [x0, x1, x2], _ => exact ⟨x0, x1, x2, rfl⟩
      have rx := recX_tri s d e
      rw [e] at p sh
      have r0 : rowOf (hpush H (rowT 0 [x0, x1, x2])) (hlen H) 0 = some (1, [.d (.str x0), .d (.str x1), .d (.str x2)]) := rowT_row rfl
      have ld0 : hload (hpush H (rowT 0 [x0, x1, x2])) (hlen H) 0 0 0 1 = some [.d (.str x0)] := by simp [hload, r0, V.cells, D.cells]
      have ld1 : hload (hpush H (rowT 0 [x0, x1, x2])) (hlen H) 0 1 0 1 = some [.d (.str x1)] := by simp [hload, r0, V.cells, D.cells]
      have ld2 : hload (hpush H (rowT 0 [x0, x1, x2])) (hlen H) 0 2 0 1 = some [.d (.str x2)] := by simp [hload, r0, V.cells, D.cells]
      have tk : htake (hpush H (rowT 0 [x0, x1, x2])) (hlen H) = H := htake_push _ _
      have hY : hlen (hpush H (rowT 0 [x0, x1, x2])) = hlen H + 1 := hlen_hpush _ _
      have eY : hpush (hpush H (rowT 0 [x0, x1, x2])) (.row 0 1 []) = recH H [x0, x1, x2] 0 [] := recH_nil H [x0, x1, x2]
      generalize hpush H (rowT 0 [x0, x1, x2]) = Y at *
      by_cases x0e : x0 = [65, 84]
      · rw [if_pos x0e] at rx
        subst x0e
        have s1 := sh x1 (by simp)
        have s2 := sh x2 (by simp)
        have p1 := pureCall_eq (cl := ev R) fun H => e51 H x1 (by omega)
        have p2 := pureCall_eq (cl := ev R) fun H => e51 H x2 (by omega)
        generalize intV x1 = A at p1 rx
        generalize intV x2 = B at p2 rx
        obtain ⟨a1, a2⟩ := A
        obtain ⟨b1, b2⟩ := B
        have q1 := p34 a1 0 1000000
        have q2 := p34 b1 1 60
        by_cases c0 : a2 = true ∧ b2 = true ∧ 0 ≤ a1 ∧ a1 ≤ 1000000 ∧ 1 ≤ b1 ∧ b1 ≤ 60
        · obtain ⟨rfl, rfl, c1, c2, c3, c4⟩ := c0
          obtain ⟨b, rfl⟩ := Int.eq_ofNat_of_zero_le (show 0 ≤ b1 by omega)
          obtain ⟨n, hn⟩ := Int.eq_ofNat_of_zero_le (show 0 ≤ ordN s by omega)
          rw [hn] at p d d' on rx
          have L := l20 s hs H [[65, 84], x1, x2] a1 b (by omega) b 0 n 0 [] [(0, .d (.str s)), (6, .d (.int .i64 n)), (7, .d (.int .i64 a1)), (11, .slc (hlen H + 1) 0 0 0), (65, .d (.int .i64 b)), (66, .d (.int .i64 0))] (by omega) (by simp; omega) (by omega) rfl rfl rfl rfl rfl rfl
          have c3' : 1 ≤ b := by omega
          have c4' : b ≤ 60 := by omega
          have d'' : ¬ n = 0 := by omega
          unfold recTail at rx
          rw [if_pos ⟨rfl, rfl, c1, c2, c3, c4⟩] at rx
          simp only [Int.toNat_natCast] at rx
          cases hr : recGo s b n [] with
          | none =>
            rw [hr] at L rx
            rw [v20_bad H s rx]
            obtain ⟨e', X, he, tX, g2, g3, g4⟩ := L
            simp [-List.getD_eq_getElem?_getD, -List.map_map, evBody, evCode, evOps, evOper, evOp, opd, Env.get, Env.put, Env.keep, zipEnv, V.ok, V.sto, V.cells, D.cells, V.isAgg, binD, binInt, binStr, shInt, unD, eqOf, asI, leave, resOf, mapO, fzV, tupOf, view, view1, isData, hand, flatV, flatD, allD, mkAgg, mkVal, beq_lit, IntKind.bits, htake_self, htake_push, hget_hpush_self, hset_push, rowOf_self, okIn, lowIn, lowIn1, fzC_d, fzC_row, f20, tri0, tri1, tri2, p, p1, p2, q1, q2, d, d', r0, ld0, ld1, ld2, tk, ownL, ownCs, own1, d'', c1, c2, c3, c4, c3', c4', hY, eY, he, tX, g2, g3, g4, ownEs, ownEl, layer]
          | some r =>
            obtain ⟨xss, k⟩ := r
            rw [hr] at L rx
            obtain ⟨e', g, he, g6, g7, g11⟩ := L
            have xl := recGo_len s b n [] xss k hr
            have xn : xss ≠ [] := by rintro rfl; simp at xl; omega
            obtain ⟨X, own⟩ := own_rec H [[65, 84], x1, x2] g xss (.int .i64 a1) (.int .i64 k)
            have tR : htake (recH H [[65, 84], x1, x2] g xss) (hlen H) = H := by simpa using recH_take H [[65, 84], x1, x2] g xss []
            have hv : v20 H s = (.tup [.d (.int .i64 a1), .slc (hlen H + xss.length) 0 0 xss.length, .d (.int .i64 k)], nestH H xss) := by
              unfold v20
              rw [rx]
              simp only
              rw [if_neg xn]
            rw [hv]
            generalize nestH H xss = NN at *
            generalize recH H [[65, 84], x1, x2] g xss = RR at *
            simp [-List.getD_eq_getElem?_getD, -List.map_map, evBody, evCode, evOps, evOper, evOp, opd, Env.get, Env.put, Env.keep, zipEnv, V.ok, V.sto, V.cells, D.cells, V.isAgg, binD, binInt, binStr, shInt, unD, eqOf, asI, leave, resOf, mapO, fzV, tupOf, view, view1, isData, hand, flatV, flatD, allD, mkAgg, mkVal, beq_lit, IntKind.bits, htake_self, htake_push, hget_hpush_self, hset_push, rowOf_self, okIn, lowIn, lowIn1, fzC_d, fzC_row, f20, tri0, tri1, tri2, p, p1, p2, q1, q2, d, d', r0, ld0, ld1, ld2, tk, d'', c1, c2, c3, c4, c3', c4', hY, eY, he, tR, g6, g7, g11, own]
        · have hb := recTail_bad s (ordN s).toNat (a1, a2) (b1, b2) c0
          rw [hb] at rx
          rw [v20_bad H s rx]
          clear hb
          cases a2 with
          | false => simp [-List.getD_eq_getElem?_getD, -List.map_map, evBody, evCode, evOps, evOper, evOp, opd, Env.get, Env.put, Env.keep, zipEnv, V.ok, V.sto, V.cells, D.cells, V.isAgg, binD, binInt, binStr, shInt, unD, eqOf, asI, leave, resOf, mapO, fzV, tupOf, view, view1, isData, hand, flatV, flatD, allD, mkAgg, mkVal, beq_lit, IntKind.bits, htake_self, htake_push, hget_hpush_self, hset_push, rowOf_self, okIn, lowIn, lowIn1, fzC_d, fzC_row, f20, tri0, tri1, tri2, p, p1, p2, q1, q2, d, d', r0, ld0, ld1, ld2, tk, ownL, ownCs, own1, ownEs, ownEl, layer]
          | true =>
            cases b2 with
            | false => simp [-List.getD_eq_getElem?_getD, -List.map_map, evBody, evCode, evOps, evOper, evOp, opd, Env.get, Env.put, Env.keep, zipEnv, V.ok, V.sto, V.cells, D.cells, V.isAgg, binD, binInt, binStr, shInt, unD, eqOf, asI, leave, resOf, mapO, fzV, tupOf, view, view1, isData, hand, flatV, flatD, allD, mkAgg, mkVal, beq_lit, IntKind.bits, htake_self, htake_push, hget_hpush_self, hset_push, rowOf_self, okIn, lowIn, lowIn1, fzC_d, fzC_row, f20, tri0, tri1, tri2, p, p1, p2, q1, q2, d, d', r0, ld0, ld1, ld2, tk, ownL, ownCs, own1, ownEs, ownEl, layer]
            | true =>
              by_cases c1 : 0 ≤ a1
              · by_cases c2 : a1 ≤ 1000000
                · by_cases c3 : 1 ≤ b1
                  · by_cases c4 : b1 ≤ 60
                    · exact absurd ⟨rfl, rfl, c1, c2, c3, c4⟩ c0
                    · simp [-List.getD_eq_getElem?_getD, -List.map_map, evBody, evCode, evOps, evOper, evOp, opd, Env.get, Env.put, Env.keep, zipEnv, V.ok, V.sto, V.cells, D.cells, V.isAgg, binD, binInt, binStr, shInt, unD, eqOf, asI, leave, resOf, mapO, fzV, tupOf, view, view1, isData, hand, flatV, flatD, allD, mkAgg, mkVal, beq_lit, IntKind.bits, htake_self, htake_push, hget_hpush_self, hset_push, rowOf_self, okIn, lowIn, lowIn1, fzC_d, fzC_row, f20, tri0, tri1, tri2, p, p1, p2, q1, q2, d, d', r0, ld0, ld1, ld2, tk, ownL, ownCs, own1, c1, c2, c3, c4, ownEs, ownEl, layer]
                  · simp [-List.getD_eq_getElem?_getD, -List.map_map, evBody, evCode, evOps, evOper, evOp, opd, Env.get, Env.put, Env.keep, zipEnv, V.ok, V.sto, V.cells, D.cells, V.isAgg, binD, binInt, binStr, shInt, unD, eqOf, asI, leave, resOf, mapO, fzV, tupOf, view, view1, isData, hand, flatV, flatD, allD, mkAgg, mkVal, beq_lit, IntKind.bits, htake_self, htake_push, hget_hpush_self, hset_push, rowOf_self, okIn, lowIn, lowIn1, fzC_d, fzC_row, f20, tri0, tri1, tri2, p, p1, p2, q1, q2, d, d', r0, ld0, ld1, ld2, tk, ownL, ownCs, own1, c1, c2, c3, ownEs, ownEl, layer]
                · simp [-List.getD_eq_getElem?_getD, -List.map_map, evBody, evCode, evOps, evOper, evOp, opd, Env.get, Env.put, Env.keep, zipEnv, V.ok, V.sto, V.cells, D.cells, V.isAgg, binD, binInt, binStr, shInt, unD, eqOf, asI, leave, resOf, mapO, fzV, tupOf, view, view1, isData, hand, flatV, flatD, allD, mkAgg, mkVal, beq_lit, IntKind.bits, htake_self, htake_push, hget_hpush_self, hset_push, rowOf_self, okIn, lowIn, lowIn1, fzC_d, fzC_row, f20, tri0, tri1, tri2, p, p1, p2, q1, q2, d, d', r0, ld0, ld1, ld2, tk, ownL, ownCs, own1, c1, c2, ownEs, ownEl, layer]
              · simp [-List.getD_eq_getElem?_getD, -List.map_map, evBody, evCode, evOps, evOper, evOp, opd, Env.get, Env.put, Env.keep, zipEnv, V.ok, V.sto, V.cells, D.cells, V.isAgg, binD, binInt, binStr, shInt, unD, eqOf, asI, leave, resOf, mapO, fzV, tupOf, view, view1, isData, hand, flatV, flatD, allD, mkAgg, mkVal, beq_lit, IntKind.bits, htake_self, htake_push, hget_hpush_self, hset_push, rowOf_self, okIn, lowIn, lowIn1, fzC_d, fzC_row, f20, tri0, tri1, tri2, p, p1, p2, q1, q2, d, d', r0, ld0, ld1, ld2, tk, ownL, ownCs, own1, c1, ownEs, ownEl, layer]
      · rw [if_neg x0e] at rx
        rw [v20_bad H s rx]
        simp [-List.getD_eq_getElem?_getD, -List.map_map, evBody, evCode, evOps, evOper, evOp, opd, Env.get, Env.put, Env.keep, zipEnv, V.ok, V.sto, V.cells, D.cells, V.isAgg, binD, binInt, binStr, shInt, unD, eqOf, asI, leave, resOf, mapO, fzV, tupOf, view, view1, isData, hand, flatV, flatD, allD, mkAgg, mkVal, beq_lit, IntKind.bits, htake_self, htake_push, hget_hpush_self, hset_push, rowOf_self, okIn, lowIn, lowIn1, fzC_d, fzC_row, f20, p, d, d', r0, ld0, ld1, ld2, tk, x0e, ownL, ownCs, own1, ownEs, ownEl, layer]
    · rw [v20_bad H s (recX_not s l3)]
      have l3' : ¬ ((ordX s).length : Int) = 3 := by omega
      simp [-List.getD_eq_getElem?_getD, -List.map_map, evBody, evCode, evOps, evOper, evOp, opd, Env.get, Env.put, Env.keep, zipEnv, V.ok, V.sto, V.cells, D.cells, V.isAgg, binD, binInt, binStr, shInt, unD, eqOf, asI, leave, resOf, mapO, fzV, tupOf, view, view1, isData, hand, flatV, flatD, allD, mkAgg, mkVal, beq_lit, IntKind.bits, htake_self, htake_push, hget_hpush_self, hset_push, rowOf_self, okIn, lowIn, lowIn1, fzC_d, fzC_row, f20, p, d, d', l3, l3', ownL, ownCs, own1, ownEs, ownEl, layer]
end Go.Proofs.YtpmphmpaeooeeaaDoor.Code

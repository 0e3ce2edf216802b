/- Lists of texts, drawn. -/
import Derived.Test.YtpmphmpaeooeeaaDoorVDec
import Derived.Test.YtpmphmpaeooeeaaDoorE29
namespace Go.Proofs.YtpmphmpaeooeeaaDoor.Code
open Go Go.Ev Go.Proofs
set_option maxRecDepth 100000
set_option linter.unusedSimpArgs false
set_option linter.unusedVariables false
def textsV (bs : List Int) : Nat → Int → List Txt
  | 0, _ => []
  | n + 1, p => textV bs p :: textsV bs n (p + 1)
theorem textsV_len (bs : List Int) : ∀ (n : Nat) (p : Int), (textsV bs n p).length = n
  | 0, _ => rfl
  | n + 1, p => by simp [textsV, textsV_len bs n (p + 1)]
/-- A row of texts. -/
def rowT (k : Nat) (ts : List Txt) : Ev.Obj := .row k 1 ((ts.map D.str).map V.d)
theorem hget_behind {H : Hp} {r : Nat} {o : Ev.Obj} {bs : List Int} {p : Int} (h : hget H r = some (rd bs p)) (q : Int) : hget (hpush (hset H r (rd bs q)) o) r = some (rd bs q) := by
  have hl := hget_lt h
  rw [hget_hpush_lt _ (by rw [hlen_hset]; exact hl), hget_hset_self _ hl]
theorem rowT_row {H : Hp} {k : Nat} {ts : List Txt} {n : Nat} (hn : n = hlen H) : rowOf (hpush H (rowT k ts)) n k = some (1, (ts.map D.str).map V.d) := by
  subst hn; exact rowOf_self _ _ _ _
theorem rowT_set {H : Hp} {k : Nat} {ts : List Txt} {t : Txt} {n : Nat} (hn : n = hlen H) (o : Ev.Obj) : hset (hpush H o) n (.row k 1 ((ts.map D.str).map V.d ++ [.d (.str t)])) = hpush H (rowT k (ts ++ [t])) := by
  subst hn
  rw [hset_push]
  simp [rowT]
theorem l73 (n0 : Nat) (H : Hp) (r : Nat) (bs : List Int) (p0 : Int) (h : hget H r = some (rd bs p0)) (hb : okBytes bs) : ∀ (n k : Nat) (ts : List Txt) (p : Int) (e : Env), n ≤ 1000 → ts.length + n ≤ 1000000 → 0 ≤ p → p + n ≤ 1000000000000 → e.get 0 = .ptr r 0 0 0 → e.get 5 = .slc (hlen H) k 0 ts.length → e.get 6 = .d (.int .i64 n) →
    ∃ e', evLoop (evCode (ev R) R.glob n0 evLoop f73l0) [0, 5, 6] ⟨e, hpush (hset H r (rd bs p)) (rowT k ts)⟩ = some (.exit 0, ⟨e', hpush (hset H r (rd bs (p + n))) (rowT (k + n) (ts ++ textsV bs n p))⟩) ∧ e'.get 5 = .slc (hlen H) (k + n) 0 (ts.length + n)
  | 0, k, ts, p, e, hn, hl, hp, hp2, h0, h5, h6 => by
    rw [evLoop_eq]
    refine ⟨?_, ?_, ?_⟩
    rotate_left
    · simp [-List.getD_eq_getElem?_getD, -List.map_map, evBody, evCode, evOps, evOper, evOp, opd, Env.get, Env.put, Env.keep, zipEnv, V.ok, V.sto, V.cells, D.cells, V.isAgg, binD, binInt, binStr, shInt, unD, eqOf, asI, leave, resOf, mapO, fzV, tupOf, view, view1, isData, hand, flatV, flatD, allD, mkAgg, mkVal, beq_lit, IntKind.bits, htake_self, htake_push, hget_hpush_self, hset_push, rowOf_self, okIn, lowIn, lowIn1, fzC_d, fzC_row, f73l0, h0, h5, h6, textsV]
      rfl
    · simp [-List.getD_eq_getElem?_getD, -List.map_map, evBody, evCode, evOps, evOper, evOp, opd, Env.get, Env.put, Env.keep, zipEnv, V.ok, V.sto, V.cells, D.cells, V.isAgg, binD, binInt, binStr, shInt, unD, eqOf, asI, leave, resOf, mapO, fzV, tupOf, view, view1, isData, hand, flatV, flatD, allD, mkAgg, mkVal, beq_lit, IntKind.bits, htake_self, htake_push, hget_hpush_self, hset_push, rowOf_self, okIn, lowIn, lowIn1, fzC_d, fzC_row, h5]
  | n + 1, k, ts, p, e, hn, hl, hp, hp2, h0, h5, h6 => by
    have c : (0 : Int) < ((n + 1 : Nat) : Int) := by omega
    have w1 : IntKind.i64.wrap (((n + 1 : Nat) : Int) - 1) = (n : Int) := by rw [IntWalk.i64_in _ (by omega)]; omega
    obtain ⟨m, hm⟩ : ∃ m : Int, ((n + 1 : Nat) : Int) = m := ⟨_, rfl⟩
    rw [hm] at c w1 h6
    have hg := hget_behind (o := rowT k ts) h p
    have q := e71 (hpush (hset H r (rd bs p)) (rowT k ts)) r bs p hg hb hp (by omega)
    have hl2 : hlen H = hlen (hset H r (rd bs (p + 1))) := (hlen_hset _ _ _).symm
    have hlt := hget_lt h
    have e1 : hset (hpush (hset H r (rd bs p)) (rowT k ts)) r (rd bs (p + 1)) = hpush (hset H r (rd bs (p + 1))) (rowT k ts) := by
      rw [hset_push_lt (by rw [hlen_hset]; exact hlt), hset_hset]
    rw [e1] at q
    have q2 := rowT_row (k := k) (ts := ts) hl2
    have q3 := rowT_set (k := k + 1) (ts := ts) (t := textV bs p) hl2 (rowT k ts)
    have rm : (ts.length + 1) * 16 ≤ room := by unfold room; omega
    have ih := l73 n0 H r bs p0 h hb n (k + 1) (ts ++ [textV bs p]) (p + 1)
    have r1 : p + ((n + 1 : Nat) : Int) = p + 1 + n := by omega
    have r2 : k + (n + 1) = k + 1 + n := by omega
    have r3 : ts ++ textsV bs (n + 1) p = (ts ++ [textV bs p]) ++ textsV bs n (p + 1) := by simp [textsV]
    have r4 : ts.length + (n + 1) = (ts ++ [textV bs p]).length + n := by simp; omega
    rw [r1, r2, r3, r4]
    generalize hpush (hset H r (rd bs (p + 1 + (n : Int)))) (rowT (k + 1 + n) (ts ++ [textV bs p] ++ textsV bs n (p + 1))) = HX at ih ⊢
    generalize hL : (ts ++ [textV bs p]).length = L at ih ⊢
    have hL' : L = ts.length + 1 := by rw [← hL]; simp
    generalize k + 1 + n = K at ih ⊢
    rw [evLoop_eq]
    generalize evLoop (evCode (ev R) R.glob n0 evLoop f73l0) [0, 5, 6] = F at ih ⊢
    subst hL'
    simp [-List.getD_eq_getElem?_getD, -List.map_map, evBody, evCode, evOps, evOper, evOp, opd, Env.get, Env.put, Env.keep, zipEnv, V.ok, V.sto, V.cells, D.cells, V.isAgg, binD, binInt, binStr, shInt, unD, eqOf, asI, leave, resOf, mapO, fzV, tupOf, view, view1, isData, hand, flatV, flatD, allD, mkAgg, mkVal, beq_lit, IntKind.bits, htake_self, htake_push, hget_hpush_self, hset_push, rowOf_self, okIn, lowIn, lowIn1, fzC_d, fzC_row, f73l0, h0, h5, h6, c, w1, q, q2, q3, rm, src]
    refine ih _ (by omega) (by omega) (by omega) (by omega) ?_ ?_ ?_ <;> rfl
theorem allD_d : ∀ (ds : List D), allD (ds.map V.d) = some ds
  | [] => rfl
  | d :: ds => by simp only [List.map_cons, allD, allD_d ds]
theorem e73 (H : Hp) (r : Nat) (bs : List Int) (p most : Int) (h : hget H r = some (rd bs p)) (hb : okBytes bs) (hp : 0 ≤ p) (hp2 : p ≤ 100000000000) (hm : 0 ≤ most ∧ most ≤ 900) :
    ev R 73 [.ptr r 0 0 0, .d (.int .i64 most)] H = some (.slc (hlen H) 0 0 (pickV bs p (most + 1)).toNat, hpush (hset H r (rd bs (p + 1 + (pickV bs p (most + 1)).toNat))) (rowT 0 (textsV bs (pickV bs p (most + 1)).toNat (p + 1)))) := by
  refine ev_fn (fn := f73) rfl rfl ?_
  obtain ⟨k0, k1⟩ := pickV_in bs p (most + 1) hb hp (by omega)
  have k1 := k1 (by omega)
  have w : IntKind.i64.wrap (most + 1) = most + 1 := IntWalk.i64_in _ (by omega)
  have hlt := hget_lt h
  have hg : hget (hpush H (.row 0 1 [])) r = some (rd bs p) := by rw [hget_hpush_lt _ hlt]; exact h
  have q := e45 (hpush H (.row 0 1 [])) r bs p (most + 1) hg hb hp (by omega)
  rw [hset_push_lt hlt] at q
  obtain ⟨N, hN⟩ : ∃ N, (pickV bs p (most + 1)).toNat = N := ⟨_, rfl⟩
  have hN' : pickV bs p (most + 1) = (N : Int) := by omega
  rw [hN]
  rw [hN'] at q
  obtain ⟨e', he, h5⟩ := l73 (hlen H) H r bs p h hb N 0 [] (p + 1) [(0, .ptr r 0 0 0), (5, .slc (hlen H) 0 0 0), (6, .d (.int .i64 N))] (by omega) (by simp; omega) (by omega) (by omega) rfl rfl rfl
  have hl2 : hlen H = hlen (hset H r (rd bs (p + 1 + (N : Int)))) := (hlen_hset _ _ _).symm
  have ht : htake (hpush (hset H r (rd bs (p + 1 + (N : Int)))) (rowT (0 + N) ([] ++ textsV bs N (p + 1)))) (hlen H) = hset H r (rd bs (p + 1 + (N : Int))) := by
    rw [hl2]; exact htake_push _ _
  have hr := rowT_row (H := hset H r (rd bs (p + 1 + (N : Int)))) (k := 0 + N) (ts := [] ++ textsV bs N (p + 1)) hl2
  have e0 : rowT 0 [] = .row 0 1 [] := rfl
  rw [e0] at he
  have a := allD_d ((([] : List Txt) ++ textsV bs N (p + 1)).map D.str)
  have hfin : hpush (hset H r (rd bs (p + 1 + (N : Int)))) (.row 0 1 (((([] : List Txt) ++ textsV bs N (p + 1)).map D.str).map V.d)) = hpush (hset H r (rd bs (p + 1 + (N : Int)))) (rowT 0 (textsV bs N (p + 1))) := rfl
  rw [← hfin]
  generalize hset H r (rd bs (p + 1 + (N : Int))) = X at he hl2 ht hr ⊢
  generalize ((([] : List Txt) ++ textsV bs N (p + 1)).map D.str).map V.d = xs at a hr ⊢
  generalize rowT (0 + N) ([] ++ textsV bs N (p + 1)) = o at he ht hr
  have nl : ¬ hlen H < hlen H := by omega
  have len : ([] : List Txt).length + N = N := by simp
  rw [len] at h5
  simp only [List.length_nil, Nat.zero_add] at hr h5 ⊢
  have hl3 := hl2.symm
  simp [-List.getD_eq_getElem?_getD, -List.map_map, evBody, evCode, evOps, evOper, evOp, opd, Env.get, Env.put, Env.keep, zipEnv, V.ok, V.sto, V.cells, D.cells, V.isAgg, binD, binInt, binStr, shInt, unD, eqOf, asI, leave, resOf, mapO, fzV, tupOf, view, view1, isData, hand, flatV, flatD, allD, mkAgg, mkVal, beq_lit, IntKind.bits, htake_self, htake_push, hget_hpush_self, hset_push, rowOf_self, okIn, lowIn, lowIn1, fzC_d, fzC_row, f73, w, q, he, h5, ht, hr, ownL, ownCs, own1, a, nl, hl3, ownEs, ownEl, layer]
/-- A list that grows to the most there may be, or one more. -/
def growV (bs : List Int) : Nat → Int → List Txt → List Txt × Int
  | 0, p, ts => (ts, p)
  | f + 1, p, ts => if (ts.length : Int) < 16 + pickV bs p 2 then growV bs f (p + 1) (ts ++ [[110] ++ decV ts.length]) else (ts, p + 1)
theorem rowT_fz {H X : Hp} (hl : hlen H = hlen X) (k : Nat) (ts : List Txt) : fzC (hlen H) (hpush X (rowT k ts)) (.slc (hlen H) k 0 ts.length) = some (.d (txts ts)) := by
  rw [hl]
  exact fzC_row X k 1 _ _ (by simp)
theorem rowT_take {H X : Hp} (hl : hlen H = hlen X) (o : Ev.Obj) : htake (hpush X o) (hlen H) = X := by
  rw [hl]; exact htake_push _ _
/-- Any list of texts, drawn. -/
def anyV (bs : List Int) (p : Int) : List Txt × Int :=
  if pickV bs (p + 1 + ((pickV bs p 7).toNat : Int)) 16 = 0 then (textsV bs (pickV bs p 7).toNat (p + 1) ++ [many [121] 41 []], p + 1 + ((pickV bs p 7).toNat : Int) + 1)
  else if pickV bs (p + 1 + ((pickV bs p 7).toNat : Int)) 16 = 1 then growV bs (18 - (pickV bs p 7).toNat) (p + 1 + ((pickV bs p 7).toNat : Int) + 1) (textsV bs (pickV bs p 7).toNat (p + 1))
  else (textsV bs (pickV bs p 7).toNat (p + 1), p + 1 + ((pickV bs p 7).toNat : Int) + 1)
end Go.Proofs.YtpmphmpaeooeeaaDoor.Code

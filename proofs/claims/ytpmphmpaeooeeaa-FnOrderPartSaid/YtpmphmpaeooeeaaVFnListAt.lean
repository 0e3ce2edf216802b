/- What FnListAt answers. -/
import Derived.Test.YtpmphmpaeooeeaaVTexts
import Derived.Test.YtpmphmpaeooeeaaVListAt
namespace Go.Proofs.Ytpmphmpaeooeeaa.Code
open Go Go.Ev Go.Proofs
set_option maxRecDepth 100000
set_option linter.unusedSimpArgs false
set_option linter.unusedVariables false
theorem l23 (n0 : Nat) (xs : List Txt) (hx : xs.length ≤ 9223372036854775807) (t : Txt) (H : Hp) : ∀ (n i : Nat) (e : Env), i + n = xs.length → e.get 0 = .d (txts xs) → e.get 1 = .d (.str t) → e.get 5 = .d (.int .i64 i) →
    ∃ e', evLoop (evCode (ev R) R.glob n0 evLoop f23l0) [0, 1, 5] ⟨e, H⟩ = some ((match seek (isAt t xs) n i with | some _ => .ret | none => .exit 0), ⟨e', H⟩) ∧
      (∀ j, seek (isAt t xs) n i = some j → e'.get 4 = .d (.bool true))
  | 0, i, e, hn, h0, h1, h5 => by
    have c : ¬ (i : Int) < (xs.length : Int) := by omega
    have c' : ¬ i < xs.length := by omega
    
    rw [evLoop_eq]
    refine ⟨?_, ?_, ?_⟩
    rotate_left
    · simp [-List.getD_eq_getElem?_getD, -List.map_map, evBody, evCode, evOps, evOper, evOp, opd, Env.get, Env.put, Env.keep, zipEnv, V.ok, V.sto, V.cells, D.cells, V.isAgg, binD, binInt, binStr, shInt, unD, eqOf, asI, leave, resOf, mapO, fzV, tupOf, view, view1, isData, hand, flatV, flatD, allD, mkAgg, mkVal, beq_lit, IntKind.bits, htake_self, htake_push, hget_hpush_self, hset_push, rowOf_self, okIn, lowIn, lowIn1, fzC_d, fzC_row, f23l0, h0, h1, h5, txts, c, c', seek]
      rfl
    · intro j hj; simp [seek] at hj
  | n + 1, i, e, hn, h0, h1, h5 => by
    have c : (i : Int) < (xs.length : Int) := by omega
    have c' : i < xs.length := by omega
    have g := txts_get xs i c'
    have w1 : IntKind.i64.wrap ((i : Int) + 1) = ((i + 1 : Nat) : Int) := by rw [IntWalk.i64_in _ (by omega)]; rfl
    
    have ih := l23 n0 xs hx t H n (i + 1)
    rw [evLoop_eq]
    generalize evLoop (evCode (ev R) R.glob n0 evLoop f23l0) [0, 1, 5] = F at ih ⊢
    by_cases hb : xs.getD i [] = t
    · subst hb
      refine ⟨?_, ?_, ?_⟩
      rotate_left
      · simp [-List.getD_eq_getElem?_getD, -List.map_map, evBody, evCode, evOps, evOper, evOp, opd, Env.get, Env.put, Env.keep, zipEnv, V.ok, V.sto, V.cells, D.cells, V.isAgg, binD, binInt, binStr, shInt, unD, eqOf, asI, leave, resOf, mapO, fzV, tupOf, view, view1, isData, hand, flatV, flatD, allD, mkAgg, mkVal, beq_lit, IntKind.bits, htake_self, htake_push, hget_hpush_self, hset_push, rowOf_self, okIn, lowIn, lowIn1, fzC_d, fzC_row, f23l0, h0, h1, h5, txts, c, c', g, seek, isAt]
        rfl
      · intro j hj
        simp [seek, isAt, -List.getD_eq_getElem?_getD] at hj
        try subst hj
        simp [-List.getD_eq_getElem?_getD, -List.map_map, evBody, evCode, evOps, evOper, evOp, opd, Env.get, Env.put, Env.keep, zipEnv, V.ok, V.sto, V.cells, D.cells, V.isAgg, binD, binInt, binStr, shInt, unD, eqOf, asI, leave, resOf, mapO, fzV, tupOf, view, view1, isData, hand, flatV, flatD, allD, mkAgg, mkVal, beq_lit, IntKind.bits, htake_self, htake_push, hget_hpush_self, hset_push, rowOf_self, okIn, lowIn, lowIn1, fzC_d, fzC_row]
    · have hb' : ¬ t = xs.getD i [] := fun h => hb h.symm
      have hs : seek (isAt t xs) (n + 1) i = seek (isAt t xs) n (i + 1) := by simp [seek, isAt, hb, -List.getD_eq_getElem?_getD]
      rw [hs]
      simp [-List.getD_eq_getElem?_getD, -List.map_map, evBody, evCode, evOps, evOper, evOp, opd, Env.get, Env.put, Env.keep, zipEnv, V.ok, V.sto, V.cells, D.cells, V.isAgg, binD, binInt, binStr, shInt, unD, eqOf, asI, leave, resOf, mapO, fzV, tupOf, view, view1, isData, hand, flatV, flatD, allD, mkAgg, mkVal, beq_lit, IntKind.bits, htake_self, htake_push, hget_hpush_self, hset_push, rowOf_self, okIn, lowIn, lowIn1, fzC_d, fzC_row, f23l0, h0, h1, h5, txts, c, c', g, w1, hb, hb']
      refine ih _ (by omega) ?_ ?_ ?_ <;> rfl
theorem e23 (H : Hp) (xs : List Txt) (t : Txt) (hx : xs.length ≤ 9223372036854775807) : ev R 23 [.d (txts xs), .d (.str t)] H = some (.d (.bool (seek (isAt t xs) xs.length 0).isSome), H) := by
  refine ev_fn (fn := f23) rfl rfl ?_
  obtain ⟨e', he, h1⟩ := l23 (hlen H) xs hx t H xs.length 0 [(0, .d (txts xs)), (1, .d (.str t)), (5, .d (.int .i64 0))] (by omega) rfl rfl rfl
  cases hr : seek (isAt t xs) xs.length 0 with
  | some j =>
    simp only [hr] at he
    simp [-List.getD_eq_getElem?_getD, -List.map_map, evBody, evCode, evOps, evOper, evOp, opd, Env.get, Env.put, Env.keep, zipEnv, V.ok, V.sto, V.cells, D.cells, V.isAgg, binD, binInt, binStr, shInt, unD, eqOf, asI, leave, resOf, mapO, fzV, tupOf, view, view1, isData, hand, flatV, flatD, allD, mkAgg, mkVal, beq_lit, IntKind.bits, htake_self, htake_push, hget_hpush_self, hset_push, rowOf_self, okIn, lowIn, lowIn1, fzC_d, fzC_row, f23, he, h1 j hr, hr]
  | none =>
    simp only [hr] at he
    simp [-List.getD_eq_getElem?_getD, -List.map_map, evBody, evCode, evOps, evOper, evOp, opd, Env.get, Env.put, Env.keep, zipEnv, V.ok, V.sto, V.cells, D.cells, V.isAgg, binD, binInt, binStr, shInt, unD, eqOf, asI, leave, resOf, mapO, fzV, tupOf, view, view1, isData, hand, flatV, flatD, allD, mkAgg, mkVal, beq_lit, IntKind.bits, htake_self, htake_push, hget_hpush_self, hset_push, rowOf_self, okIn, lowIn, lowIn1, fzC_d, fzC_row, f23, he, hr]
theorem growV_in (bs : List Int) : ∀ (f : Nat) (p : Int) (ts : List Txt), (growV bs f p ts).1.length ≤ ts.length + f ∧ p ≤ (growV bs f p ts).2 ∧ (growV bs f p ts).2 ≤ p + f
  | 0, p, ts => by simp [growV]
  | f + 1, p, ts => by
    simp only [growV]
    split
    · have := growV_in bs f (p + 1) (ts ++ [[110] ++ decV ts.length])
      simp only [List.length_append, List.length_singleton] at this
      omega
    · simp only; omega
theorem anyV_in (bs : List Int) (p : Int) (hb : okBytes bs) (hp : 0 ≤ p) (hp2 : p ≤ 10000000000) : (anyV bs p).1.length ≤ 18 ∧ p ≤ (anyV bs p).2 ∧ (anyV bs p).2 ≤ p + 30 := by
  obtain ⟨k0, k1⟩ := pickV_in bs p 7 hb hp (by omega)
  have k1 := k1 (by omega)
  have tl := textsV_len bs (pickV bs p 7).toNat (p + 1)
  have g := growV_in bs (18 - (pickV bs p 7).toNat) (p + 1 + ((pickV bs p 7).toNat : Int) + 1) (textsV bs (pickV bs p 7).toNat (p + 1))
  unfold anyV
  split
  · simp only [List.length_append, List.length_singleton, tl]; omega
  · split
    · omega
    · simp only [tl]; omega
theorem e22 (H : Hp) (bs : List Int) (h : ∀ i, 0 ≤ bs.getD i 0 ∧ bs.getD i 0 ≤ 255) : ev R 22 [.d (bytesD bs)] H = some (.tup [.d (txts (anyV (opened bs) 0).1), .d (.str (textV (opened bs) (anyV (opened bs) 0).2))], H) := by
  refine ev_fn (fn := f22) rfl rfl ?_
  have hb := opened_ok bs h
  obtain ⟨_, b1, b2⟩ := anyV_in (opened bs) 0 hb (by omega) (by omega)
  have q0 := e45 H bs
  have q1 := e46 (hpush H (rd (opened bs) 0)) (hlen H) (opened bs) 0 (hget_hpush_self _ _) hb (by omega) (by omega)
  rw [hset_push] at q1
  generalize anyV (opened bs) 0 = X at q1 b1 b2 ⊢
  have q2 := e47 (hpush H (rd (opened bs) X.2)) (hlen H) (opened bs) X.2 (hget_hpush_self _ _) hb (by omega) (by omega)
  rw [hset_push] at q2
  simp [-List.getD_eq_getElem?_getD, -List.map_map, evBody, evCode, evOps, evOper, evOp, opd, Env.get, Env.put, Env.keep, zipEnv, V.ok, V.sto, V.cells, D.cells, V.isAgg, binD, binInt, binStr, shInt, unD, eqOf, asI, leave, resOf, mapO, fzV, tupOf, view, view1, isData, hand, flatV, flatD, allD, mkAgg, mkVal, beq_lit, IntKind.bits, htake_self, htake_push, hget_hpush_self, hset_push, rowOf_self, okIn, lowIn, lowIn1, fzC_d, fzC_row, f22, q0, q1, q2]
theorem e7 (H : Hp) (bs : List Int) (h : ∀ i, 0 ≤ bs.getD i 0 ∧ bs.getD i 0 ≤ 255) : ev R 7 [.d (bytesD bs)] H = some (.d (.bool true), H) := by
  refine ev_fn (fn := f7) rfl rfl ?_
  by_cases hl : 1048576 < (bs.length : Int)
  · simp [-List.getD_eq_getElem?_getD, -List.map_map, evBody, evCode, evOps, evOper, evOp, opd, Env.get, Env.put, Env.keep, zipEnv, V.ok, V.sto, V.cells, D.cells, V.isAgg, binD, binInt, binStr, shInt, unD, eqOf, asI, leave, resOf, mapO, fzV, fzC, tupOf, htake, hlen, view, view1, isData, hand, flatV, flatD, allD, mkAgg, mkVal, beq_lit, IntKind.bits, f7, hl]
  · have q0 := pureCall_eq (cl := ev R) fun H => e22 H bs h
    have hb := opened_ok bs h
    obtain ⟨hx, _, _⟩ := anyV_in (opened bs) 0 hb (by omega) (by omega)
    generalize textV (opened bs) (anyV (opened bs) 0).2 = t at q0
    generalize (anyV (opened bs) 0).1 = xs at q0 hx
    have p18 := pureCall_eq (cl := ev R) fun H => e18 H xs t (by omega)
    have p16 := pureCall_eq (cl := ev R) fun H => e16 H xs t (by omega)
    by_cases hn : placeOf xs t < 0
    · simp [-List.getD_eq_getElem?_getD, -List.map_map, evBody, evCode, evOps, evOper, evOp, opd, Env.get, Env.put, Env.keep, zipEnv, V.ok, V.sto, V.cells, D.cells, V.isAgg, binD, binInt, binStr, shInt, unD, eqOf, asI, leave, resOf, mapO, fzV, fzC, tupOf, htake, hlen, view, view1, isData, hand, flatV, flatD, allD, mkAgg, mkVal, beq_lit, IntKind.bits, f7, hl, q0, p18, p16, hn]
    · obtain ⟨j, hj, hs⟩ : ∃ j : Nat, placeOf xs t = j ∧ seek (isAt t xs) xs.length 0 = some j := by
        unfold placeOf at hn ⊢
        split
        · rename_i ok
          rw [if_pos ok] at hn
          cases hr : seek (isAt t xs) xs.length 0 with
          | some j => exact ⟨j, rfl, rfl⟩
          | none => rw [hr] at hn; simp at hn
        · rename_i ok
          rw [if_neg ok] at hn
          simp at hn
      obtain ⟨_, s1, s2, s3⟩ := seek_some hs
      have hjl : j < xs.length := by omega
      have g := txts_get xs j hjl
      have hat : xs.getD j [] = t := by simpa [isAt, -List.getD_eq_getElem?_getD] using s2
      have tl : (xs.take j).length = j := by simp; omega
      have none : seek (isAt t (xs.take j)) (xs.take j).length 0 = none := by
        cases hr : seek (isAt t (xs.take j)) (xs.take j).length 0 with
        | none => rfl
        | some k =>
          obtain ⟨_, r1, r2, _⟩ := seek_some hr
          have := s3 k (by omega) (by omega)
          have e : (xs.take j).getD k [] = xs.getD k [] := by
            simp [List.getD_eq_getElem?_getD, List.getElem?_take, show k < j by omega]
          unfold isAt at r2 this
          rw [e] at r2
          rw [this] at r2
          simp at r2
      have p23 := pureCall_eq (cl := ev R) fun H => e23 H (xs.take j) t (by omega)
      rw [none] at p23
      simp only [txts, List.map_take, Option.isSome_none] at p23
      rw [hj] at p18 p16
      have c1 : (j : Int) < (xs.length : Int) := by omega
      have c2 : (j : Int) ≤ (xs.length : Int) := by omega
      have c3 : ¬ (j : Int) < 0 := by omega
      have c4 : j ≤ xs.length := by omega
      subst hat
      simp [-List.getD_eq_getElem?_getD, -List.map_map, evBody, evCode, evOps, evOper, evOp, opd, Env.get, Env.put, Env.keep, zipEnv, V.ok, V.sto, V.cells, D.cells, V.isAgg, binD, binInt, binStr, shInt, unD, eqOf, asI, leave, resOf, mapO, fzV, fzC, tupOf, htake, hlen, view, view1, isData, hand, flatV, flatD, allD, mkAgg, mkVal, beq_lit, IntKind.bits, f7, hl, q0, p18, p16, p23, g, txts, c1, c2, c3, c4, hjl, bound]
namespace fnListAt
theorem answers (a : Option Addr) (len cap : Nat) (zs : List Int) (w : World) (h : IsRow .u8 w a len cap zs) : Calls Try.prog 7 #[.slice a len cap] w fun e w' => e = .returned (.bool true) ∧ RowKit.Below w.heap.size w w' := by
  have hz : ∀ i, 0 ≤ (zs.take len).getD i 0 ∧ (zs.take len).getD i 0 ≤ 255 := row_bytes h
  refine calls_bool prg_ok (xs := [bytesD (zs.take len)]) (e7 [] _ hz) gr_tab rfl fun j hj => ?_
  match j, hj with
  | 0, _ => exact rd_bytes h
end fnListAt
end Go.Proofs.Ytpmphmpaeooeeaa.Code

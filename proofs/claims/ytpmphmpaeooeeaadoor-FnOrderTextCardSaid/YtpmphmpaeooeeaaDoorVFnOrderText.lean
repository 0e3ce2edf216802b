/- What FnOrderText answers. -/
import Derived.Test.YtpmphmpaeooeeaaDoorVAny
namespace Go.Proofs.YtpmphmpaeooeeaaDoor.Code
open Go Go.Ev Go.Proofs
set_option maxRecDepth 100000
set_option linter.unusedSimpArgs false
set_option linter.unusedVariables false
theorem ordX_len (t : Txt) : (ordX t).length ≤ 8 := by
  unfold ordX
  cases h : pOrder t with
  | ok x r => exact (order_ok t r x h).1.2.2
  | short => simp
  | bad => simp
theorem ord_canon (t : Txt) (h : ¬ ordN t < 1) : t.take (ordN t).toNat = putV (ordX t) := by
  unfold ordN ordX at *
  cases hp : pOrder t with
  | ok x r =>
    obtain ⟨ok, rfl⟩ := order_ok t r x hp
    simp only [List.length_append]
    have e : (((ordText x).length + r.length : Nat) : Int) - (r.length : Int) = (ordText x).length := by omega
    rw [e, Int.toNat_natCast, List.take_left]
    unfold putV
    rw [if_pos ((okArgs_iff x).2 ok)]
  | short => rw [hp] at h; simp at h
  | bad => rw [hp] at h; simp at h
theorem ord_back (xs : List Txt) (t : Txt) (h : okArgs xs = true) : ordX (putV xs ++ t) = xs ∧ ordN (putV xs ++ t) = ((putV xs).length : Int) := by
  have p := order_put xs t ((okArgs_iff xs).1 h)
  have e : putV xs = ordText xs := by unfold putV; rw [if_pos h]
  rw [e]
  constructor
  · simp [ordX, p]
  · simp only [ordN, p, List.length_append]; omega
theorem e4 (H : Hp) (bs ms : List Int) (h : ∀ i, 0 ≤ bs.getD i 0 ∧ bs.getD i 0 ≤ 255) (h' : ∀ i, 0 ≤ ms.getD i 0 ∧ ms.getD i 0 ≤ 255) : ev R 4 [.d (bytesD bs), .d (bytesD ms)] H = some (.d (.bool true), H) := by
  refine ev_fn (fn := f4) rfl rfl ?_
  by_cases hl : 1048576 < (bs.length : Int)
  · simp [-List.getD_eq_getElem?_getD, -List.map_map, evBody, evCode, evOps, evOper, evOp, opd, Env.get, Env.put, Env.keep, zipEnv, V.ok, V.sto, V.cells, D.cells, V.isAgg, binD, binInt, binStr, shInt, unD, eqOf, asI, leave, resOf, mapO, fzV, fzC, tupOf, htake, hlen, view, view1, isData, hand, flatV, flatD, allD, mkAgg, mkVal, beq_lit, IntKind.bits, f4, hl]
  · by_cases hm : 1048576 < (ms.length : Int)
    · simp [-List.getD_eq_getElem?_getD, -List.map_map, evBody, evCode, evOps, evOper, evOp, opd, Env.get, Env.put, Env.keep, zipEnv, V.ok, V.sto, V.cells, D.cells, V.isAgg, binD, binInt, binStr, shInt, unD, eqOf, asI, leave, resOf, mapO, fzV, fzC, tupOf, htake, hlen, view, view1, isData, hand, flatV, flatD, allD, mkAgg, mkVal, beq_lit, IntKind.bits, f4, hl, hm]
    · obtain ⟨ts, tl, q12⟩ := e12 H bs h
      obtain ⟨t, tl2, q15⟩ := e15 H ms h'
      have p13 := pureCall_eq (cl := ev R) fun H => e13 H ts (by omega)
      have p14 := pureCall_eq (cl := ev R) fun H => e14 H ts (by omega)
      have p17 := pureCall_eq (cl := ev R) fun H => e17_same H ts (by omega)
      have pl := putV_len ts
      have p16 := pureCall_eq (cl := ev R) fun H => e16 H (putV ts ++ t) (by simp; omega)
      have p16b := pureCall_eq (cl := ev R) fun H => e16 H t (by omega)
      have p18 := pureCall_eq (cl := ev R) fun H => e18 H t (by omega)
      have yl := ordX_len t
      have p17b := pureCall_eq (cl := ev R) fun H => e17_same H (ordX t) (by omega)
      have p13b := pureCall_eq (cl := ev R) fun H => e13 H (ordX t) (by omega)
      have canon := ord_canon t
      have inn := ordN_in t
      have l1 : (putV ts).length + t.length ≤ strRoom := by unfold strRoom; omega
      have back := ord_back ts t
      generalize ordX t = y at *
      generalize ordN t = n at *
      have last : ∀ (b : Bool), (b = true ↔ n < 1) → (¬ n < 1 → 0 ≤ n ∧ n ≤ (t.length : Int) ∧ t.take n.toNat = putV y) := fun b hb hn => ⟨by omega, inn.2, canon hn⟩
      have n1 : ¬ n < 1 → 0 ≤ n := fun hn => by omega
      cases hok : okArgs ts with
      | true =>
        obtain ⟨bx, bn⟩ := back hok
        rw [bx, bn] at p16
        have ne : ¬ putV ts = [] := by
          unfold putV
          rw [if_pos hok]
          simp [ordText]
        generalize putV ts = s at *
        by_cases c : n < 1
        · simp [-List.getD_eq_getElem?_getD, -List.map_map, evBody, evCode, evOps, evOper, evOp, opd, Env.get, Env.put, Env.keep, zipEnv, V.ok, V.sto, V.cells, D.cells, V.isAgg, binD, binInt, binStr, shInt, unD, eqOf, asI, leave, resOf, mapO, fzV, fzC, tupOf, htake, hlen, view, view1, isData, hand, flatV, flatD, allD, mkAgg, mkVal, beq_lit, IntKind.bits, f4, hl, hm, q12, q15, p13, p14, p17, p16, p16b, p18, p17b, ne, l1, c]
        · have c2 := n1 c
          have c3 := canon c
          have c4 := inn.2
          simp [-List.getD_eq_getElem?_getD, -List.map_map, evBody, evCode, evOps, evOper, evOp, opd, Env.get, Env.put, Env.keep, zipEnv, V.ok, V.sto, V.cells, D.cells, V.isAgg, binD, binInt, binStr, shInt, unD, eqOf, asI, leave, resOf, mapO, fzV, fzC, tupOf, htake, hlen, view, view1, isData, hand, flatV, flatD, allD, mkAgg, mkVal, beq_lit, IntKind.bits, f4, hl, hm, q12, q15, p13, p14, p17, p16, p16b, p18, p17b, p13b, ne, l1, c, c2, c3, c4, bound]
      | false =>
        have em : putV ts = [] := by unfold putV; rw [hok]; rfl
        rw [em] at p13 p14
        by_cases c : n < 1
        · simp [-List.getD_eq_getElem?_getD, -List.map_map, evBody, evCode, evOps, evOper, evOp, opd, Env.get, Env.put, Env.keep, zipEnv, V.ok, V.sto, V.cells, D.cells, V.isAgg, binD, binInt, binStr, shInt, unD, eqOf, asI, leave, resOf, mapO, fzV, fzC, tupOf, htake, hlen, view, view1, isData, hand, flatV, flatD, allD, mkAgg, mkVal, beq_lit, IntKind.bits, f4, hl, hm, q12, q15, p13, p14, p16b, p18, p17b, c]
        · have c2 := n1 c
          have c3 := canon c
          have c4 := inn.2
          simp [-List.getD_eq_getElem?_getD, -List.map_map, evBody, evCode, evOps, evOper, evOp, opd, Env.get, Env.put, Env.keep, zipEnv, V.ok, V.sto, V.cells, D.cells, V.isAgg, binD, binInt, binStr, shInt, unD, eqOf, asI, leave, resOf, mapO, fzV, fzC, tupOf, htake, hlen, view, view1, isData, hand, flatV, flatD, allD, mkAgg, mkVal, beq_lit, IntKind.bits, f4, hl, hm, q12, q15, p13, p14, p16b, p18, p17b, p13b, c, c2, c3, c4, bound]
namespace fnOrderText
theorem answers (a : Option Addr) (len cap : Nat) (zs : List Int) (a' : Option Addr) (len' cap' : Nat) (zs' : List Int) (w : World) (h : IsRow .u8 w a len cap zs) (h' : IsRow .u8 w a' len' cap' zs') (hG : GR globD w (fun _ => False)) : Calls Tryd.prog 4 #[.slice a len cap, .slice a' len' cap'] w fun e w' => e = .returned (.bool true) ∧ RowKit.Below w.heap.size w w' := by
  have hz : ∀ i, 0 ≤ (zs.take len).getD i 0 ∧ (zs.take len).getD i 0 ≤ 255 := row_bytes h
  have hz' : ∀ i, 0 ≤ (zs'.take len').getD i 0 ∧ (zs'.take len').getD i 0 ≤ 255 := row_bytes h'
  refine calls_bool prg_ok (xs := [bytesD (zs.take len), bytesD (zs'.take len')]) (e4 [] _ _ hz hz') hG rfl fun j hj => ?_
  match j, hj with
  | 0, _ => exact rd_bytes h
  | 1, _ => exact rd_bytes h'
end fnOrderText
end Go.Proofs.YtpmphmpaeooeeaaDoor.Code

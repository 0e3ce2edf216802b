/- What FnTextBitFind answers. -/
import Derived.Test.YtlijncbdinoheaaVDraw
import Derived.Test.YtlijncbdinoheaaVBitFind
import Derived.Test.YtlijncbdinoheaaVBitCount
import Derived.Test.YtlijncbdinoheaaVBitGet
namespace Go.Proofs.Ytlijncbdinoheaa.Code
open Go Go.Ev Go.Proofs
set_option maxRecDepth 100000
set_option linter.unusedSimpArgs false
set_option linter.unusedVariables false
theorem find_some {p : Int → Bool} : ∀ {n : Nat} {i j : Int}, find p n i = some j → i ≤ j ∧ j < i + n ∧ p j = true ∧ ∀ k, i ≤ k → k < j → p k = false
  | 0, i, j, h => by simp [find] at h
  | n + 1, i, j, h => by
    simp only [find] at h
    split at h
    · rename_i hp
      simp only [Option.some.injEq] at h; subst h
      exact ⟨Int.le_refl _, by omega, hp, fun k h1 h2 => by omega⟩
    · rename_i hp
      obtain ⟨h1, h2, h3, h4⟩ := find_some h
      refine ⟨by omega, by omega, h3, fun k k1 k2 => ?_⟩
      by_cases hk : k = i
      · subst hk; simpa using hp
      · exact h4 k (by omega) k2
theorem find_none {p : Int → Bool} : ∀ {n : Nat} {i : Int}, find p n i = none → ∀ k, i ≤ k → k < i + n → p k = false
  | 0, i, _, k, h1, h2 => by omega
  | n + 1, i, h, k, h1, h2 => by
    simp only [find] at h
    split at h
    · simp at h
    · rename_i hp
      by_cases hk : k = i
      · subst hk; simpa using hp
      · exact find_none h k (by omega) (by omega)
/-- What the first place means. -/
theorem place_means (s : Txt) (b : Int) (hs : 1 ≤ s.length ∧ s.length ≤ 40) (hb : 0 ≤ b ∧ b ≤ 1) :
    (∀ i : Int, 0 ≤ i → i < 8 * (s.length : Int) → (bit s i = b → ¬ (i < place s b) ∧ ¬ place s b < 0) ∧ (place s b = i → bit s i = b)) ∧ (place s b < 0 → ∀ i : Int, 0 ≤ i → i < 8 * (s.length : Int) → bit s i = 0) ∧ -1 ≤ place s b ∧ place s b ≤ 320 := by
  have hp : place s b = (match find (fun j => decide (bit s j = b)) (8 * s.length) 0 with | some j => j | none => if b = 0 then 8 * s.length else -1) := by
    unfold place
    rw [if_pos ⟨hs.1, hs.2, hb.1, hb.2⟩]
    rfl
  rw [hp]
  cases hr : find (fun j => decide (bit s j = b)) (8 * s.length) 0 with
  | some j =>
    obtain ⟨h1, h2, h3, h4⟩ := find_some hr
    simp only [decide_eq_true_eq, decide_eq_false_iff_not] at h3 h4 ⊢
    refine ⟨fun i hi hi2 => ⟨fun he => ⟨fun hlt => h4 i hi hlt he, by omega⟩, fun he => he ▸ h3⟩, fun h => by omega, by omega, by omega⟩
  | none =>
    have h4 := find_none hr
    simp only [decide_eq_false_iff_not] at h4 ⊢
    refine ⟨fun i hi hi2 => ⟨fun he => absurd he (h4 i hi (by omega)), fun he => ?_⟩, fun h i hi hi2 => ?_, ?_, ?_⟩
    · split at he <;> omega
    · have h5 := h4 i hi (by omega)
      have h6 := bit_01 s i
      split at h <;> omega
    · split <;> omega
    · split <;> omega
theorem sum_zero (f : Int → Int) : ∀ (n : Nat) (i : Int), (∀ k, i ≤ k → k < i + n → f k = 0) → sumTo f n i = 0
  | 0, _, _ => rfl
  | n + 1, i, h => by
    rw [sumTo, h i (by omega) (by omega), sum_zero f n (i + 1) fun k h1 h2 => h k (by omega) (by omega)]
    rfl
theorem count_zero (s : Txt) (hs : 1 ≤ s.length ∧ s.length ≤ 40) (h : ∀ i : Int, 0 ≤ i → i < 8 * (s.length : Int) → bit s i = 0) : count s 0 (-1) = 0 := by
  have e : ends s.length 0 (-1) = (0, (s.length : Int)) := by
    unfold ends
    simp only
    repeat' split
    all_goals (first | (exfalso; omega) | (apply Prod.ext <;> simp only <;> omega))
  have pb : placeB 0 = true ∧ placeB (-1) = true := by decide
  unfold count
  rw [if_pos ⟨hs.2, pb⟩, e]
  simp only [Int.sub_zero, Int.toNat_natCast]
  rw [← sums s s.length 0 (by omega) (by omega)]
  exact sum_zero _ _ _ fun k h1 h2 => h k (by omega) (by omega)
theorem l8 (n0 : Nat) (s : Txt) (b : Int) (hs : 1 ≤ s.length ∧ s.length ≤ 40) (hb : 0 ≤ b ∧ b ≤ 1) (H : Hp) : ∀ (n : Nat) (i : Int) (e : Env), 0 ≤ i → i + n = 8 * s.length → e.get 3 = .d (.str s) → e.get 4 = .d (.int .i64 b) → e.get 5 = .d (.int .i64 (place s b)) → e.get 6 = .d (.int .i64 i) →
    ∃ e', evLoop (evCode (ev R) R.glob n0 evLoop f8l0) [3, 4, 5, 6] ⟨e, H⟩ = some (.exit 0, ⟨e', H⟩) ∧ e'.get 3 = .d (.str s) ∧ e'.get 5 = .d (.int .i64 (place s b))
  | 0, i, e, hi, hn, h3, h4, h5, h6 => by
    have w : IntKind.i64.wrap (8 * (s.length : Int)) = 8 * s.length := IntWalk.i64_in _ (by omega)
    have c : ¬ i < 8 * (s.length : Int) := by omega
    rw [evLoop_eq]
    refine ⟨?_, ?_, ?_, ?_⟩
    rotate_left
    · simp [-List.getD_eq_getElem?_getD, -List.map_map, evBody, evCode, evOps, evOper, evOp, opd, Env.get, Env.put, Env.keep, zipEnv, V.ok, V.sto, V.cells, D.cells, V.isAgg, binD, binInt, binStr, shInt, unD, eqOf, asI, leave, resOf, mapO, fzV, fzC, tupOf, htake, hlen, view, view1, isData, hand, flatV, flatD, allD, mkAgg, mkVal, beq_lit, IntKind.bits, f8l0, h3, h4, h5, h6, w, c]
      rfl
    · simp [-List.getD_eq_getElem?_getD, -List.map_map, evBody, evCode, evOps, evOper, evOp, opd, Env.get, Env.put, Env.keep, zipEnv, V.ok, V.sto, V.cells, D.cells, V.isAgg, binD, binInt, binStr, shInt, unD, eqOf, asI, leave, resOf, mapO, fzV, fzC, tupOf, htake, hlen, view, view1, isData, hand, flatV, flatD, allD, mkAgg, mkVal, beq_lit, IntKind.bits, h3]
    · simp [-List.getD_eq_getElem?_getD, -List.map_map, evBody, evCode, evOps, evOper, evOp, opd, Env.get, Env.put, Env.keep, zipEnv, V.ok, V.sto, V.cells, D.cells, V.isAgg, binD, binInt, binStr, shInt, unD, eqOf, asI, leave, resOf, mapO, fzV, fzC, tupOf, htake, hlen, view, view1, isData, hand, flatV, flatD, allD, mkAgg, mkVal, beq_lit, IntKind.bits, h5]
  | n + 1, i, e, hi, hn, h3, h4, h5, h6 => by
    have w : IntKind.i64.wrap (8 * (s.length : Int)) = 8 * s.length := IntWalk.i64_in _ (by omega)
    have w1 : IntKind.i64.wrap (i + 1) = i + 1 := IntWalk.i64_in _ (by omega)
    have c : i < 8 * (s.length : Int) := by omega
    have hbo : bitOr s i = bit s i := by unfold bitOr; rw [if_pos ⟨hs.2, hi, by omega⟩]
    have p := p12 s i
    rw [hbo] at p
    obtain ⟨m1, m2⟩ := (place_means s b hs hb).1 i hi c
    have ih := l8 n0 s b hs hb H n (i + 1)
    rw [evLoop_eq]
    generalize evLoop (evCode (ev R) R.glob n0 evLoop f8l0) [3, 4, 5, 6] = F at ih ⊢
    generalize place s b = q at *
    generalize bit s i = x at *
    by_cases hx : x = b
    · obtain ⟨k1, k2⟩ := m1 hx
      subst hx
      by_cases hq : q = i
      · subst hq
        simp [-List.getD_eq_getElem?_getD, -List.map_map, evBody, evCode, evOps, evOper, evOp, opd, Env.get, Env.put, Env.keep, zipEnv, V.ok, V.sto, V.cells, D.cells, V.isAgg, binD, binInt, binStr, shInt, unD, eqOf, asI, leave, resOf, mapO, fzV, fzC, tupOf, htake, hlen, view, view1, isData, hand, flatV, flatD, allD, mkAgg, mkVal, beq_lit, IntKind.bits, f8l0, h3, h4, h5, h6, w, w1, c, p, k2]
        refine ih _ (by omega) (by omega) ?_ ?_ ?_ ?_ <;> rfl
      · simp [-List.getD_eq_getElem?_getD, -List.map_map, evBody, evCode, evOps, evOper, evOp, opd, Env.get, Env.put, Env.keep, zipEnv, V.ok, V.sto, V.cells, D.cells, V.isAgg, binD, binInt, binStr, shInt, unD, eqOf, asI, leave, resOf, mapO, fzV, fzC, tupOf, htake, hlen, view, view1, isData, hand, flatV, flatD, allD, mkAgg, mkVal, beq_lit, IntKind.bits, f8l0, h3, h4, h5, h6, w, w1, c, p, k1, k2, hq]
        refine ih _ (by omega) (by omega) ?_ ?_ ?_ ?_ <;> rfl
    · have k3 : ¬ q = i := fun h => hx (m2 h)
      simp [-List.getD_eq_getElem?_getD, -List.map_map, evBody, evCode, evOps, evOper, evOp, opd, Env.get, Env.put, Env.keep, zipEnv, V.ok, V.sto, V.cells, D.cells, V.isAgg, binD, binInt, binStr, shInt, unD, eqOf, asI, leave, resOf, mapO, fzV, fzC, tupOf, htake, hlen, view, view1, isData, hand, flatV, flatD, allD, mkAgg, mkVal, beq_lit, IntKind.bits, f8l0, h3, h4, h5, h6, w, w1, c, p, hx, k3]
      refine ih _ (by omega) (by omega) ?_ ?_ ?_ ?_ <;> rfl
theorem e8 (H : Hp) (bs : List Int) (h : ∀ i, 0 ≤ bs.getD i 0 ∧ bs.getD i 0 ≤ 255) : ev R 8 [.d (bytesD bs)] H = some (.d (.bool true), H) := by
  refine ev_fn (fn := f8) rfl rfl ?_
  by_cases hl : 1048576 < (bs.length : Int)
  · simp [-List.getD_eq_getElem?_getD, -List.map_map, evBody, evCode, evOps, evOper, evOp, opd, Env.get, Env.put, Env.keep, zipEnv, V.ok, V.sto, V.cells, D.cells, V.isAgg, binD, binInt, binStr, shInt, unD, eqOf, asI, leave, resOf, mapO, fzV, fzC, tupOf, htake, hlen, view, view1, isData, hand, flatV, flatD, allD, mkAgg, mkVal, beq_lit, IntKind.bits, f8, hl]
  · have q0 := pureCall_eq (cl := ev R) fun H => e24 H bs h
    have hb := opened_ok bs h
    have hs : (ofV (opened bs) 1 (bitTexts (textV (opened bs) 0))).length ≤ 40 := by
      refine ofV_all _ _ _ 40 fun x hx => ?_
      have := textV_len (opened bs) 0
      simp only [bitTexts, List.mem_cons, List.not_mem_nil, or_false] at hx
      rcases hx with rfl | rfl | rfl | rfl | rfl | rfl <;> first | exact this | simp
    obtain ⟨b0, b1⟩ := pickV_in (opened bs) 2 3 hb (by omega) (by omega)
    have b1 := b1 (by omega)
    generalize ofV (opened bs) 1 (bitTexts (textV (opened bs) 0)) = s at q0 hs
    generalize pickV (opened bs) 2 3 = b at q0 b0 b1
    have q1 := p13 s b
    have q2 := p14 s b
    have n1 : ¬ b < 0 := by omega
    by_cases h1 : 1 < b
    · simp [-List.getD_eq_getElem?_getD, -List.map_map, evBody, evCode, evOps, evOper, evOp, opd, Env.get, Env.put, Env.keep, zipEnv, V.ok, V.sto, V.cells, D.cells, V.isAgg, binD, binInt, binStr, shInt, unD, eqOf, asI, leave, resOf, mapO, fzV, fzC, tupOf, htake, hlen, view, view1, isData, hand, flatV, flatD, allD, mkAgg, mkVal, beq_lit, IntKind.bits, f8, hl, q0, q1, q2, h1, n1]
    · by_cases hz : s = []
      · subst hz
        simp [-List.getD_eq_getElem?_getD, -List.map_map, evBody, evCode, evOps, evOper, evOp, opd, Env.get, Env.put, Env.keep, zipEnv, V.ok, V.sto, V.cells, D.cells, V.isAgg, binD, binInt, binStr, shInt, unD, eqOf, asI, leave, resOf, mapO, fzV, fzC, tupOf, htake, hlen, view, view1, isData, hand, flatV, flatD, allD, mkAgg, mkVal, beq_lit, IntKind.bits, f8, hl, q0, q1, q2, h1, n1]
      · have hsl : 1 ≤ s.length := by
          cases s with
          | nil => exact absurd rfl hz
          | cons a s => simp
        obtain ⟨e', he, g3, g5⟩ := l8 H.length s b ⟨hsl, hs⟩ ⟨b0, by omega⟩ H (8 * s.length) 0 [(3, .d (.str s)), (4, .d (.int .i64 b)), (5, .d (.int .i64 (place s b))), (6, .d (.int .i64 0))] (by omega) (by omega) rfl rfl rfl rfl
        obtain ⟨_, m2, _, _⟩ := place_means s b ⟨hsl, hs⟩ ⟨b0, by omega⟩
        by_cases hp : place s b < 0
        · have c0 := count_zero s ⟨hsl, hs⟩ (m2 hp)
          have q3 := p21 s 0 (-1)
          rw [c0] at q3
          have hp' : ¬ 0 ≤ place s b := by omega
          simp [-List.getD_eq_getElem?_getD, -List.map_map, evBody, evCode, evOps, evOper, evOp, opd, Env.get, Env.put, Env.keep, zipEnv, V.ok, V.sto, V.cells, D.cells, V.isAgg, binD, binInt, binStr, shInt, unD, eqOf, asI, leave, resOf, mapO, fzV, fzC, tupOf, htake, hlen, view, view1, isData, hand, flatV, flatD, allD, mkAgg, mkVal, beq_lit, IntKind.bits, f8, hl, q0, q1, q2, h1, n1, hz, he, g3, g5, hp', q3]
        · have hp' : 0 ≤ place s b := by omega
          simp [-List.getD_eq_getElem?_getD, -List.map_map, evBody, evCode, evOps, evOper, evOp, opd, Env.get, Env.put, Env.keep, zipEnv, V.ok, V.sto, V.cells, D.cells, V.isAgg, binD, binInt, binStr, shInt, unD, eqOf, asI, leave, resOf, mapO, fzV, fzC, tupOf, htake, hlen, view, view1, isData, hand, flatV, flatD, allD, mkAgg, mkVal, beq_lit, IntKind.bits, f8, hl, q0, q1, q2, h1, n1, hz, he, g3, g5, hp']
namespace fnTextBitFind
theorem answers (a : Option Addr) (len cap : Nat) (zs : List Int) (w : World) (h : IsRow .u8 w a len cap zs) : Calls Try.prog 8 #[.slice a len cap] w fun e w' => e = .returned (.bool true) ∧ RowKit.Below w.heap.size w w' := by
  have hz : ∀ i, 0 ≤ (zs.take len).getD i 0 ∧ (zs.take len).getD i 0 ≤ 255 := row_bytes h
  refine calls_bool prg_ok (xs := [bytesD (zs.take len)]) (e8 [] _ hz) gr_tab rfl fun j hj => ?_
  match j, hj with
  | 0, _ => exact rd_bytes h
end fnTextBitFind
end Go.Proofs.Ytlijncbdinoheaa.Code

/- What FnExactTextBitFind answers. -/
import Derived.Test.YtlijncbdinoheaaVBits
namespace Go.Proofs.Ytlijncbdinoheaa.Code
open Go Go.Ev Go.Proofs
set_option maxRecDepth 100000
set_option linter.unusedSimpArgs false
/-- The first place from i on, of n places, where p holds. -/
def find (p : Int → Bool) : Nat → Int → Option Int
  | 0, _ => none
  | n + 1, i => if p i = true then some i else find p n (i + 1)
theorem l13 (n0 : Nat) (s : List UInt8) (b : Int) (hs : s.length ≤ 40) (H : Hp) : ∀ (n : Nat) (i : Int) (e : Env), 0 ≤ i → i + n = 8 * s.length → e.get 0 = .d (.str s) → e.get 1 = .d (.int .i64 b) → e.get 5 = .d (.int .i64 i) →
    ∃ e', evLoop (evCode (ev R) R.glob n0 evLoop f13l0) [0, 1, 5] ⟨e, H⟩ = some ((match find (fun j => decide (bit s j = b)) n i with | some _ => .ret | none => .exit 0), ⟨e', H⟩) ∧
      (∀ j, find (fun j => decide (bit s j = b)) n i = some j → e'.get 4 = .d (.int .i64 j)) ∧ (find (fun j => decide (bit s j = b)) n i = none → e'.get 0 = .d (.str s) ∧ e'.get 1 = .d (.int .i64 b))
  | 0, i, e, hi, hn, h0, h1, h5 => by
    have w : IntKind.i64.wrap (8 * (s.length : Int)) = 8 * s.length := IntWalk.i64_in _ (by omega)
    have c : ¬ i < 8 * (s.length : Int) := by omega
    rw [evLoop_eq]
    refine ⟨?_, ?_, ?_, ?_⟩
    rotate_left
    · simp [-List.getD_eq_getElem?_getD, -List.map_map, evBody, evCode, evOps, evOper, evOp, opd, Env.get, Env.put, Env.keep, zipEnv, V.ok, V.sto, V.cells, D.cells, V.isAgg, binD, binInt, binStr, shInt, unD, eqOf, asI, leave, resOf, mapO, fzV, fzC, tupOf, htake, hlen, view, view1, isData, hand, flatV, flatD, allD, mkAgg, mkVal, beq_lit, IntKind.bits, f13l0, h0, h1, h5, w, c, find]
      rfl
    · intro j hj; simp [find] at hj
    · intro _
      constructor <;> simp [-List.getD_eq_getElem?_getD, -List.map_map, evBody, evCode, evOps, evOper, evOp, opd, Env.get, Env.put, Env.keep, zipEnv, V.ok, V.sto, V.cells, D.cells, V.isAgg, binD, binInt, binStr, shInt, unD, eqOf, asI, leave, resOf, mapO, fzV, fzC, tupOf, htake, hlen, view, view1, isData, hand, flatV, flatD, allD, mkAgg, mkVal, beq_lit, IntKind.bits, h0, h1]
  | n + 1, i, e, hi, hn, h0, h1, h5 => by
    have w : IntKind.i64.wrap (8 * (s.length : Int)) = 8 * s.length := IntWalk.i64_in _ (by omega)
    have w1 : IntKind.i64.wrap (i + 1) = i + 1 := IntWalk.i64_in _ (by omega)
    have c : i < 8 * (s.length : Int) := by omega
    have pb : pureCall (ev R) 34 [.d (.str s), .d (.int .i64 i)] = some (.d (.int .i64 (bit s i))) := pureCall_eq fun H => e34 H s i hi (by omega)
    have ih := l13 n0 s b hs H n (i + 1)
    rw [evLoop_eq]
    generalize evLoop (evCode (ev R) R.glob n0 evLoop f13l0) [0, 1, 5] = F at ih ⊢
    by_cases hb : bit s i = b
    · refine ⟨?_, ?_, ?_, ?_⟩
      rotate_left
      · simp [-List.getD_eq_getElem?_getD, -List.map_map, evBody, evCode, evOps, evOper, evOp, opd, Env.get, Env.put, Env.keep, zipEnv, V.ok, V.sto, V.cells, D.cells, V.isAgg, binD, binInt, binStr, shInt, unD, eqOf, asI, leave, resOf, mapO, fzV, fzC, tupOf, htake, hlen, view, view1, isData, hand, flatV, flatD, allD, mkAgg, mkVal, beq_lit, IntKind.bits, f13l0, h0, h1, h5, w, c, pb, find, hb]
        rfl
      · intro j hj
        simp [find, hb] at hj
        subst hj
        simp [-List.getD_eq_getElem?_getD, -List.map_map, evBody, evCode, evOps, evOper, evOp, opd, Env.get, Env.put, Env.keep, zipEnv, V.ok, V.sto, V.cells, D.cells, V.isAgg, binD, binInt, binStr, shInt, unD, eqOf, asI, leave, resOf, mapO, fzV, fzC, tupOf, htake, hlen, view, view1, isData, hand, flatV, flatD, allD, mkAgg, mkVal, beq_lit, IntKind.bits]
      · intro hj; simp [find, hb] at hj
    · simp [-List.getD_eq_getElem?_getD, -List.map_map, evBody, evCode, evOps, evOper, evOp, opd, Env.get, Env.put, Env.keep, zipEnv, V.ok, V.sto, V.cells, D.cells, V.isAgg, binD, binInt, binStr, shInt, unD, eqOf, asI, leave, resOf, mapO, fzV, fzC, tupOf, htake, hlen, view, view1, isData, hand, flatV, flatD, allD, mkAgg, mkVal, beq_lit, IntKind.bits, f13l0, h0, h1, h5, w, w1, c, pb, find, hb]
      refine ih _ (by omega) (by omega) ?_ ?_ ?_ <;> rfl
theorem l14 (n0 : Nat) (s : List UInt8) (b : Int) (hs : s.length ≤ 40) (H : Hp) : ∀ (n : Nat) (i : Int) (e : Env), 0 ≤ i → i + n = 8 * s.length → e.get 0 = .d (.str s) → e.get 1 = .d (.int .i64 b) → e.get 17 = .d (.int .i64 (8 * s.length)) → e.get 18 = .d (.int .i64 i) →
    ∃ e', evLoop (evCode (ev R) R.glob n0 evLoop f14l0) [0, 1, 17, 18] ⟨e, H⟩ = some ((match find (fun j => decide (bit s j = b)) n i with | some _ => .ret | none => .exit 0), ⟨e', H⟩) ∧
      (∀ j, find (fun j => decide (bit s j = b)) n i = some j → e'.get 4 = .d (.int .i64 j)) ∧ (find (fun j => decide (bit s j = b)) n i = none → e'.get 0 = .d (.str s) ∧ e'.get 1 = .d (.int .i64 b))
  | 0, i, e, hi, hn, h0, h1, h5, h6 => by
    have w : IntKind.i64.wrap (8 * (s.length : Int)) = 8 * s.length := IntWalk.i64_in _ (by omega)
    have c : ¬ i < 8 * (s.length : Int) := by omega
    rw [evLoop_eq]
    refine ⟨?_, ?_, ?_, ?_⟩
    rotate_left
    · simp [-List.getD_eq_getElem?_getD, -List.map_map, evBody, evCode, evOps, evOper, evOp, opd, Env.get, Env.put, Env.keep, zipEnv, V.ok, V.sto, V.cells, D.cells, V.isAgg, binD, binInt, binStr, shInt, unD, eqOf, asI, leave, resOf, mapO, fzV, fzC, tupOf, htake, hlen, view, view1, isData, hand, flatV, flatD, allD, mkAgg, mkVal, beq_lit, IntKind.bits, f14l0, h0, h1, h5, h6, w, c, find]
      rfl
    · intro j hj; simp [find] at hj
    · intro _
      constructor <;> simp [-List.getD_eq_getElem?_getD, -List.map_map, evBody, evCode, evOps, evOper, evOp, opd, Env.get, Env.put, Env.keep, zipEnv, V.ok, V.sto, V.cells, D.cells, V.isAgg, binD, binInt, binStr, shInt, unD, eqOf, asI, leave, resOf, mapO, fzV, fzC, tupOf, htake, hlen, view, view1, isData, hand, flatV, flatD, allD, mkAgg, mkVal, beq_lit, IntKind.bits, h0, h1]
  | n + 1, i, e, hi, hn, h0, h1, h5, h6 => by
    have w : IntKind.i64.wrap (8 * (s.length : Int)) = 8 * s.length := IntWalk.i64_in _ (by omega)
    have w1 : IntKind.i64.wrap (i + 1) = i + 1 := IntWalk.i64_in _ (by omega)
    have c : i < 8 * (s.length : Int) := by omega
    have pb : pureCall (ev R) 36 [.d (.str s), .d (.int .i64 i)] = some (.d (.int .i64 (bit s i))) := pureCall_eq fun H => e36 H s i hi (by omega)
    have ih := l14 n0 s b hs H n (i + 1)
    rw [evLoop_eq]
    generalize evLoop (evCode (ev R) R.glob n0 evLoop f14l0) [0, 1, 17, 18] = F at ih ⊢
    by_cases hb : bit s i = b
    · refine ⟨?_, ?_, ?_, ?_⟩
      rotate_left
      · simp [-List.getD_eq_getElem?_getD, -List.map_map, evBody, evCode, evOps, evOper, evOp, opd, Env.get, Env.put, Env.keep, zipEnv, V.ok, V.sto, V.cells, D.cells, V.isAgg, binD, binInt, binStr, shInt, unD, eqOf, asI, leave, resOf, mapO, fzV, fzC, tupOf, htake, hlen, view, view1, isData, hand, flatV, flatD, allD, mkAgg, mkVal, beq_lit, IntKind.bits, f14l0, h0, h1, h5, h6, w, c, pb, find, hb]
        rfl
      · intro j hj
        simp [find, hb] at hj
        subst hj
        simp [-List.getD_eq_getElem?_getD, -List.map_map, evBody, evCode, evOps, evOper, evOp, opd, Env.get, Env.put, Env.keep, zipEnv, V.ok, V.sto, V.cells, D.cells, V.isAgg, binD, binInt, binStr, shInt, unD, eqOf, asI, leave, resOf, mapO, fzV, fzC, tupOf, htake, hlen, view, view1, isData, hand, flatV, flatD, allD, mkAgg, mkVal, beq_lit, IntKind.bits]
      · intro hj; simp [find, hb] at hj
    · simp [-List.getD_eq_getElem?_getD, -List.map_map, evBody, evCode, evOps, evOper, evOp, opd, Env.get, Env.put, Env.keep, zipEnv, V.ok, V.sto, V.cells, D.cells, V.isAgg, binD, binInt, binStr, shInt, unD, eqOf, asI, leave, resOf, mapO, fzV, fzC, tupOf, htake, hlen, view, view1, isData, hand, flatV, flatD, allD, mkAgg, mkVal, beq_lit, IntKind.bits, f14l0, h0, h1, h5, h6, w, w1, c, pb, find, hb]
      refine ih _ (by omega) (by omega) ?_ ?_ ?_ ?_ <;> rfl
/-- The first place of a bit, as both say it. -/
def place (s : List UInt8) (b : Int) : Int :=
  if 1 ≤ s.length ∧ s.length ≤ 40 ∧ 0 ≤ b ∧ b ≤ 1 then
    match find (fun j => decide (bit s j = b)) (8 * s.length) 0 with
    | some j => j
    | none => if b = 0 then 8 * s.length else -1
  else -1
theorem e14 (H : Hp) (s : List UInt8) (b : Int) : ev R 14 [.d (.str s), .d (.int .i64 b)] H = some (.d (.int .i64 (place s b)), H) := by
  refine ev_fn (fn := f14) rfl rfl ?_
  have pl := p35 (s.length : Int) 1 40
  have pb := p35 b 0 1
  unfold place
  by_cases h1 : 1 ≤ s.length ∧ s.length ≤ 40
  · have h1' : (decide ((s.length : Int) ≥ 1) && decide ((s.length : Int) ≤ 40)) = true := by simp; omega
    rw [h1'] at pl
    by_cases h2 : 0 ≤ b ∧ b ≤ 1
    · have h2' : (decide (b ≥ 0) && decide (b ≤ 1)) = true := by simp; omega
      rw [h2'] at pb
      have w : IntKind.i64.wrap (8 * (s.length : Int)) = 8 * s.length := IntWalk.i64_in _ (by omega)
      obtain ⟨e', he, hf, hn⟩ := l14 H.length s b h1.2 H (8 * s.length) 0 [(0, .d (.str s)), (1, .d (.int .i64 b)), (17, .d (.int .i64 (8 * (s.length : Int)))), (18, .d (.int .i64 0))] (by omega) (by omega) rfl rfl rfl rfl
      cases hr : find (fun j => decide (bit s j = b)) (8 * s.length) 0 with
      | some j =>
        have g := hf j hr
        simp only [hr] at he
        simp [-List.getD_eq_getElem?_getD, -List.map_map, evBody, evCode, evOps, evOper, evOp, opd, Env.get, Env.put, Env.keep, zipEnv, V.ok, V.sto, V.cells, D.cells, V.isAgg, binD, binInt, binStr, shInt, unD, eqOf, asI, leave, resOf, mapO, fzV, fzC, tupOf, htake, hlen, view, view1, isData, hand, flatV, flatD, allD, mkAgg, mkVal, beq_lit, IntKind.bits, f14, pl, pb, w, he, g, h1, h2]
      | none =>
        obtain ⟨g0, g1⟩ := hn hr
        simp only [hr] at he
        by_cases hb : b = 0
        · subst hb
          simp [-List.getD_eq_getElem?_getD, -List.map_map, evBody, evCode, evOps, evOper, evOp, opd, Env.get, Env.put, Env.keep, zipEnv, V.ok, V.sto, V.cells, D.cells, V.isAgg, binD, binInt, binStr, shInt, unD, eqOf, asI, leave, resOf, mapO, fzV, fzC, tupOf, htake, hlen, view, view1, isData, hand, flatV, flatD, allD, mkAgg, mkVal, beq_lit, IntKind.bits, f14, pl, pb, w, he, g0, g1, h1, h2]
        · simp [-List.getD_eq_getElem?_getD, -List.map_map, evBody, evCode, evOps, evOper, evOp, opd, Env.get, Env.put, Env.keep, zipEnv, V.ok, V.sto, V.cells, D.cells, V.isAgg, binD, binInt, binStr, shInt, unD, eqOf, asI, leave, resOf, mapO, fzV, fzC, tupOf, htake, hlen, view, view1, isData, hand, flatV, flatD, allD, mkAgg, mkVal, beq_lit, IntKind.bits, f14, pl, pb, w, he, g0, g1, h1, h2, hb]
    · have h2' : (decide (b ≥ 0) && decide (b ≤ 1)) = false := by simp; omega
      rw [h2'] at pb
      simp [-List.getD_eq_getElem?_getD, -List.map_map, evBody, evCode, evOps, evOper, evOp, opd, Env.get, Env.put, Env.keep, zipEnv, V.ok, V.sto, V.cells, D.cells, V.isAgg, binD, binInt, binStr, shInt, unD, eqOf, asI, leave, resOf, mapO, fzV, fzC, tupOf, htake, hlen, view, view1, isData, hand, flatV, flatD, allD, mkAgg, mkVal, beq_lit, IntKind.bits, f14, pl, pb, h1, h2]
  · have h1' : (decide ((s.length : Int) ≥ 1) && decide ((s.length : Int) ≤ 40)) = false := by simp; omega
    rw [h1'] at pl
    simp [-List.getD_eq_getElem?_getD, -List.map_map, evBody, evCode, evOps, evOper, evOp, opd, Env.get, Env.put, Env.keep, zipEnv, V.ok, V.sto, V.cells, D.cells, V.isAgg, binD, binInt, binStr, shInt, unD, eqOf, asI, leave, resOf, mapO, fzV, fzC, tupOf, htake, hlen, view, view1, isData, hand, flatV, flatD, allD, mkAgg, mkVal, beq_lit, IntKind.bits, f14, pl, h1]
    intro a1 a2; exact absurd ⟨a1, a2⟩ h1
theorem e13 (H : Hp) (s : List UInt8) (b : Int) : ev R 13 [.d (.str s), .d (.int .i64 b)] H = some (.d (.int .i64 (place s b)), H) := by
  refine ev_fn (fn := f13) rfl rfl ?_
  have pb := p37 b 0 1
  unfold place
  by_cases h1 : 1 ≤ s.length ∧ s.length ≤ 40
  · have c1 : ¬ (40 < (s.length : Int)) := by omega
    have c2 : ¬ ((s.length : Int) = 0) := by omega
    have c3 : ¬ s = [] := by intro e; subst e; simp at h1
    by_cases h2 : 0 ≤ b ∧ b ≤ 1
    · have h2' : (decide (b ≥ 0) && decide (b ≤ 1)) = true := by simp; omega
      rw [h2'] at pb
      have w : IntKind.i64.wrap (8 * (s.length : Int)) = 8 * s.length := IntWalk.i64_in _ (by omega)
      obtain ⟨e', he, hf, hn⟩ := l13 H.length s b h1.2 H (8 * s.length) 0 [(0, .d (.str s)), (1, .d (.int .i64 b)), (5, .d (.int .i64 0))] (by omega) (by omega) rfl rfl rfl
      cases hr : find (fun j => decide (bit s j = b)) (8 * s.length) 0 with
      | some j =>
        have g := hf j hr
        simp only [hr] at he
        simp [-List.getD_eq_getElem?_getD, -List.map_map, evBody, evCode, evOps, evOper, evOp, opd, Env.get, Env.put, Env.keep, zipEnv, V.ok, V.sto, V.cells, D.cells, V.isAgg, binD, binInt, binStr, shInt, unD, eqOf, asI, leave, resOf, mapO, fzV, fzC, tupOf, htake, hlen, view, view1, isData, hand, flatV, flatD, allD, mkAgg, mkVal, beq_lit, IntKind.bits, f13, c1, c2, c3, pb, w, he, g, h1, h2]
      | none =>
        obtain ⟨g0, g1⟩ := hn hr
        simp only [hr] at he
        by_cases hb : b = 0
        · subst hb
          simp [-List.getD_eq_getElem?_getD, -List.map_map, evBody, evCode, evOps, evOper, evOp, opd, Env.get, Env.put, Env.keep, zipEnv, V.ok, V.sto, V.cells, D.cells, V.isAgg, binD, binInt, binStr, shInt, unD, eqOf, asI, leave, resOf, mapO, fzV, fzC, tupOf, htake, hlen, view, view1, isData, hand, flatV, flatD, allD, mkAgg, mkVal, beq_lit, IntKind.bits, f13, c1, c2, c3, pb, w, he, g0, g1, h1, h2]
        · simp [-List.getD_eq_getElem?_getD, -List.map_map, evBody, evCode, evOps, evOper, evOp, opd, Env.get, Env.put, Env.keep, zipEnv, V.ok, V.sto, V.cells, D.cells, V.isAgg, binD, binInt, binStr, shInt, unD, eqOf, asI, leave, resOf, mapO, fzV, fzC, tupOf, htake, hlen, view, view1, isData, hand, flatV, flatD, allD, mkAgg, mkVal, beq_lit, IntKind.bits, f13, c1, c2, c3, pb, w, he, g0, g1, h1, h2, hb]
    · have h2' : (decide (b ≥ 0) && decide (b ≤ 1)) = false := by simp; omega
      rw [h2'] at pb
      simp [-List.getD_eq_getElem?_getD, -List.map_map, evBody, evCode, evOps, evOper, evOp, opd, Env.get, Env.put, Env.keep, zipEnv, V.ok, V.sto, V.cells, D.cells, V.isAgg, binD, binInt, binStr, shInt, unD, eqOf, asI, leave, resOf, mapO, fzV, fzC, tupOf, htake, hlen, view, view1, isData, hand, flatV, flatD, allD, mkAgg, mkVal, beq_lit, IntKind.bits, f13, c1, c2, c3, pb, h1, h2]
  · by_cases c1 : 40 < (s.length : Int)
    · simp [-List.getD_eq_getElem?_getD, -List.map_map, evBody, evCode, evOps, evOper, evOp, opd, Env.get, Env.put, Env.keep, zipEnv, V.ok, V.sto, V.cells, D.cells, V.isAgg, binD, binInt, binStr, shInt, unD, eqOf, asI, leave, resOf, mapO, fzV, fzC, tupOf, htake, hlen, view, view1, isData, hand, flatV, flatD, allD, mkAgg, mkVal, beq_lit, IntKind.bits, f13, c1, h1]
      intro a1 a2; exact absurd ⟨a1, a2⟩ h1
    · have c2 : (s.length : Int) = 0 := by omega
      have c3 : s = [] := List.eq_nil_of_length_eq_zero (by omega)
      subst c3
      simp [-List.getD_eq_getElem?_getD, -List.map_map, evBody, evCode, evOps, evOper, evOp, opd, Env.get, Env.put, Env.keep, zipEnv, V.ok, V.sto, V.cells, D.cells, V.isAgg, binD, binInt, binStr, shInt, unD, eqOf, asI, leave, resOf, mapO, fzV, fzC, tupOf, htake, hlen, view, view1, isData, hand, flatV, flatD, allD, mkAgg, mkVal, beq_lit, IntKind.bits, f13]
theorem p13 (s : List UInt8) (i : Int) : pureCall (ev R) 13 [.d (.str s), .d (.int .i64 i)] = some (.d (.int .i64 (place s i))) := pureCall_eq fun H => e13 H s i
theorem p14 (s : List UInt8) (i : Int) : pureCall (ev R) 14 [.d (.str s), .d (.int .i64 i)] = some (.d (.int .i64 (place s i))) := pureCall_eq fun H => e14 H s i
theorem e4 (H : Hp) (s : List UInt8) (i : Int) : ev R 4 [.d (.str s), .d (.int .i64 i)] H = some (.d (.bool true), H) := by
  refine ev_fn (fn := f4) rfl rfl ?_
  by_cases h1 : 1048576 < (s.length : Int)
  · simp [-List.getD_eq_getElem?_getD, -List.map_map, evBody, evCode, evOps, evOper, evOp, opd, Env.get, Env.put, Env.keep, zipEnv, V.ok, V.sto, V.cells, D.cells, V.isAgg, binD, binInt, binStr, shInt, unD, eqOf, asI, leave, resOf, mapO, fzV, fzC, tupOf, htake, hlen, view, view1, isData, hand, flatV, flatD, allD, mkAgg, mkVal, beq_lit, IntKind.bits, f4, h1]
  · simp [-List.getD_eq_getElem?_getD, -List.map_map, evBody, evCode, evOps, evOper, evOp, opd, Env.get, Env.put, Env.keep, zipEnv, V.ok, V.sto, V.cells, D.cells, V.isAgg, binD, binInt, binStr, shInt, unD, eqOf, asI, leave, resOf, mapO, fzV, fzC, tupOf, htake, hlen, view, view1, isData, hand, flatV, flatD, allD, mkAgg, mkVal, beq_lit, IntKind.bits, f4, h1, p13, p14]
namespace fnExactTextBitFind
theorem answers (s : ByteArray) (i : Int) (w : World) (_ : s.size ≤ 140737488351232) (_ : (Lit.int .i64 i).wf = true) : Calls Try.prog 4 #[.string s, .int .i64 i] w fun e w' => e = .returned (.bool true) ∧ RowKit.Below w.heap.size w w' :=
  calls_bool prg_ok (xs := [.str s.data.toList, .int .i64 i]) (e4 [] _ _) gr_tab rfl fun j hj => by
    match j, hj with
    | 0, _ => exact rd_str w s
    | 1, _ => exact rd_int w .i64 i
end fnExactTextBitFind
end Go.Proofs.Ytlijncbdinoheaa.Code

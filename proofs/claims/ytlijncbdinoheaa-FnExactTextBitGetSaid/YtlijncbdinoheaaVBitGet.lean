/- What FnExactTextBitGet answers. -/
import Derived.Test.YtlijncbdinoheaaCBitGet
namespace Go.Proofs.Ytlijncbdinoheaa.Code
open Go Go.Ev Go.Proofs
set_option maxRecDepth 100000
set_option linter.unusedSimpArgs false
noncomputable abbrev R : Prg := ofTab tab
theorem e37 (H : Hp) (a b c : Int) : ev R 37 [.d (.int .i64 a), .d (.int .i64 b), .d (.int .i64 c)] H = some (.d (.bool (decide (a ≥ b) && decide (a ≤ c))), H) := by
  refine ev_fn (fn := f37) rfl rfl ?_
  by_cases h1 : a ≥ b <;> by_cases h2 : a ≤ c <;>
  simp [-List.getD_eq_getElem?_getD, evBody, f37, evCode, evOps, evOper, evOp, opd, Env.get, Env.put, Env.keep, zipEnv, V.ok, binD, binInt, leave, resOf, mapO, fzV, tupOf, htake, hlen, h1, h2, beq_lit]
theorem e35 (H : Hp) (a b c : Int) : ev R 35 [.d (.int .i64 a), .d (.int .i64 b), .d (.int .i64 c)] H = some (.d (.bool (decide (a ≥ b) && decide (a ≤ c))), H) := by
  refine ev_fn (fn := f35) rfl rfl ?_
  by_cases h1 : a ≥ b <;> by_cases h2 : a ≤ c <;>
  simp [-List.getD_eq_getElem?_getD, evBody, f35, evCode, evOps, evOper, evOp, opd, Env.get, Env.put, Env.keep, zipEnv, V.ok, binD, binInt, leave, resOf, mapO, fzV, tupOf, htake, hlen, h1, h2, beq_lit]
theorem p37 (a b c : Int) : pureCall (ev R) 37 [.d (.int .i64 a), .d (.int .i64 b), .d (.int .i64 c)] = some (.d (.bool (decide (a ≥ b) && decide (a ≤ c)))) := pureCall_eq fun H => e37 H a b c
theorem p35 (a b c : Int) : pureCall (ev R) 35 [.d (.int .i64 a), .d (.int .i64 b), .d (.int .i64 c)] = some (.d (.bool (decide (a ≥ b) && decide (a ≤ c)))) := pureCall_eq fun H => e35 H a b c
theorem e33 (H : Hp) (s : List UInt8) (i : Int) : ev R 33 [.d (.str s), .d (.int .i64 i)] H = some (.d (.bool (decide (s.length ≤ 40) && (decide (0 ≤ i) && decide (i ≤ 319)))), H) := by
  refine ev_fn (fn := f33) rfl rfl ?_
  by_cases h1 : s.length ≤ 40
  · have h1' : (s.length : Int) ≤ 40 := by omega
    simp [-List.getD_eq_getElem?_getD, evBody, f33, evCode, evOps, evOper, evOp, opd, Env.get, Env.put, Env.keep, zipEnv, V.ok, binD, binInt, leave, resOf, mapO, fzV, tupOf, htake, hlen, view, view1, isData, p37, h1, h1', beq_lit]
  · have h1' : ¬ (s.length : Int) ≤ 40 := by omega
    simp [-List.getD_eq_getElem?_getD, evBody, f33, evCode, evOps, evOper, evOp, opd, Env.get, Env.put, Env.keep, zipEnv, V.ok, binD, binInt, leave, resOf, mapO, fzV, tupOf, htake, hlen, view, view1, isData, p37, h1, h1', beq_lit]
theorem and1 (x : Int) (h0 : 0 ≤ x) (h9 : x < 9223372036854775808) : bitsOp .and .i64 x 1 = some (x % 2) := by
  have e : ((BitVec.ofInt 64 x &&& BitVec.ofInt 64 1).toNat : Int) = x % 2 := by
    obtain ⟨n, rfl⟩ := Int.eq_ofNat_of_zero_le h0
    simp
  show some (IntKind.i64.wrap ((BitVec.ofInt 64 x &&& BitVec.ofInt 64 1).toNat : Int)) = _
  rw [e, IntWalk.i64_in _ (by omega)]
def bit (s : List UInt8) (i : Int) : Int := if i / 8 ≥ s.length then 0 else ((s.getD (i / 8).toNat 0).toNat : Int) / (2 ^ (7 - i % 8).toNat) % 2
theorem u8_fits (x : UInt8) : IntKind.i64.wrap (x.toNat : Int) = x.toNat := IntWalk.i64_in _ (by have := x.toNat_lt; omega)
theorem shr_u8 (x : UInt8) (k : Nat) : (x.toNat : Int).fdiv (2 ^ k) = (x.toNat : Int) / 2 ^ k ∧ 0 ≤ (x.toNat : Int) / 2 ^ k ∧ (x.toNat : Int) / 2 ^ k ≤ 255 := by
  have h := x.toNat_lt
  have p : (0 : Int) < 2 ^ k := Int.pow_pos (by omega)
  refine ⟨Int.fdiv_eq_ediv_of_nonneg _ (by omega), Int.ediv_nonneg (by omega) (by omega), ?_⟩
  have := Int.ediv_le_self (a := (x.toNat : Int)) (2 ^ k) (by omega)
  omega
theorem e34 (H : Hp) (s : List UInt8) (i : Int) (h0 : 0 ≤ i) (h9 : i ≤ 319) : ev R 34 [.d (.str s), .d (.int .i64 i)] H = some (.d (.int .i64 (bit s i)), H) := by
  refine ev_fn (fn := f34) rfl rfl ?_
  have q : IntKind.i64.wrap (i.tdiv 8) = i / 8 := IntWalk.i64_quo i 8 ⟨h0, by omega, by omega⟩
  have r : i.tmod 8 = i % 8 := Int.tmod_eq_emod_of_nonneg h0
  have w : IntKind.i64.wrap (7 - i % 8) = 7 - i % 8 := IntWalk.i64_in _ (by omega)
  have n0 : ¬ (7 - i % 8 < 0) := by omega
  have mn : min (7 - i % 8).toNat 64 = (7 - i % 8).toNat := by omega
  unfold bit
  by_cases h1 : i / 8 ≥ s.length
  · simp [-List.getD_eq_getElem?_getD, evBody, f34, evCode, evOps, evOper, evOp, opd, Env.get, Env.put, Env.keep, zipEnv, V.ok, binD, binInt, leave, resOf, mapO, fzV, tupOf, htake, hlen, h1, beq_lit, q]
  · have k0 : 0 ≤ i / 8 := by omega
    have k1 : i / 8 < (s.length : Int) := by omega
    have s1 := shr_u8 (s.getD (i / 8).toNat 0) (7 - i % 8).toNat
    have s2 := and1 _ s1.2.1 (by omega)
    simp [-List.getD_eq_getElem?_getD, evBody, f34, evCode, evOps, evOper, evOp, opd, Env.get, Env.put, Env.keep, zipEnv, V.ok, binD, binInt, shInt, asI, leave, resOf, mapO, fzV, tupOf, htake, hlen, h1, beq_lit, q, r, w, k0, k1, u8_fits, n0, mn, IntKind.bits, s1.1, s2]
theorem e36 (H : Hp) (s : List UInt8) (i : Int) (h0 : 0 ≤ i) (h9 : i ≤ 319) : ev R 36 [.d (.str s), .d (.int .i64 i)] H = some (.d (.int .i64 (bit s i)), H) := by
  refine ev_fn (fn := f36) rfl rfl ?_
  have q : IntKind.i64.wrap (i.tdiv 8) = i / 8 := IntWalk.i64_quo i 8 ⟨h0, by omega, by omega⟩
  have r : i.tmod 8 = i % 8 := Int.tmod_eq_emod_of_nonneg h0
  have w : IntKind.i64.wrap (7 - i % 8) = 7 - i % 8 := IntWalk.i64_in _ (by omega)
  have n0 : ¬ (7 - i % 8 < 0) := by omega
  have mn : min (7 - i % 8).toNat 8 = (7 - i % 8).toNat := by omega
  unfold bit
  by_cases h1 : i / 8 ≥ s.length
  · simp [-List.getD_eq_getElem?_getD, evBody, f36, evCode, evOps, evOper, evOp, opd, Env.get, Env.put, Env.keep, zipEnv, V.ok, binD, binInt, shInt, unD, asI, leave, resOf, mapO, fzV, tupOf, htake, hlen, view, view1, isData, beq_lit, IntKind.bits, h1, q]
  · have k0 : 0 ≤ i / 8 := by omega
    have k1 : i / 8 < (s.length : Int) := by omega
    have s1 := shr_u8 (s.getD (i / 8).toNat 0) (7 - i % 8).toNat
    have s2 := and1 _ s1.2.1 (by omega)
    have s3 : IntKind.i64.wrap (((s.getD (i / 8).toNat 0).toNat : Int) / 2 ^ (7 - i % 8).toNat) = ((s.getD (i / 8).toNat 0).toNat : Int) / 2 ^ (7 - i % 8).toNat := IntWalk.i64_in _ (by omega)
    simp [-List.getD_eq_getElem?_getD, evBody, f36, evCode, evOps, evOper, evOp, opd, Env.get, Env.put, Env.keep, zipEnv, V.ok, binD, binInt, shInt, unD, asI, leave, resOf, mapO, fzV, tupOf, htake, hlen, view, view1, isData, beq_lit, IntKind.bits, h1, q, r, w, k0, k1, n0, mn, s1.1, s2, s3]
theorem p33 (s : List UInt8) (i : Int) : pureCall (ev R) 33 [.d (.str s), .d (.int .i64 i)] = some (.d (.bool (decide (s.length ≤ 40) && (decide (0 ≤ i) && decide (i ≤ 319))))) := pureCall_eq fun H => e33 H s i
/-- The bit, wherever it is asked for. -/
def bitOr (s : List UInt8) (i : Int) : Int := if s.length ≤ 40 ∧ 0 ≤ i ∧ i ≤ 319 then bit s i else 0
theorem e11 (H : Hp) (s : List UInt8) (i : Int) : ev R 11 [.d (.str s), .d (.int .i64 i)] H = some (.d (.int .i64 (bitOr s i)), H) := by
  refine ev_fn (fn := f11) rfl rfl ?_
  unfold bitOr
  by_cases h : s.length ≤ 40 ∧ 0 ≤ i ∧ i ≤ 319
  · have p34 : pureCall (ev R) 34 [.d (.str s), .d (.int .i64 i)] = some (.d (.int .i64 (bit s i))) := pureCall_eq fun H => e34 H s i h.2.1 h.2.2
    simp [-List.getD_eq_getElem?_getD, evBody, f11, evCode, evOps, evOper, evOp, opd, Env.get, Env.put, Env.keep, zipEnv, V.ok, binD, binInt, shInt, unD, asI, leave, resOf, mapO, fzV, tupOf, htake, hlen, view, view1, isData, beq_lit, IntKind.bits, p33, p34, h]
  · have hb : (decide (s.length ≤ 40) && (decide (0 ≤ i) && decide (i ≤ 319))) = false := by
      cases hh : (decide (s.length ≤ 40) && (decide (0 ≤ i) && decide (i ≤ 319))) with
      | false => rfl
      | true => simp at hh; exact absurd hh h
    have p := p33 s i
    rw [hb] at p
    simp [-List.getD_eq_getElem?_getD, evBody, f11, evCode, evOps, evOper, evOp, opd, Env.get, Env.put, Env.keep, zipEnv, V.ok, binD, binInt, shInt, unD, asI, leave, resOf, mapO, fzV, tupOf, htake, hlen, view, view1, isData, beq_lit, IntKind.bits, p, h]
theorem e12 (H : Hp) (s : List UInt8) (i : Int) : ev R 12 [.d (.str s), .d (.int .i64 i)] H = some (.d (.int .i64 (bitOr s i)), H) := by
  refine ev_fn (fn := f12) rfl rfl ?_
  unfold bitOr
  by_cases h1 : s.length ≤ 40
  · have h1' : ¬ (40 < (s.length : Int)) := by omega
    by_cases h2 : 0 ≤ i ∧ i ≤ 319
    · have p36 : pureCall (ev R) 36 [.d (.str s), .d (.int .i64 i)] = some (.d (.int .i64 (bit s i))) := pureCall_eq fun H => e36 H s i h2.1 h2.2
      simp [-List.getD_eq_getElem?_getD, evBody, f12, evCode, evOps, evOper, evOp, opd, Env.get, Env.put, Env.keep, zipEnv, V.ok, binD, binInt, shInt, unD, asI, leave, resOf, mapO, fzV, tupOf, htake, hlen, view, view1, isData, beq_lit, IntKind.bits, h1, h1', h2, p35, p36]
    · have hb : (decide (i ≥ 0) && decide (i ≤ 319)) = false := by
        cases hh : (decide (i ≥ 0) && decide (i ≤ 319)) with
        | false => rfl
        | true => simp at hh; exact absurd hh h2
      have p := p35 i 0 319
      rw [hb] at p
      simp [-List.getD_eq_getElem?_getD, evBody, f12, evCode, evOps, evOper, evOp, opd, Env.get, Env.put, Env.keep, zipEnv, V.ok, binD, binInt, shInt, unD, asI, leave, resOf, mapO, fzV, tupOf, htake, hlen, view, view1, isData, beq_lit, IntKind.bits, h1, h1', h2, p]
  · have h1' : 40 < (s.length : Int) := by omega
    simp [-List.getD_eq_getElem?_getD, evBody, f12, evCode, evOps, evOper, evOp, opd, Env.get, Env.put, Env.keep, zipEnv, V.ok, binD, binInt, shInt, unD, asI, leave, resOf, mapO, fzV, tupOf, htake, hlen, view, view1, isData, beq_lit, IntKind.bits, h1, h1']
theorem p11 (s : List UInt8) (i : Int) : pureCall (ev R) 11 [.d (.str s), .d (.int .i64 i)] = some (.d (.int .i64 (bitOr s i))) := pureCall_eq fun H => e11 H s i
theorem p12 (s : List UInt8) (i : Int) : pureCall (ev R) 12 [.d (.str s), .d (.int .i64 i)] = some (.d (.int .i64 (bitOr s i))) := pureCall_eq fun H => e12 H s i
theorem e3 (H : Hp) (s : List UInt8) (i : Int) : ev R 3 [.d (.str s), .d (.int .i64 i)] H = some (.d (.bool true), H) := by
  refine ev_fn (fn := f3) rfl rfl ?_
  by_cases h1 : 1048576 < (s.length : Int)
  · simp [-List.getD_eq_getElem?_getD, evBody, f3, evCode, evOps, evOper, evOp, opd, Env.get, Env.put, Env.keep, zipEnv, V.ok, binD, binInt, shInt, unD, asI, leave, resOf, mapO, fzV, tupOf, htake, hlen, view, view1, isData, beq_lit, IntKind.bits, h1]
  · simp [-List.getD_eq_getElem?_getD, evBody, f3, evCode, evOps, evOper, evOp, opd, Env.get, Env.put, Env.keep, zipEnv, V.ok, binD, binInt, shInt, unD, asI, leave, resOf, mapO, fzV, tupOf, htake, hlen, view, view1, isData, beq_lit, IntKind.bits, h1, p11, p12]
namespace fnExactTextBitGet
theorem answers (s : ByteArray) (i : Int) (w : World) (_ : s.size ≤ 140737488351232) (_ : (Lit.int .i64 i).wf = true) : Calls Try.prog 3 #[.string s, .int .i64 i] w fun e w' => e = .returned (.bool true) ∧ RowKit.Below w.heap.size w w' :=
  calls_bool prg_ok (xs := [.str s.data.toList, .int .i64 i]) (e3 [] _ _) gr_tab rfl fun j hj => by
    match j, hj with
    | 0, _ => exact rd_str w s
    | 1, _ => exact rd_int w .i64 i
end fnExactTextBitGet
end Go.Proofs.Ytlijncbdinoheaa.Code

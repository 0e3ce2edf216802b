/- The reader that draws: a row of a slice of bytes and a place. -/
import Derived.Test.YtpmphmpaeooeeaaDoorC
import Derived.Test.YtpmphmpaeooeeaaDoorE28
namespace Go.Proofs.YtpmphmpaeooeeaaDoor.Code
open Go Go.Ev Go.Proofs
set_option maxRecDepth 100000
set_option linter.unusedSimpArgs false
set_option linter.unusedVariables false
abbrev bytesD (bs : List Int) : D := .vals 1 (bs.map (.int .u8))
def rd (bs : List Int) (p : Int) : Ev.Obj := .row 0 2 [.d (.agg [bytesD bs, .int .i64 p])]
theorem rd_row {H : Hp} {r : Nat} {bs : List Int} {p : Int} (h : hget H r = some (rd bs p)) : rowOf H r 0 = some (2, [.d (.agg [bytesD bs, .int .i64 p])]) := by
  simp [rowOf, h, rd]
theorem rd_load0 {H : Hp} {r : Nat} {bs : List Int} {p : Int} (h : hget H r = some (rd bs p)) : hload H r 0 0 0 1 = some [.d (bytesD bs)] := by
  simp [hload, rd_row h, V.cells]
theorem rd_load1 {H : Hp} {r : Nat} {bs : List Int} {p : Int} (h : hget H r = some (rd bs p)) : hload H r 0 0 1 1 = some [.d (.int .i64 p)] := by
  simp [hload, rd_row h, V.cells]
theorem rd_store {H : Hp} {r : Nat} {bs : List Int} {p q : Int} (h : hget H r = some (rd bs p)) : hstore H r 0 0 1 [.d (.int .i64 q)] = some (hset H r (rd bs q)) := by
  simp [hstore, rd_row h, V.cells, reCell, V.isAgg, mkAgg, allD, rd]
theorem htake_hset {H : Hp} {r : Nat} {o : Ev.Obj} : htake (hset H r o) (hlen H) = hset H r o := by
  have := htake_self (hset H r o)
  rwa [hlen_hset] at this
def okBytes (bs : List Int) : Prop := bs.length ≤ 2000 ∧ ∀ i, 0 ≤ bs.getD i 0 ∧ bs.getD i 0 ≤ 255
theorem bytes_get (bs : List Int) (i : Nat) (hi : i < bs.length) : (bs.map (D.int .u8)).getD i .nilp = .int .u8 (bs.getD i 0) := by
  simp [List.getD_eq_getElem?_getD, hi]
theorem xor_in (x y : Int) (hx : 0 ≤ x) (hx2 : x < 9223372036854775808) (hy : 0 ≤ y) (hy2 : y < 9223372036854775808) : ∃ z, bitsOp .xor .i64 x y = some z ∧ 0 ≤ z := by
  obtain ⟨a, rfl⟩ := Int.eq_ofNat_of_zero_le hx
  obtain ⟨b, rfl⟩ := Int.eq_ofNat_of_zero_le hy
  have ha : a < 2 ^ 63 := by omega
  have hb : b < 2 ^ 63 := by omega
  have hlt : a ^^^ b < 2 ^ 63 := Nat.xor_lt_two_pow ha hb
  have e : ((BitVec.ofInt 64 (a : Int) ^^^ BitVec.ofInt 64 (b : Int)).toNat : Int) = ((a ^^^ b : Nat) : Int) := by
    rw [BitVec.ofInt_natCast, BitVec.ofInt_natCast, BitVec.toNat_xor, BitVec.toNat_ofNat, BitVec.toNat_ofNat, Nat.mod_eq_of_lt (by omega), Nat.mod_eq_of_lt (by omega)]
  refine ⟨((a ^^^ b : Nat) : Int), ?_, by omega⟩
  show some (IntKind.i64.wrap ((BitVec.ofInt 64 (a : Int) ^^^ BitVec.ofInt 64 (b : Int)).toNat : Int)) = _
  rw [e, IntWalk.i64_in _ (by omega)]
/-- What is drawn far behind. -/
def farV (bs : List Int) (p : Int) : Int :=
  bs.getD (p.tmod bs.length).toNat 0 * 131 + bs.getD ((p * 7 + 3).tmod bs.length).toNat 0 * 1117 + p * 29 + p.tdiv bs.length * 53
def pickV (bs : List Int) (p n : Int) : Int :=
  if n < 1 then 0 else if bs.length = 0 then 0 else if p < bs.length then (bs.getD p.toNat 0).tmod n else ((bitsOp .xor .i64 (farV bs p) ((farV bs p).tdiv 64)).getD 0).tmod n
theorem e45 (H : Hp) (r : Nat) (bs : List Int) (p n : Int) (h : hget H r = some (rd bs p)) (hb : okBytes bs) (hp : 0 ≤ p) (hp2 : p ≤ 1000000000000) : ev R 45 [.ptr r 0 0 0, .d (.int .i64 n)] H = some (.d (.int .i64 (pickV bs p n)), hset H r (rd bs (p + 1))) := by
  refine ev_fn (fn := f45) rfl rfl ?_
  have w1 : IntKind.i64.wrap (p + 1) = p + 1 := IntWalk.i64_in _ (by omega)
  have w2 : IntKind.i64.wrap p = p := IntWalk.i64_in _ (by omega)
  have hl := hget_lt h
  have h1 : hget (hset H r (rd bs (p + 1))) r = some (rd bs (p + 1)) := hget_hset_self _ hl
  have a0 := rd_load0 h1
  have a1 := rd_load1 h1
  have b1 := rd_load1 h
  have st := rd_store (q := p + 1) h
  unfold pickV
  by_cases hn : n < 1
  · simp [-List.getD_eq_getElem?_getD, -List.map_map, evBody, evCode, evOps, evOper, evOp, opd, Env.get, Env.put, Env.keep, zipEnv, V.ok, V.sto, V.cells, D.cells, V.isAgg, binD, binInt, binStr, shInt, unD, eqOf, asI, leave, resOf, mapO, fzV, tupOf, view, view1, isData, hand, flatV, flatD, allD, mkAgg, mkVal, beq_lit, IntKind.bits, htake_self, htake_push, hget_hpush_self, hset_push, rowOf_self, okIn, lowIn, lowIn1, fzC_d, fzC_row, f45, w1, w2, a0, a1, b1, st, hn, htake_hset]
  · by_cases hz : bs.length = 0
    · have hz' : bs = [] := List.eq_nil_of_length_eq_zero hz
      subst hz'
      simp [-List.getD_eq_getElem?_getD, -List.map_map, evBody, evCode, evOps, evOper, evOp, opd, Env.get, Env.put, Env.keep, zipEnv, V.ok, V.sto, V.cells, D.cells, V.isAgg, binD, binInt, binStr, shInt, unD, eqOf, asI, leave, resOf, mapO, fzV, tupOf, view, view1, isData, hand, flatV, flatD, allD, mkAgg, mkVal, beq_lit, IntKind.bits, htake_self, htake_push, hget_hpush_self, hset_push, rowOf_self, okIn, lowIn, lowIn1, fzC_d, fzC_row, f45, w1, w2, a0, a1, b1, st, hn, htake_hset]
    · have hz' : ¬ bs = [] := fun e => hz (by subst e; rfl)
      have n0 : ¬ n = 0 := by omega
      by_cases hlt : p < (bs.length : Int)
      · have g := bytes_get bs p.toNat (by omega)
        have bb := hb.2 p.toNat
        have w3 : IntKind.i64.wrap (bs.getD p.toNat 0) = bs.getD p.toNat 0 := IntWalk.i64_in _ (by omega)
        simp [-List.getD_eq_getElem?_getD, -List.map_map, evBody, evCode, evOps, evOper, evOp, opd, Env.get, Env.put, Env.keep, zipEnv, V.ok, V.sto, V.cells, D.cells, V.isAgg, binD, binInt, binStr, shInt, unD, eqOf, asI, leave, resOf, mapO, fzV, tupOf, view, view1, isData, hand, flatV, flatD, allD, mkAgg, mkVal, beq_lit, IntKind.bits, htake_self, htake_push, hget_hpush_self, hset_push, rowOf_self, okIn, lowIn, lowIn1, fzC_d, fzC_row, f45, w1, w2, w3, a0, a1, b1, st, hn, hz, hz', hp, hlt, g, n0, htake_hset]
      · have L0 : (0 : Int) < bs.length := by omega
        have lz : ¬ (bs.length : Int) = 0 := by omega
        have i1 : 0 ≤ p.tmod bs.length := Int.tmod_nonneg _ hp
        have i2 : p.tmod bs.length < bs.length := Int.tmod_lt_of_pos _ L0
        have j1 : 0 ≤ (p * 7 + 3).tmod bs.length := Int.tmod_nonneg _ (by omega)
        have j2 : (p * 7 + 3).tmod bs.length < bs.length := Int.tmod_lt_of_pos _ L0
        have g1 := bytes_get bs (p.tmod bs.length).toNat (by omega)
        have g2 := bytes_get bs ((p * 7 + 3).tmod bs.length).toNat (by omega)
        have c1 := hb.2 (p.tmod bs.length).toNat
        have c2 := hb.2 ((p * 7 + 3).tmod bs.length).toNat
        have d0 : 0 ≤ p.tdiv bs.length ∧ p.tdiv bs.length ≤ p := by
          rw [Int.tdiv_eq_ediv_of_nonneg hp]
          exact ⟨Int.ediv_nonneg hp (by omega), Int.ediv_le_self _ hp⟩
        obtain ⟨X, hX⟩ : ∃ X, X = farV bs p := ⟨_, rfl⟩
        have hXe := hX
        unfold farV at hXe
        rw [← hX]
        generalize bs.getD (p.tmod bs.length).toNat 0 = x1 at g1 c1 hXe ⊢
        generalize bs.getD ((p * 7 + 3).tmod bs.length).toNat 0 = x2 at g2 c2 hXe ⊢
        generalize hq : p.tdiv bs.length = q at d0 hXe ⊢
        have xb : 0 ≤ X ∧ X < 9223372036854775807 := by omega
        have t0 : 0 ≤ X.tdiv 64 ∧ X.tdiv 64 ≤ X := by
          rw [Int.tdiv_eq_ediv_of_nonneg xb.1]
          omega
        obtain ⟨z, hz1, hz2⟩ := xor_in X (X.tdiv 64) xb.1 (by omega) t0.1 (by omega)
        have v1 : IntKind.i64.wrap x1 = x1 := IntWalk.i64_in _ (by omega)
        have v2 : IntKind.i64.wrap (x1 * 131) = x1 * 131 := IntWalk.i64_in _ (by omega)
        have v3 : IntKind.i64.wrap (p * 7) = p * 7 := IntWalk.i64_in _ (by omega)
        have v4 : IntKind.i64.wrap (p * 7 + 3) = p * 7 + 3 := IntWalk.i64_in _ (by omega)
        have v5 : IntKind.i64.wrap x2 = x2 := IntWalk.i64_in _ (by omega)
        have v6 : IntKind.i64.wrap (x2 * 1117) = x2 * 1117 := IntWalk.i64_in _ (by omega)
        have v7 : IntKind.i64.wrap (x1 * 131 + x2 * 1117) = x1 * 131 + x2 * 1117 := IntWalk.i64_in _ (by omega)
        have v8 : IntKind.i64.wrap (p * 29) = p * 29 := IntWalk.i64_in _ (by omega)
        have v9 : IntKind.i64.wrap (x1 * 131 + x2 * 1117 + p * 29) = x1 * 131 + x2 * 1117 + p * 29 := IntWalk.i64_in _ (by omega)
        have v10 : IntKind.i64.wrap q = q := IntWalk.i64_in _ (by omega)
        have v11 : IntKind.i64.wrap (q * 53) = q * 53 := IntWalk.i64_in _ (by omega)
        have v12 : IntKind.i64.wrap (x1 * 131 + x2 * 1117 + p * 29 + q * 53) = X := by rw [hXe]; exact IntWalk.i64_in _ (by omega)
        have v13 : IntKind.i64.wrap (X.tdiv 64) = X.tdiv 64 := IntWalk.i64_in _ (by omega)
        simp [-List.getD_eq_getElem?_getD, -List.map_map, evBody, evCode, evOps, evOper, evOp, opd, Env.get, Env.put, Env.keep, zipEnv, V.ok, V.sto, V.cells, D.cells, V.isAgg, binD, binInt, binStr, shInt, unD, eqOf, asI, leave, resOf, mapO, fzV, tupOf, view, view1, isData, hand, flatV, flatD, allD, mkAgg, mkVal, beq_lit, IntKind.bits, htake_self, htake_push, hget_hpush_self, hset_push, rowOf_self, okIn, lowIn, lowIn1, fzC_d, fzC_row, f45, w1, w2, a0, a1, b1, st, hn, hz, hz', hlt, n0, lz, htake_hset, i1, i2, j1, j2, g1, g2, hq, v1, v2, v3, v4, v5, v6, v7, v8, v9, v10, v11, v12, v13, hz1]
theorem pickV_in (bs : List Int) (p n : Int) (hb : okBytes bs) (hp : 0 ≤ p) (hp2 : p ≤ 1000000000000) : 0 ≤ pickV bs p n ∧ (1 ≤ n → pickV bs p n < n) := by
  unfold pickV
  split
  · omega
  · split
    · omega
    · split
      · have := hb.2 p.toNat
        exact ⟨Int.tmod_nonneg _ this.1, fun h => Int.tmod_lt_of_pos _ (by omega)⟩
      · rename_i h1 h2 h3
        have c1 := hb.2 (p.tmod bs.length).toNat
        have c2 := hb.2 ((p * 7 + 3).tmod bs.length).toNat
        have d0 : 0 ≤ p.tdiv bs.length ∧ p.tdiv bs.length ≤ p := by
          rw [Int.tdiv_eq_ediv_of_nonneg hp]
          exact ⟨Int.ediv_nonneg hp (by omega), Int.ediv_le_self _ hp⟩
        have xb : 0 ≤ farV bs p ∧ farV bs p < 9223372036854775807 := by
          unfold farV
          omega
        have t0 : 0 ≤ (farV bs p).tdiv 64 ∧ (farV bs p).tdiv 64 ≤ farV bs p := by
          rw [Int.tdiv_eq_ediv_of_nonneg xb.1]
          omega
        obtain ⟨z, hz1, hz2⟩ := xor_in (farV bs p) ((farV bs p).tdiv 64) xb.1 (by omega) t0.1 (by omega)
        rw [hz1]
        exact ⟨Int.tmod_nonneg _ hz2, fun h => Int.tmod_lt_of_pos _ (by omega)⟩
/-- One of a list, drawn. -/
def ofV (bs : List Int) (p : Int) (xs : List Txt) : Txt := xs.getD (pickV bs p xs.length).toNat []
theorem e67 (H : Hp) (r : Nat) (bs : List Int) (p : Int) (xs : List Txt) (h : hget H r = some (rd bs p)) (hb : okBytes bs) (hp : 0 ≤ p) (hp2 : p ≤ 1000000000000) (hx : 0 < xs.length) : ev R 67 [.ptr r 0 0 0, .d (txts xs)] H = some (.d (.str (ofV bs p xs)), hset H r (rd bs (p + 1))) := by
  refine ev_fn (fn := f67) rfl rfl ?_
  have q := e45 H r bs p xs.length h hb hp hp2
  obtain ⟨k0, k1⟩ := pickV_in bs p xs.length hb hp hp2
  have k1 := k1 (by omega)
  have g := txts_get xs (pickV bs p xs.length).toNat (by omega)
  simp [-List.getD_eq_getElem?_getD, -List.map_map, evBody, evCode, evOps, evOper, evOp, opd, Env.get, Env.put, Env.keep, zipEnv, V.ok, V.sto, V.cells, D.cells, V.isAgg, binD, binInt, binStr, shInt, unD, eqOf, asI, leave, resOf, mapO, fzV, tupOf, view, view1, isData, hand, flatV, flatD, allD, mkAgg, mkVal, beq_lit, IntKind.bits, htake_self, htake_push, hget_hpush_self, hset_push, rowOf_self, okIn, lowIn, lowIn1, fzC_d, fzC_row, f67, txts, q, k0, k1, g, htake_hset, ofV]
/-- A text, as often as that. -/
def many (s : Txt) (n : Nat) (out : Txt) : Txt :=
  if h : n = 0 then out else many (s ++ s) (n / 2) (if n % 2 = 1 then out ++ s else out)
termination_by n
decreasing_by omega
theorem l95 (n0 : Nat) (H : Hp) : ∀ (n : Nat) (s out : Txt) (e : Env), n ≤ 1000 → out.length + s.length * n ≤ 1000000 → s.length ≤ 2000000 → e.get 0 = .d (.str s) → e.get 1 = .d (.int .i64 n) → e.get 5 = .d (.str out) →
    ∃ e', evLoop (evCode (ev R) R.glob n0 evLoop f95l0) [0, 1, 5] ⟨e, H⟩ = some (.exit 0, ⟨e', H⟩) ∧ e'.get 5 = .d (.str (many s n out)) := by
  intro n
  induction n using Nat.strongRecOn with
  | _ n ih =>
    intro s out e hn hl hsl h0 h1 h5
    by_cases hz : n = 0
    · subst hz
      rw [evLoop_eq]
      refine ⟨?_, ?_, ?_⟩
      rotate_left
      · simp [-List.getD_eq_getElem?_getD, -List.map_map, evBody, evCode, evOps, evOper, evOp, opd, Env.get, Env.put, Env.keep, zipEnv, V.ok, V.sto, V.cells, D.cells, V.isAgg, binD, binInt, binStr, shInt, unD, eqOf, asI, leave, resOf, mapO, fzV, tupOf, view, view1, isData, hand, flatV, flatD, allD, mkAgg, mkVal, beq_lit, IntKind.bits, htake_self, htake_push, hget_hpush_self, hset_push, rowOf_self, okIn, lowIn, lowIn1, fzC_d, fzC_row, f95l0, h0, h1, h5]
        rfl
      · rw [many]
        simp [-List.getD_eq_getElem?_getD, -List.map_map, evBody, evCode, evOps, evOper, evOp, opd, Env.get, Env.put, Env.keep, zipEnv, V.ok, V.sto, V.cells, D.cells, V.isAgg, binD, binInt, binStr, shInt, unD, eqOf, asI, leave, resOf, mapO, fzV, tupOf, view, view1, isData, hand, flatV, flatD, allD, mkAgg, mkVal, beq_lit, IntKind.bits, htake_self, htake_push, hget_hpush_self, hset_push, rowOf_self, okIn, lowIn, lowIn1, fzC_d, fzC_row, h5]
    · have c : (0 : Int) < (n : Int) := by omega
      have c' : 0 < n := by omega
      have m2 : IntKind.i64.wrap ((n : Int).tdiv 2) = ((n / 2 : Nat) : Int) := by
        rw [Int.tdiv_eq_ediv_of_nonneg (by omega), IntWalk.i64_in _ (by omega)]; omega
      have m3 : IntKind.i64.wrap ((n : Int) / 2) = ((n / 2 : Nat) : Int) := by
        rw [IntWalk.i64_in _ (by omega)]; omega
      have hmul : s.length * (n / 2) * 2 ≤ s.length * n := by
        rw [Nat.mul_assoc]
        exact Nat.mul_le_mul_left _ (by omega)
      have hmul1 : s.length * 1 ≤ s.length * n := Nat.mul_le_mul_left _ (by omega)
      have l2 : s.length + s.length ≤ strRoom := by unfold strRoom; omega
      have l3 : out.length + s.length ≤ strRoom := by unfold strRoom; omega
      have hd : (s ++ s).length * (n / 2) = s.length * (n / 2) * 2 := by rw [List.length_append, Nat.add_mul]; omega
      have hsq : (s ++ s).length ≤ 2000000 := by rw [List.length_append]; omega
      have hodd : s.length * n = s.length * (n / 2) * 2 + s.length * (n % 2) := by
        rw [Nat.mul_assoc, ← Nat.mul_add]
        congr 1
        omega
      rw [evLoop_eq]
      have ih' := ih (n / 2) (by omega) (s ++ s) (if n % 2 = 1 then out ++ s else out)
      rw [many, dif_neg hz]
      generalize many (s ++ s) (n / 2) (if n % 2 = 1 then out ++ s else out) = M at ih' ⊢
      generalize evLoop (evCode (ev R) R.glob n0 evLoop f95l0) [0, 1, 5] = F at ih' ⊢
      by_cases odd : n % 2 = 1
      · have m1 : (n : Int).tmod 2 = 1 := by rw [Int.tmod_eq_emod_of_nonneg (by omega)]; omega
        rw [odd] at hodd
        simp only [odd, if_true] at ih'
        simp [-List.getD_eq_getElem?_getD, -List.map_map, evBody, evCode, evOps, evOper, evOp, opd, Env.get, Env.put, Env.keep, zipEnv, V.ok, V.sto, V.cells, D.cells, V.isAgg, binD, binInt, binStr, shInt, unD, eqOf, asI, leave, resOf, mapO, fzV, tupOf, view, view1, isData, hand, flatV, flatD, allD, mkAgg, mkVal, beq_lit, IntKind.bits, htake_self, htake_push, hget_hpush_self, hset_push, rowOf_self, okIn, lowIn, lowIn1, fzC_d, fzC_row, f95l0, h0, h1, h5, c, c', m1, m2, m3, l2, l3]
        refine ih' _ (by omega) ?_ hsq ?_ ?_ ?_
        · rw [hd, List.length_append]; omega
        all_goals rfl
      · have m1 : (n : Int).tmod 2 = 0 := by rw [Int.tmod_eq_emod_of_nonneg (by omega)]; omega
        simp only [odd, if_false] at ih'
        simp [-List.getD_eq_getElem?_getD, -List.map_map, evBody, evCode, evOps, evOper, evOp, opd, Env.get, Env.put, Env.keep, zipEnv, V.ok, V.sto, V.cells, D.cells, V.isAgg, binD, binInt, binStr, shInt, unD, eqOf, asI, leave, resOf, mapO, fzV, tupOf, view, view1, isData, hand, flatV, flatD, allD, mkAgg, mkVal, beq_lit, IntKind.bits, htake_self, htake_push, hget_hpush_self, hset_push, rowOf_self, okIn, lowIn, lowIn1, fzC_d, fzC_row, f95l0, h0, h1, h5, c, c', m1, m2, m3, l2, l3]
        refine ih' _ (by omega) ?_ hsq ?_ ?_ ?_
        · rw [hd]; omega
        all_goals rfl
theorem e95 (H : Hp) (s : Txt) (n : Nat) (hn : n ≤ 1000) (hs : s.length ≤ 1000) : ev R 95 [.d (.str s), .d (.int .i64 n)] H = some (.d (.str (many s n [])), H) := by
  refine ev_fn (fn := f95) rfl rfl ?_
  have hm : s.length * n ≤ 1000 * 1000 := Nat.mul_le_mul hs hn
  obtain ⟨e', he, h5⟩ := l95 (hlen H) H n s [] [(0, .d (.str s)), (1, .d (.int .i64 n)), (5, .d (.str []))] hn (by simp; omega) (by omega) rfl rfl rfl
  simp [-List.getD_eq_getElem?_getD, -List.map_map, evBody, evCode, evOps, evOper, evOp, opd, Env.get, Env.put, Env.keep, zipEnv, V.ok, V.sto, V.cells, D.cells, V.isAgg, binD, binInt, binStr, shInt, unD, eqOf, asI, leave, resOf, mapO, fzV, tupOf, view, view1, isData, hand, flatV, flatD, allD, mkAgg, mkVal, beq_lit, IntKind.bits, htake_self, htake_push, hget_hpush_self, hset_push, rowOf_self, okIn, lowIn, lowIn1, fzC_d, fzC_row, f95, he, h5]
def textList : List Txt := [[], [97], [98], [99], [53], [45, 51], [104, 101, 108, 108, 111], [13, 10], [255], many [120] 40 [], [57, 57, 57, 57, 57, 57, 57, 57, 57]]
/-- A text, drawn. -/
def textV (bs : List Int) (p : Int) : Txt := ofV bs p textList
theorem e71 (H : Hp) (r : Nat) (bs : List Int) (p : Int) (h : hget H r = some (rd bs p)) (hb : okBytes bs) (hp : 0 ≤ p) (hp2 : p ≤ 1000000000000) : ev R 71 [.ptr r 0 0 0] H = some (.d (.str (textV bs p)), hset H r (rd bs (p + 1))) := by
  refine ev_fn (fn := f71) rfl rfl ?_
  have q := e67 H r bs p textList h hb hp hp2 (by simp [textList])
  have m : pureCall (ev R) 95 [.d (.str [120]), .d (.int .i64 40)] = some (.d (.str (many [120] 40 []))) := pureCall_eq fun H => e95 H [120] 40 (by omega) (by simp)
  unfold textV
  simp only [textList, txts, List.map_cons, List.map_nil] at q ⊢
  simp [-List.getD_eq_getElem?_getD, -List.map_map, evBody, evCode, evOps, evOper, evOp, opd, Env.get, Env.put, Env.keep, zipEnv, V.ok, V.sto, V.cells, D.cells, V.isAgg, binD, binInt, binStr, shInt, unD, eqOf, asI, leave, resOf, mapO, fzV, tupOf, view, view1, isData, hand, flatV, flatD, allD, mkAgg, mkVal, beq_lit, IntKind.bits, htake_self, htake_push, hget_hpush_self, hset_push, rowOf_self, okIn, lowIn, lowIn1, fzC_d, fzC_row, f71, m, q, htake_hset]
theorem many_len (s : Txt) (n : Nat) (out : Txt) : (many s n out).length = out.length + s.length * n := by
  induction n using Nat.strongRecOn generalizing s out with
  | _ n ih =>
    rw [many]
    split
    · rename_i h; subst h; simp
    · rw [ih (n / 2) (by omega)]
      have hodd : s.length * n = s.length * (n / 2) * 2 + s.length * (n % 2) := by
        rw [Nat.mul_assoc, ← Nat.mul_add]
        congr 1
        omega
      have hd : (s ++ s).length * (n / 2) = s.length * (n / 2) * 2 := by rw [List.length_append, Nat.add_mul]; omega
      rw [hd]
      split
      · rename_i h; rw [h] at hodd; rw [List.length_append]; omega
      · rename_i h; have : n % 2 = 0 := by omega
        rw [this] at hodd; omega
theorem ofV_all (bs : List Int) (p : Int) (xs : List Txt) (m : Nat) (h : ∀ x ∈ xs, x.length ≤ m) : (ofV bs p xs).length ≤ m := by
  unfold ofV
  by_cases hi : (pickV bs p xs.length).toNat < xs.length
  · rw [List.getD_eq_getElem?_getD, List.getElem?_eq_getElem hi]
    exact h _ (List.getElem_mem hi)
  · rw [List.getD_eq_getElem?_getD, List.getElem?_eq_none (by omega)]
    exact Nat.zero_le _
theorem textV_len (bs : List Int) (p : Int) : (textV bs p).length ≤ 40 := by
  refine ofV_all bs p textList 40 fun x hx => ?_
  have hm := many_len [120] 40 []
  simp only [textList, List.mem_cons, List.not_mem_nil, or_false] at hx
  rcases hx with rfl | rfl | rfl | rfl | rfl | rfl | rfl | rfl | rfl | rfl | rfl <;> first | (rw [hm]; simp) | simp
/-- The bytes that the reader reads. -/
def opened (bs : List Int) : List Int := bs.take 2000
theorem opened_ok (bs : List Int) (h : ∀ i, 0 ≤ bs.getD i 0 ∧ bs.getD i 0 ≤ 255) : okBytes (opened bs) := by
  refine ⟨by simp [opened]; omega, fun i => ?_⟩
  by_cases hi : i < 2000
  · have : (opened bs).getD i 0 = bs.getD i 0 := by simp [opened, List.getD_eq_getElem?_getD, List.getElem?_take, hi]
    rw [this]; exact h i
  · have : (opened bs).getD i 0 = 0 := by simp [opened, List.getD_eq_getElem?_getD, List.getElem?_take, hi]
    rw [this]; omega
theorem e39 (H : Hp) (bs : List Int) : ev R 39 [.d (bytesD bs)] H = some (.ptr (hlen H) 0 0 0, hpush H (rd (opened bs) 0)) := by
  refine ev_fn (fn := f39) rfl rfl ?_
  by_cases hb : 2000 < (bs.length : Int)
  · have h1 : 2000 ≤ bs.length := by omega
    have h2 : (2000 : Int) ≤ bs.length := by omega

    simp [-List.getD_eq_getElem?_getD, -List.map_map, evBody, evCode, evOps, evOper, evOp, opd, Env.get, Env.put, Env.keep, zipEnv, V.ok, V.sto, V.cells, D.cells, V.isAgg, binD, binInt, binStr, shInt, unD, eqOf, asI, leave, resOf, mapO, fzV, tupOf, view, view1, isData, hand, flatV, flatD, allD, mkAgg, mkVal, beq_lit, IntKind.bits, htake_self, htake_push, hget_hpush_self, hset_push, rowOf_self, okIn, lowIn, lowIn1, fzC_d, fzC_row, f39, hb, h1, h2, bound, fills, setAt, ownL, ownCs, own1, rd, opened, ownEs, ownEl, layer]
    simp only [bytesD, List.map_take]
  · have h1 : ¬ 2000 < bs.length := by omega
    have e : bs.take 2000 = bs := List.take_of_length_le (by omega)
    simp [-List.getD_eq_getElem?_getD, -List.map_map, evBody, evCode, evOps, evOper, evOp, opd, Env.get, Env.put, Env.keep, zipEnv, V.ok, V.sto, V.cells, D.cells, V.isAgg, binD, binInt, binStr, shInt, unD, eqOf, asI, leave, resOf, mapO, fzV, tupOf, view, view1, isData, hand, flatV, flatD, allD, mkAgg, mkVal, beq_lit, IntKind.bits, htake_self, htake_push, hget_hpush_self, hset_push, rowOf_self, okIn, lowIn, lowIn1, fzC_d, fzC_row, f39, hb, h1, fills, setAt, ownL, ownCs, own1, rd, opened, e, ownEs, ownEl, layer]
/-- The texts that a bit is looked for in. -/
def bitTexts (t : Txt) : List Txt := [[], [255], [0, 1], [255, 254], [0], t]
end Go.Proofs.YtpmphmpaeooeeaaDoor.Code

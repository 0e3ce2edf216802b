/- The reader that draws: a row of a slice of bytes and a place. -/
import Derived.Test.YtpmphmpaeooeeaaDoorC
import Derived.Test.YtpmphmpaeooeeaaDoorE28
namespace Go.Proofs.YtpmphmpaeooeeaaDoor.Code
open Go Go.Ev Go.Proofs
set_option maxRecDepth 100000
set_option linter.unusedSimpArgs false
set_option linter.unusedVariables false
abbrev bytesD (bs : List Int) : D := .vals 1 (bs.map (.int .u8))
def rd (bs : List Int) (p : Int) : Ev.Obj := .row 0 2 [.d (.agg [bytesD bs, .int .i64 p])]
theorem rd_row {H : Hp} {r : Nat} {bs : List Int} {p : Int} (h : hget H r = some (rd bs p)) : rowOf H r 0 = some (2, [.d (.agg [bytesD bs, .int .i64 p])]) := by
  simp [rowOf, h, rd]
theorem rd_load0 {H : Hp} {r : Nat} {bs : List Int} {p : Int} (h : hget H r = some (rd bs p)) : hload H r 0 0 0 1 = some [.d (bytesD bs)] := by
  simp [hload, rd_row h, V.cells]
theorem rd_load1 {H : Hp} {r : Nat} {bs : List Int} {p : Int} (h : hget H r = some (rd bs p)) : hload H r 0 0 1 1 = some [.d (.int .i64 p)] := by
  simp [hload, rd_row h, V.cells]
theorem rd_store {H : Hp} {r : Nat} {bs : List Int} {p q : Int} (h : hget H r = some (rd bs p)) : hstore H r 0 0 1 [.d (.int .i64 q)] = some (hset H r (rd bs q)) := by
  simp [hstore, rd_row h, V.cells, reCell, V.isAgg, mkAgg, allD, rd]
theorem htake_hset {H : Hp} {r : Nat} {o : Ev.Obj} : htake (hset H r o) (hlen H) = hset H r o := by
  have := htake_self (hset H r o)
  rwa [hlen_hset] at this
def okBytes (bs : List Int) : Prop := bs.length ≤ 2000 ∧ ∀ i, 0 ≤ bs.getD i 0 ∧ bs.getD i 0 ≤ 255
theorem bytes_get (bs : List Int) (i : Nat) (hi : i < bs.length) : (bs.map (D.int .u8)).getD i .nilp = .int .u8 (bs.getD i 0) := by
  simp [List.getD_eq_getElem?_getD, hi]
theorem xor_in (x y : Int) (hx : 0 ≤ x) (hx2 : x < 9223372036854775808) (hy : 0 ≤ y) (hy2 : y < 9223372036854775808) : ∃ z, bitsOp .xor .i64 x y = some z ∧ 0 ≤ z := by
  obtain ⟨a, rfl⟩ := Int.eq_ofNat_of_zero_le hx
  obtain ⟨b, rfl⟩ := Int.eq_ofNat_of_zero_le hy
  have ha : a < 2 ^ 63 := by omega
  have hb : b < 2 ^ 63 := by omega
  have hlt : a ^^^ b < 2 ^ 63 := Nat.xor_lt_two_pow ha hb
  have e : ((BitVec.ofInt 64 (a : Int) ^^^ BitVec.ofInt 64 (b : Int)).toNat : Int) = ((a ^^^ b : Nat) : Int) := by
    rw [BitVec.ofInt_natCast, BitVec.ofInt_natCast, BitVec.toNat_xor, BitVec.toNat_ofNat, BitVec.toNat_ofNat, Nat.mod_eq_of_lt (by omega), Nat.mod_eq_of_lt (by omega)]
  refine ⟨((a ^^^ b : Nat) : Int), ?_, by omega⟩
  show some (IntKind.i64.wrap ((BitVec.ofInt 64 (a : Int) ^^^ BitVec.ofInt 64 (b : Int)).toNat : Int)) = _
  rw [e, IntWalk.i64_in _ (by omega)]
/-- What is drawn far behind. -/
def farV (bs : List Int) (p : Int) : Int :=
  bs.getD (p.tmod bs.length).toNat 0 * 131 + bs.getD ((p * 7 + 3).tmod bs.length).toNat 0 * 1117 + p * 29 + p.tdiv bs.length * 53
def pickV (bs : List Int) (p n : Int) : Int :=
  if n < 1 then 0 else if bs.length = 0 then 0 else if p < bs.length then (bs.getD p.toNat 0).tmod n else ((bitsOp .xor .i64 (farV bs p) ((farV bs p).tdiv 64)).getD 0).tmod n
theorem pickV_in (bs : List Int) (p n : Int) (hb : okBytes bs) (hp : 0 ≤ p) (hp2 : p ≤ 1000000000000) : 0 ≤ pickV bs p n ∧ (1 ≤ n → pickV bs p n < n) := by
  unfold pickV
  split
  · omega
  · split
    · omega
    · split
      · have := hb.2 p.toNat
        exact ⟨Int.tmod_nonneg _ this.1, fun h => Int.tmod_lt_of_pos _ (by omega)⟩
      · rename_i h1 h2 h3
        have c1 := hb.2 (p.tmod bs.length).toNat
        have c2 := hb.2 ((p * 7 + 3).tmod bs.length).toNat
        have d0 : 0 ≤ p.tdiv bs.length ∧ p.tdiv bs.length ≤ p := by
          rw [Int.tdiv_eq_ediv_of_nonneg hp]
          exact ⟨Int.ediv_nonneg hp (by omega), Int.ediv_le_self _ hp⟩
        have xb : 0 ≤ farV bs p ∧ farV bs p < 9223372036854775807 := by
          unfold farV
          omega
        have t0 : 0 ≤ (farV bs p).tdiv 64 ∧ (farV bs p).tdiv 64 ≤ farV bs p := by
          rw [Int.tdiv_eq_ediv_of_nonneg xb.1]
          omega
        obtain ⟨z, hz1, hz2⟩ := xor_in (farV bs p) ((farV bs p).tdiv 64) xb.1 (by omega) t0.1 (by omega)
        rw [hz1]
        exact ⟨Int.tmod_nonneg _ hz2, fun h => Int.tmod_lt_of_pos _ (by omega)⟩
/-- One of a list, drawn. -/
def ofV (bs : List Int) (p : Int) (xs : List Txt) : Txt := xs.getD (pickV bs p xs.length).toNat []
/-- A text, as often as that. -/
def many (s : Txt) (n : Nat) (out : Txt) : Txt :=
  if h : n = 0 then out else many (s ++ s) (n / 2) (if n % 2 = 1 then out ++ s else out)
termination_by n
decreasing_by omega
def textList : List Txt := [[], [97], [98], [99], [53], [45, 51], [104, 101, 108, 108, 111], [13, 10], [255], many [120] 40 [], [57, 57, 57, 57, 57, 57, 57, 57, 57]]
/-- A text, drawn. -/
def textV (bs : List Int) (p : Int) : Txt := ofV bs p textList
theorem many_len (s : Txt) (n : Nat) (out : Txt) : (many s n out).length = out.length + s.length * n := by
  induction n using Nat.strongRecOn generalizing s out with
  | _ n ih =>
    rw [many]
    split
    · rename_i h; subst h; simp
    · rw [ih (n / 2) (by omega)]
      have hodd : s.length * n = s.length * (n / 2) * 2 + s.length * (n % 2) := by
        rw [Nat.mul_assoc, ← Nat.mul_add]
        congr 1
        omega
      have hd : (s ++ s).length * (n / 2) = s.length * (n / 2) * 2 := by rw [List.length_append, Nat.add_mul]; omega
      rw [hd]
      split
      · rename_i h; rw [h] at hodd; rw [List.length_append]; omega
      · rename_i h; have : n % 2 = 0 := by omega
        rw [this] at hodd; omega
theorem ofV_all (bs : List Int) (p : Int) (xs : List Txt) (m : Nat) (h : ∀ x ∈ xs, x.length ≤ m) : (ofV bs p xs).length ≤ m := by
  unfold ofV
  by_cases hi : (pickV bs p xs.length).toNat < xs.length
  · rw [List.getD_eq_getElem?_getD, List.getElem?_eq_getElem hi]
    exact h _ (List.getElem_mem hi)
  · rw [List.getD_eq_getElem?_getD, List.getElem?_eq_none (by omega)]
    exact Nat.zero_le _
theorem textV_len (bs : List Int) (p : Int) : (textV bs p).length ≤ 40 := by
  refine ofV_all bs p textList 40 fun x hx => ?_
  have hm := many_len [120] 40 []
  simp only [textList, List.mem_cons, List.not_mem_nil, or_false] at hx
  rcases hx with rfl | rfl | rfl | rfl | rfl | rfl | rfl | rfl | rfl | rfl | rfl <;> first | (rw [hm]; simp) | simp
/-- The bytes that the reader reads. -/
def opened (bs : List Int) : List Int := bs.take 2000
theorem opened_ok (bs : List Int) (h : ∀ i, 0 ≤ bs.getD i 0 ∧ bs.getD i 0 ≤ 255) : okBytes (opened bs) := by
  refine ⟨by simp [opened]; omega, fun i => ?_⟩
  by_cases hi : i < 2000
  · have : (opened bs).getD i 0 = bs.getD i 0 := by simp [opened, List.getD_eq_getElem?_getD, List.getElem?_take, hi]
    rw [this]; exact h i
  · have : (opened bs).getD i 0 = 0 := by simp [opened, List.getD_eq_getElem?_getD, List.getElem?_take, hi]
    rw [this]; omega
/-- The texts that a bit is looked for in. -/
def bitTexts (t : Txt) : List Txt := [[], [255], [0, 1], [255, 254], [0], t]
end Go.Proofs.YtpmphmpaeooeeaaDoor.Code

/- Words for proofs about code: the newest row, searches, texts. -/
import Derived.Test.YtpmphmpaeooeeaaDoorE26
namespace Go.Ev
open Go
set_option linter.unusedSimpArgs false
set_option linter.unusedVariables false

theorem htake_self (H : Hp) : htake H (hlen H) = H := by simp [htake, hlen]
theorem htake_push (H : Hp) (o : Obj) : htake (hpush H o) (hlen H) = H := by simp [htake, hlen, hpush]
theorem hset_push (H : Hp) (o o' : Obj) : hset (hpush H o) (hlen H) o' = hpush H o' := by
  induction H with
  | nil => rfl
  | cons a H ih => exact congrArg (List.cons a) ih
theorem rowOf_self (H : Hp) (g e : Nat) (xs : List V) : rowOf (hpush H (.row g e xs)) (hlen H) g = some (e, xs) := by
  simp [rowOf, hget_hpush_self]

/-- A whole element of one cell is written. -/
theorem hstore_one {H : Hp} {g e : Nat} {xs : List V} {i : Nat} {x : D} {v : V} (hi : xs[i]? = some (.d x)) (hx : ∀ cs, x ≠ .agg cs) (hv : v.isAgg = false) :
    hstore (hpush H (.row g e xs)) (hlen H) g i 0 [v] = some (hpush H (.row g e (xs.set i v))) := by
  have h1 : (V.d x).isAgg = false := by cases x <;> first | rfl | exact absurd rfl (hx _)
  have h2 : (V.d x).cells = [.d x] := cells_of_one h1
  simp [hstore, rowOf_self, hi, h2, reCell, h1, hv, hset_push]

theorem mapO_d {n d : Nat} {H : Hp} : ∀ (ds : List D), mapO (fz n d H) (ds.map .d) = some ds
  | [] => rfl
  | x :: ds => by
    have : fz n d H (.d x) = some x := by cases d <;> rfl
    simp only [List.map_cons, mapO, this, mapO_d ds]
theorem fzC_d (n : Nat) (H : Hp) (x : D) : fzC n H (.d x) = some (.d x) := rfl
theorem fz_row {H : Hp} {n d r g i k e : Nat} {xs : List V} (hr : ¬ r < n) (h : rowOf H r g = some (e, xs)) (hk : i + k ≤ xs.length) {ys : List D} (hm : mapO (fz n d H) ((xs.drop i).take k) = some ys) : fz n (d + 1) H (.slc r g i k) = some (.vals e ys) := by
  rw [fz, if_neg hr, h]
  simp only [hk, if_true, hm]
theorem fzC_row_part (H : Hp) (g e : Nat) (ds : List D) (k : Nat) (hk : k ≤ ds.length) : fzC (hlen H) (hpush H (.row g e (ds.map .d))) (.slc (hlen H) g 0 k) = some (.d (.vals e (ds.take k))) := by
  have h : ((ds.map V.d).drop 0).take k = (ds.take k).map V.d := by rw [List.drop_zero, List.map_take]
  have := fz_row (H := hpush H (.row g e (ds.map .d))) (n := hlen H) (d := 7) (r := hlen H) (g := g) (i := 0) (k := k) (by omega) (rowOf_self H g e _) (by simpa using hk) (by rw [h]; exact mapO_d _)
  show (if hlen H < hlen H then _ else (match fz (hlen H) deep _ (.slc (hlen H) g 0 k) with | some x => some (V.d x) | none => none)) = _
  rw [if_neg (by omega), show deep = 7 + 1 from rfl, this]
/-- A new row that is handed back becomes data. -/
theorem fzC_row (H : Hp) (g e : Nat) (ds : List D) (k : Nat) (hk : k = ds.length) : fzC (hlen H) (hpush H (.row g e (ds.map .d))) (.slc (hlen H) g 0 k) = some (.d (.vals e ds)) := by
  subst hk
  rw [fzC_row_part H g e ds _ (Nat.le_refl _), List.take_length]

/-- The first number from i on, of n numbers, of which p holds. -/
def seek (p : Nat → Bool) : Nat → Nat → Option Nat
  | 0, _ => none
  | n + 1, i => if p i = true then some i else seek p n (i + 1)

theorem seek_some {p : Nat → Bool} : ∀ {n i j : Nat}, seek p n i = some j → i ≤ j ∧ j < i + n ∧ p j = true ∧ ∀ k, i ≤ k → k < j → p k = false
  | 0, i, j, h => by simp [seek] at h
  | n + 1, i, j, h => by
    simp only [seek] at h
    split at h
    · rename_i hp
      simp only [Option.some.injEq] at h; subst h
      exact ⟨Nat.le_refl _, by omega, hp, fun k h1 h2 => by omega⟩
    · rename_i hp
      obtain ⟨h1, h2, h3, h4⟩ := seek_some h
      refine ⟨by omega, by omega, h3, fun k k1 k2 => ?_⟩
      by_cases hk : k = i
      · subst hk; simpa using hp
      · exact h4 k (by omega) k2

theorem seek_none {p : Nat → Bool} : ∀ {n i : Nat}, seek p n i = none → ∀ k, i ≤ k → k < i + n → p k = false
  | 0, i, _, k, h1, h2 => by omega
  | n + 1, i, h, k, h1, h2 => by
    simp only [seek] at h
    split at h
    · simp at h
    · rename_i hp
      by_cases hk : k = i
      · subst hk; simpa using hp
      · exact seek_none h k (by omega) (by omega)

theorem seek_congr {p q : Nat → Bool} : ∀ {n i : Nat}, (∀ k, i ≤ k → k < i + n → p k = q k) → seek p n i = seek q n i
  | 0, _, _ => rfl
  | n + 1, i, h => by
    simp only [seek]
    rw [h i (by omega) (by omega), seek_congr fun k h1 h2 => h k (by omega) (by omega)]

abbrev Txt := List UInt8
/-- Texts, as a value. -/
abbrev txts (xs : List Txt) : D := .vals 1 (xs.map .str)
theorem txts_get (xs : List Txt) (i : Nat) (hi : i < xs.length) : (xs.map D.str).getD i .nilp = .str (xs.getD i []) := by
  simp [List.getD_eq_getElem?_getD, hi]

/-- A row of texts that is being filled: the first i stand. -/
def filled (xs : List Txt) (i : Nat) : List V := (xs.take i).map (fun t => V.d (.str t)) ++ List.replicate (xs.length - i) (V.d (.str []))
theorem filled_zero (xs : List Txt) : filled xs 0 = List.replicate xs.length (V.d (.str [])) := by simp [filled]
theorem filled_all (xs : List Txt) : filled xs xs.length = (xs.map D.str).map V.d := by simp [filled]
theorem filled_get (xs : List Txt) (i : Nat) (hi : i < xs.length) : (filled xs i)[i]? = some (V.d (.str [])) := by
  unfold filled
  rw [List.getElem?_append_right (by simp; omega)]
  have : i - ((xs.take i).map (fun t => V.d (.str t))).length = 0 := by simp; omega
  rw [this, List.getElem?_replicate, if_pos (by omega)]
theorem filled_set (xs : List Txt) (i : Nat) (hi : i < xs.length) : (filled xs i).set i (V.d (.str (xs.getD i []))) = filled xs (i + 1) := by
  unfold filled
  have h1 : ((xs.take i).map (fun t => V.d (.str t))).length = i := by simp; omega
  rw [List.set_append_right _ _ (by omega), h1, Nat.sub_self]
  obtain ⟨m, hm⟩ : ∃ m, xs.length - i = m + 1 := ⟨xs.length - i - 1, by omega⟩
  have h2 : xs.length - (i + 1) = m := by omega
  rw [hm, h2, List.replicate_succ, List.set_cons_zero]
  have h3 : xs.take (i + 1) = xs.take i ++ [xs.getD i []] := by
    rw [List.take_add_one]
    simp [List.getD_eq_getElem?_getD, hi]
  rw [h3]
  simp
theorem filled_store (H : Hp) (xs : List Txt) (i : Nat) (hi : i < xs.length) : hstore (hpush H (.row 0 1 (filled xs i))) (hlen H) 0 i 0 [.d (.str (xs.getD i []))] = some (hpush H (.row 0 1 (filled xs (i + 1)))) := by
  rw [hstore_one (filled_get xs i hi) (by simp) rfl, filled_set xs i hi]

/-- A row of ints, as the row's reader finds it. -/
def IsRow (k : IntKind) (w : World) (a : Option Addr) (len cap : Nat) (zs : List Int) : Prop :=
  (a = none ∧ len = 0 ∧ cap = 0 ∧ zs = []) ∨
  ∃ x, a = some x ∧ len ≤ cap ∧ cap ≤ maxLen ∧ zs.length = cap ∧ (∀ i, i < zs.length → w.cell? (x.add i) = some (.int k (zs.getD i 0))) ∧ ∀ n ∈ zs, (Lit.int k n).wf = true
end Go.Ev

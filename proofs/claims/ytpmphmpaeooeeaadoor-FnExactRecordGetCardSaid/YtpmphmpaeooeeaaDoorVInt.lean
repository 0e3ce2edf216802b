/- Numbers read from texts: the code under test and what it is held against agree. -/
import Derived.Test.YtpmphmpaeooeeaaDoorVPut
import Derived.Lib.AtoiAllCases
import Derived.Lib.ItoaMem
namespace Go.Proofs.YtpmphmpaeooeeaaDoor.Code
open Go Go.Ev
set_option linter.unusedSimpArgs false
set_option linter.unusedVariables false
def stepD (a : Nat) (c : UInt8) : Nat := 10 * a + (c.toNat - 48)
theorem stepD_is (a : Nat) (c : UInt8) : stepD a c = 10 * a + (c.toNat - 48) := rfl
def numD (a : Nat) (l : Txt) : Nat := l.foldl stepD a
theorem numD_nil (a : Nat) : numD a [] = a := by unfold numD; exact List.foldl_nil
theorem numD_cons (a : Nat) (c : UInt8) (r : Txt) : numD a (c :: r) = numD (stepD a c) r := by unfold numD; exact List.foldl_cons ..
def digs (l : Txt) : Prop := ∀ c ∈ l, isDig c = true
theorem numD_snoc : ∀ (l : Txt) (a : Nat) (c : UInt8), numD a (l ++ [c]) = stepD (numD a l) c
  | [], a, c => by rw [List.nil_append, numD_cons, numD_nil, numD_nil]
  | d :: l, a, c => by rw [List.cons_append, numD_cons, numD_cons, numD_snoc l (stepD a d) c]
theorem numD_ge : ∀ (l : Txt) (a : Nat), a ≤ numD a l
  | [], a => by rw [numD_nil]; exact Nat.le_refl _
  | d :: l, a => by
    rw [numD_cons]
    have := numD_ge l (stepD a d)
    have := stepD_is a d
    omega
theorem decV_digs (n : Nat) : digs (decV n) := by
  induction n using Nat.strongRecOn with
  | _ n ih =>
    rw [decV]
    split
    · rename_i h
      intro c hc
      simp only [List.mem_singleton] at hc
      subst hc
      exact isDig_of h
    · intro c hc
      rcases List.mem_append.1 hc with hc | hc
      · exact ih (n / 10) (by omega) c hc
      · simp only [List.mem_singleton] at hc
        subst hc
        exact isDig_of (by omega)
theorem decV_num (n : Nat) : numD 0 (decV n) = n := by
  induction n using Nat.strongRecOn with
  | _ n ih =>
    rw [decV]
    split
    · rename_i h
      rw [numD_cons, numD_nil, stepD_is, u8n (by omega)]; omega
    · rw [numD_snoc, ih (n / 10) (by omega), stepD_is, u8n (by omega)]; omega
theorem decV_head (n : Nat) (h : 1 ≤ n) : (decV n).getD 0 0 ≠ 48 ∧ 1 ≤ (decV n).length := by
  induction n using Nat.strongRecOn with
  | _ n ih =>
    rw [decV]
    split
    · rename_i h9
      refine ⟨?_, by simp⟩
      simp only [List.getD_cons_zero]
      intro e
      have := (c48 _).1 e
      rw [u8n (by omega)] at this
      omega
    · obtain ⟨i1, i2⟩ := ih (n / 10) (by omega) (by omega)
      refine ⟨?_, by simp⟩
      rw [List.getD_eq_getElem?_getD, List.getElem?_append_left (by omega), ← List.getD_eq_getElem?_getD]
      exact i1
theorem decV_snoc (a : Nat) (c : UInt8) (ha : 1 ≤ a) (hc : isDig c = true) : decV (stepD a c) = decV a ++ [c] := by
  have b := dig_in hc
  rw [stepD_is, decV, dif_neg (by omega)]
  have e1 : (10 * a + (c.toNat - 48)) / 10 = a := by omega
  have e2 : (10 * a + (c.toNat - 48)) % 10 = c.toNat - 48 := by omega
  rw [e1, e2]
  have e3 : 48 + (c.toNat - 48) = c.toNat := by omega
  rw [e3]
  simp
theorem decV_fold : ∀ (l : Txt) (a : Nat), 1 ≤ a → digs l → decV (numD a l) = decV a ++ l
  | [], a, _, _ => by rw [numD_nil, List.append_nil]
  | c :: r, a, ha, h => by
    rw [numD_cons]
    have hc := h c (by simp)
    rw [decV_fold r _ (by have := dig_in hc; have := stepD_is a c; omega) fun d hd => h d (by simp [hd]), decV_snoc a c ha hc]
    simp
theorem figL_num : ∀ (l : Txt) (i : Nat) (a : Nat), digs l → i + l.length ≤ 10 → figL l i a = some ((numD a l : Nat) : Int)
  | [], i, a, _, _ => by rw [numD_nil]; rfl
  | c :: r, i, a, h, hl => by
    have hc := h c (by simp)
    have b := dig_in hc
    simp only [List.length_cons] at hl
    rw [numD_cons]
    simp only [figL, hc, if_true]
    rw [if_pos (by omega)]
    have e : (a : Int) * 10 + ((c.toNat : Int) - 48) = ((stepD a c : Nat) : Int) := by rw [stepD_is]; omega
    rw [e]
    exact figL_num r (i + 1) _ (fun d hd => h d (by simp [hd])) (by omega)
theorem figL_digs : ∀ (l : Txt) (i : Nat) (a n : Int), figL l i a = some n → digs l
  | [], _, _, _, _ => by intro c hc; simp at hc
  | c :: r, i, a, n, h => by
    simp only [figL] at h
    split at h
    · rename_i hc
      intro d hd
      rcases List.mem_cons.1 hd with rfl | hd
      · exact hc
      · exact figL_digs r _ _ _ h d hd
    · cases h
/-- Figures are a number's decimals. -/
theorem figV_dec (s : Txt) (h : 0 ≤ figV s) : s = decV (figV s).toNat := by
  unfold figV at h ⊢
  cases hf : figL s 0 0 with
  | none => rw [hf] at h; simp at h
  | some n =>
    rw [hf] at h
    simp only at h ⊢
    split at h
    · omega
    · rename_i hc
      rw [if_neg hc]
      have hd := figL_digs s 0 0 n hf
      have hn := figL_num s 0 0 hd (by omega)
      have e0 : ((0 : Nat) : Int) = 0 := rfl
      rw [e0, hf] at hn
      simp only [Option.some.injEq] at hn
      subst hn
      rw [Int.toNat_natCast]
      match s, hc, hd with
      | [], hc, _ => simp at hc
      | [c], hc, hd =>
        have b := dig_in (hd c (by simp))
        have e3 : 48 + stepD 0 c = c.toNat := by rw [stepD_is]; omega
        rw [numD_cons, numD_nil, dec1 (by omega), e3]; simp
      | c :: d :: r, hc, hd =>
        have b := dig_in (hd c (by simp))
        have nz : ¬ c.toNat = 48 := by
          intro e
          have := (c48 c).2 e
          subst this
          simp at hc
        have e3 : 48 + stepD 0 c = c.toNat := by rw [stepD_is]; omega
        have e := decV_fold (d :: r) (stepD 0 c) (by omega) (fun x hx => hd x (List.mem_cons_of_mem _ hx))
        rw [numD_cons, e, dec1 (by omega), e3]; simp
theorem decV_len10' : ∀ (k n : Nat), n < 10 ^ (k + 1) → (decV n).length ≤ k + 1
  | 0, n, h => by rw [dec1 (by simpa using h)]; simp
  | k + 1, n, h => by
    rw [decV]
    split
    · simp
    · have := decV_len10' k (n / 10) (by rw [Nat.pow_succ] at h; omega)
      simp only [List.length_append, List.length_singleton]; omega
theorem figV_of_dec (n : Nat) (h : n ≤ 1000000000) : figV (decV n) = n := by
  have l := decV_len10' 9 n (by omega)
  have f := figL_num (decV n) 0 0 (decV_digs n) (by omega)
  rw [decV_num] at f
  unfold figV
  have e0 : ((0 : Nat) : Int) = 0 := rfl
  rw [e0] at f
  rw [f]
  simp only
  rw [if_neg]
  rintro (h1 | h1 | ⟨h1, h2⟩)
  · by_cases hn : 1 ≤ n
    · have := (decV_head n hn).2; omega
    · have : n = 0 := by omega
      subst this
      rw [dec1 (by omega)] at h1
      simp at h1
  · omega
  · by_cases hn : 1 ≤ n
    · exact (decV_head n hn).1 h2
    · have : n = 0 := by omega
      subst this
      rw [dec1 (by omega)] at h1
      simp at h1
theorem parse_num : ∀ (l : Txt) (a : Nat), digs l → numD a l ≤ 1000000000 → Lib.parseUint10 a l = .ok (numD a l)
  | [], a, _, _ => by rw [numD_nil]; rfl
  | c :: r, a, h, hn => by
    have b := dig_in (h c (by simp))
    rw [numD_cons] at hn ⊢
    have g := numD_ge r (stepD a c)
    have sd := stepD_is a c
    rw [Lib.parseUint10, if_pos b, if_neg (by omega), if_neg (by omega)]
    have e : a * 10 + (c.toNat - 48) = stepD a c := by omega
    rw [e]
    exact parse_num r _ (fun d hd => h d (by simp [hd])) hn
theorem dec_itoa' (n : Nat) : Lib.decDigits n = decV n := by
  induction n using Nat.strongRecOn with
  | _ n ih =>
    rw [Lib.decDigits, decV]
    split
    · rfl
    · rw [ih (n / 10) (by omega)]
theorem decV_ne (n : Nat) : decV n ≠ [] := by
  rw [decV]
  split <;> simp
theorem parseMag_dec (n : Nat) (h : n ≤ 1000000000) : Lib.parseMag (decV n) = .ok n := by
  unfold Lib.parseMag
  rw [if_neg (decV_ne n), parse_num (decV n) 0 (decV_digs n) (by rw [decV_num]; exact h), decV_num]
/-- What the reference's reader of numbers says. -/
def intV (s : Txt) : Int × Bool :=
  if 1 < s.length ∧ s.getD 0 0 = 45 then (if 1 ≤ figV (s.drop 1) ∧ figV (s.drop 1) ≤ 1000000000 then (-figV (s.drop 1), true) else (0, false))
  else (if 0 ≤ figV s ∧ figV s ≤ 1000000000 then (figV s, true) else (0, false))
/-- What the reader under test says. -/
def intI (s : Txt) : Int × Bool :=
  match Lib.atoiAll s with
  | .ok v => if -1000000000 ≤ v ∧ v ≤ 1000000000 ∧ Lib.itoa v = s then (v, true) else (0, false)
  | .range => (0, false)
  | _ => (0, false)
theorem dec_plain (n : Nat) (h : n ≤ 1000000000) : Lib.atoiAll (decV n) = .ok (n : Int) := by
  have hd := decV_digs n
  have pm := parseMag_dec n h
  cases e : decV n with
  | nil => exact absurd e (decV_ne n)
  | cons c r =>
    rw [e] at hd pm
    have b := dig_in (hd c (by simp))
    rw [Lib.atoiAll_plain c r (by omega) (by omega), pm]
    simp only [Lib.signless]
    rw [if_neg (by omega)]
theorem intV_pos (n : Nat) (h : n ≤ 1000000000) : intV (decV n) = ((n : Int), true) := by
  unfold intV
  have hd := decV_digs n
  rw [if_neg, figV_of_dec n h, if_pos (by omega)]
  rintro ⟨_, h2⟩
  cases e : decV n with
  | nil => exact absurd e (decV_ne n)
  | cons c r =>
    rw [e] at hd h2
    have b := dig_in (hd c (by simp))
    simp only [List.getD_cons_zero] at h2
    subst h2
    simp at b
theorem intV_neg (n : Nat) (h1 : 1 ≤ n) (h : n ≤ 1000000000) : intV (45 :: decV n) = (-(n : Int), true) := by
  unfold intV
  have := (decV_head n h1).2
  rw [if_pos ⟨by simp; omega, rfl⟩]
  simp only [List.drop_succ_cons, List.drop_zero]
  rw [figV_of_dec n h, if_pos (by omega)]
theorem intI_pos (n : Nat) (h : n ≤ 1000000000) : intI (decV n) = ((n : Int), true) := by
  unfold intI
  rw [dec_plain n h]
  simp only
  rw [if_pos ⟨by omega, by omega, by rw [Lib.itoa_nonneg, dec_itoa']⟩]
theorem intI_neg (n : Nat) (h1 : 1 ≤ n) (h : n ≤ 1000000000) : intI (45 :: decV n) = (-(n : Int), true) := by
  unfold intI
  rw [Lib.atoiAll_minus, parseMag_dec n h]
  simp only [Lib.signed]
  rw [if_neg (by omega)]
  simp only
  rw [if_pos ⟨by omega, by omega, by rw [Lib.itoa_neg n h1, dec_itoa']⟩]
theorem int_same (s : Txt) : intI s = intV s := by
  -- is it a number's decimals?
  by_cases c1 : ∃ n : Nat, n ≤ 1000000000 ∧ s = decV n
  · obtain ⟨n, h, rfl⟩ := c1
    rw [intV_pos n h, intI_pos n h]
  · by_cases c2 : ∃ n : Nat, 1 ≤ n ∧ n ≤ 1000000000 ∧ s = 45 :: decV n
    · obtain ⟨n, h1, h, rfl⟩ := c2
      rw [intV_neg n h1 h, intI_neg n h1 h]
    · have e1 : intV s = (0, false) := by
        unfold intV
        split
        · rename_i h
          split
          · rename_i hf
            exfalso
            apply c2
            refine ⟨(figV (s.drop 1)).toNat, by omega, by omega, ?_⟩
            rw [← figV_dec (s.drop 1) (by omega)]
            match s, h with
            | c :: r, h =>
              have := h.2
              simp only [List.getD_cons_zero] at this
              subst this
              rfl
          · rfl
        · split
          · rename_i hf
            exfalso
            exact c1 ⟨(figV s).toNat, by omega, figV_dec s (by omega)⟩
          · rfl
      have e2 : intI s = (0, false) := by
        unfold intI
        split
        · rename_i v hv
          split
          · rename_i h
            obtain ⟨h1, h2, h3⟩ := h
            exfalso
            by_cases hneg : v < 0
            · apply c2
              refine ⟨v.natAbs, by omega, by omega, ?_⟩
              rw [← h3]
              unfold Lib.itoa
              rw [if_pos hneg, dec_itoa']
            · apply c1
              refine ⟨v.toNat, by omega, ?_⟩
              rw [← h3]
              unfold Lib.itoa
              rw [if_neg hneg, dec_itoa']
          · rfl
        · rfl
        · rfl
      rw [e1, e2]
end Go.Proofs.YtpmphmpaeooeeaaDoor.Code

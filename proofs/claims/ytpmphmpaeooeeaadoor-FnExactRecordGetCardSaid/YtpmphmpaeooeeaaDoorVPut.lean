/- Orders written out, and that the parser reads just these. -/
import Derived.Test.YtpmphmpaeooeeaaDoorVHead
namespace Go.Proofs.YtpmphmpaeooeeaaDoor.Code
open Go Go.Ev
set_option linter.unusedSimpArgs false
set_option linter.unusedVariables false
theorem u8n {k : Nat} (h : k < 256) : (UInt8.ofNat k).toNat = k := by simp [Nat.mod_eq_of_lt h]
theorem dec1 {n : Nat} (h : n < 10) : decV n = [UInt8.ofNat (48 + n)] := by rw [decV, dif_pos h]
theorem dec2 {n : Nat} (h : 10 ≤ n) (h2 : n < 100) : decV n = [UInt8.ofNat (48 + n / 10), UInt8.ofNat (48 + n % 10)] := by
  rw [decV, dif_neg (by omega), dec1 (by omega)]; rfl
theorem isDig_of {k : Nat} (h : k < 10) : isDig (UInt8.ofNat (48 + k)) = true := by
  unfold isDig; rw [u8n (by omega)]; simp; omega
theorem digV_of {k : Nat} (h : k < 10) (n : Int) : digV n (UInt8.ofNat (48 + k)) = 10 * n + k := by
  unfold digV; rw [u8n (by omega)]; omega
theorem num_dec (mark : UInt8) (low high : Int) (n : Nat) (h0 : 0 ≤ low) (h1 : low ≤ 1) (hl : low ≤ n) (hh : n ≤ high) (hm : high ≤ 99) (r : Txt) : pNum mark low high (mark :: (decV n ++ (13 :: 10 :: r))) = .ok n r := by
  by_cases c : n < 10
  · rw [dec1 c]
    have a : low ≤ digV 0 (UInt8.ofNat (48 + n)) ∧ digV 0 (UInt8.ofNat (48 + n)) ≤ high := by rw [digV_of c]; omega
    have e : digV 0 (UInt8.ofNat (48 + n)) = n := by rw [digV_of c]; omega
    rw [e] at a
    simp only [pNum, pByte, Res.bind, pDig, List.cons_append, List.nil_append, isDig_of c, if_true, e, a, and_false, and_self, if_false, Bool.true_eq_false, false_and, hl, hh, dig_not13, Bool.false_eq_true]
  · have c1 : n / 10 < 10 := by omega
    have c2 : n % 10 < 10 := by omega
    rw [dec2 (by omega) (by omega)]
    have e1 : digV 0 (UInt8.ofNat (48 + n / 10)) = ((n / 10 : Nat) : Int) := by rw [digV_of c1]; omega
    have e2 : digV ((n / 10 : Nat) : Int) (UInt8.ofNat (48 + n % 10)) = n := by rw [digV_of c2]; omega
    have a1 : low ≤ ((n / 10 : Nat) : Int) ∧ ((n / 10 : Nat) : Int) ≤ high := by omega
    have a2 : ¬ ((n / 10 : Nat) : Int) = 0 := by omega
    obtain ⟨k, hk⟩ : ∃ k : Int, ((n / 10 : Nat) : Int) = k := ⟨_, rfl⟩
    rw [hk] at e1 e2 a1 a2
    simp only [pNum, pByte, Res.bind, pDig, List.cons_append, List.nil_append, isDig_of c1, isDig_of c2, if_true, e1, e2, a1, a2, and_false, and_self, if_false, Bool.true_eq_false, false_and, hl, hh, dig_not13, Bool.false_eq_true]
theorem num_ok (mark : UInt8) (low high : Int) (h0 : 0 ≤ low) (hm : high ≤ 99) (t r : Txt) (n : Int) (h : pNum mark low high t = .ok n r) : ∃ m : Nat, n = m ∧ low ≤ n ∧ n ≤ high ∧ t = mark :: (decV m ++ (13 :: 10 :: r)) := by
  match t with
  | [] => simp [pNum, pByte, Res.bind] at h
  | c :: t =>
    by_cases hc : c = mark
    · subst hc
      match t with
      | [] => simp [pNum, pByte, Res.bind, pDig] at h
      | d1 :: t1 =>
        cases g1 : isDig d1 with
        | false => simp [pNum, pByte, Res.bind, pDig, g1] at h
        | true =>
          have b1 := dig_in g1
          by_cases w1 : low ≤ digV 0 d1 ∧ digV 0 d1 ≤ high
          · match t1 with
            | [] => simp [pNum, pByte, Res.bind, pDig, g1, w1] at h
            | d2 :: t2 =>
              cases g2 : isDig d2 with
              | false =>
                by_cases e13 : d2 = 13
                · subst e13
                  match t2 with
                  | [] => simp [pNum, pByte, Res.bind, pDig, g1, g2, w1] at h
                  | d3 :: t3 =>
                    by_cases e10 : d3 = 10
                    · subst e10
                      simp [pNum, pByte, Res.bind, pDig, g1, g2, w1] at h
                      obtain ⟨rfl, rfl⟩ := h
                      refine ⟨d1.toNat - 48, by unfold digV; omega, w1.1, w1.2, ?_⟩
                      rw [dec1 (by omega)]
                      have : 48 + (d1.toNat - 48) = d1.toNat := by omega
                      rw [this]; simp
                    · simp [pNum, pByte, Res.bind, pDig, g1, g2, w1, e10] at h
                · simp [pNum, pByte, Res.bind, pDig, g1, g2, w1, e13] at h
              | true =>
                have b2 := dig_in g2
                by_cases z1 : digV 0 d1 = 0
                · simp [pNum, pByte, Res.bind, pDig, g1, g2, w1, z1] at h
                · by_cases w2 : low ≤ digV (digV 0 d1) d2 ∧ digV (digV 0 d1) d2 ≤ high
                  · match t2 with
                    | [] => simp [pNum, pByte, Res.bind, pDig, g1, g2, w1, z1, w2] at h
                    | d3 :: t3 =>
                      cases g3 : isDig d3 with
                      | true =>
                        have b3 := dig_in g3
                        have w3 : ¬ (low ≤ digV (digV (digV 0 d1) d2) d3 ∧ digV (digV (digV 0 d1) d2) d3 ≤ high) := by
                          unfold digV at z1 ⊢; omega
                        have z2 : ¬ digV (digV 0 d1) d2 = 0 := by unfold digV at z1 ⊢; omega
                        simp only [pNum, pByte, Res.bind, pDig, g1, g2, g3, w1, z1, w2, w3, z2, if_true, if_false, and_self, and_false, false_and, Bool.true_eq_false] at h
                        cases h
                      | false =>
                        by_cases e13 : d3 = 13
                        · subst e13
                          match t3 with
                          | [] => simp [pNum, pByte, Res.bind, pDig, g1, g2, g3, w1, z1, w2] at h
                          | d4 :: t4 =>
                            by_cases e10 : d4 = 10
                            · subst e10
                              simp [pNum, pByte, Res.bind, pDig, g1, g2, g3, w1, z1, w2] at h
                              obtain ⟨rfl, rfl⟩ := h
                              have k1 : digV 0 d1 = (d1.toNat : Int) - 48 := by unfold digV; omega
                              have k2 : digV (digV 0 d1) d2 = 10 * ((d1.toNat : Int) - 48) + ((d2.toNat : Int) - 48) := by rw [k1]; rfl
                              refine ⟨10 * (d1.toNat - 48) + (d2.toNat - 48), by omega, w2.1, w2.2, ?_⟩
                              rw [dec2 (by omega) (by omega)]
                              have a1 : 48 + (10 * (d1.toNat - 48) + (d2.toNat - 48)) / 10 = d1.toNat := by omega
                              have a2 : 48 + (10 * (d1.toNat - 48) + (d2.toNat - 48)) % 10 = d2.toNat := by omega
                              rw [a1, a2]; simp
                            · simp [pNum, pByte, Res.bind, pDig, g1, g2, g3, w1, z1, w2, e10] at h
                        · simp [pNum, pByte, Res.bind, pDig, g1, g2, g3, w1, z1, w2, e13] at h
                  · simp [pNum, pByte, Res.bind, pDig, g1, g2, w1, z1, w2] at h
          · simp [pNum, pByte, Res.bind, pDig, g1, w1] at h
    · simp [pNum, pByte, Res.bind, hc] at h
/-- A text with its length. -/
def bulk (a : Txt) : Txt := 36 :: (decV a.length ++ (13 :: 10 :: (a ++ [13, 10])))
def bulks : List Txt → Txt
  | [] => []
  | a :: r => bulk a ++ bulks r
def ordText (xs : List Txt) : Txt := 42 :: (decV xs.length ++ (13 :: 10 :: bulks xs))
def okOrder (xs : List Txt) : Prop := (∀ x ∈ xs, x.length ≤ 40) ∧ 1 ≤ xs.length ∧ xs.length ≤ 8
theorem item_put (a r : Txt) (h : a.length ≤ 40) : pItem (bulk a ++ r) = .ok a r := by
  have e : bulk a ++ r = 36 :: (decV a.length ++ (13 :: 10 :: (a ++ (13 :: 10 :: r)))) := by simp [bulk]
  rw [e]
  unfold pItem
  rw [num_dec 36 0 40 a.length (by omega) (by omega) (by omega) (by omega) (by omega)]
  have t1 : pTake ((a.length : Int)).toNat (a ++ (13 :: 10 :: r)) = .ok a (13 :: 10 :: r) := by
    unfold pTake
    rw [if_neg (by simp), Int.toNat_natCast, List.take_left, List.drop_left]
  simp only [Res.bind, t1, pEnd, pByte, if_true]
theorem item_ok (t x r : Txt) (h : pItem t = .ok x r) : x.length ≤ 40 ∧ t = bulk x ++ r := by
  unfold pItem at h
  cases hn : pNum 36 0 40 t with
  | short => rw [hn] at h; cases h
  | bad => rw [hn] at h; cases h
  | ok n r1 =>
    rw [hn] at h
    obtain ⟨m, rfl, h1, h2, rfl⟩ := num_ok 36 0 40 (by omega) (by omega) t r1 n hn
    simp only [Res.bind, pTake, Int.toNat_natCast] at h
    by_cases c : r1.length < m
    · rw [if_pos c] at h; cases h
    · rw [if_neg c] at h
      simp only [pEnd] at h
      have hl : (r1.take m).length = m := by simp; omega
      have hs : r1 = r1.take m ++ r1.drop m := (List.take_append_drop m r1).symm
      cases hd : r1.drop m with
      | nil => rw [hd] at h; cases h
      | cons a r2 =>
        rw [hd] at h hs
        simp only [pByte] at h
        by_cases ha : a = 13
        · rw [if_pos ha] at h
          simp only [Res.bind] at h
          cases r2 with
          | nil => cases h
          | cons b r3 =>
            simp only [pByte] at h
            by_cases hb : b = 10
            · rw [if_pos hb] at h
              simp only [Res.bind, Res.ok.injEq] at h
              obtain ⟨rfl, rfl⟩ := h
              subst ha hb
              refine ⟨by omega, ?_⟩
              unfold bulk
              rw [hl]
              conv => lhs; rw [hs]
              simp
            · rw [if_neg hb] at h; cases h
        · rw [if_neg ha] at h; cases h
theorem items_put : ∀ (xs : List Txt) (r : Txt), (∀ x ∈ xs, x.length ≤ 40) → pItems xs.length (bulks xs ++ r) = .ok xs r
  | [], r, _ => rfl
  | x :: xs, r, h => by
    simp only [List.length_cons, pItems, bulks, List.append_assoc]
    rw [item_put x _ (h x (by simp))]
    simp only [Res.bind]
    rw [items_put xs r fun y hy => h y (by simp [hy])]
theorem items_ok : ∀ (n : Nat) (t r : Txt) (xs : List Txt), pItems n t = .ok xs r → xs.length = n ∧ (∀ x ∈ xs, x.length ≤ 40) ∧ t = bulks xs ++ r
  | 0, t, r, xs, h => by cases h; exact ⟨rfl, by simp, rfl⟩
  | n + 1, t, r, xs, h => by
    simp only [pItems] at h
    cases h1 : pItem t with
    | short => rw [h1] at h; cases h
    | bad => rw [h1] at h; cases h
    | ok x r1 =>
      rw [h1] at h
      simp only [Res.bind] at h
      cases h2 : pItems n r1 with
      | short => rw [h2] at h; cases h
      | bad => rw [h2] at h; cases h
      | ok ys r2 =>
        rw [h2] at h
        simp only [Res.bind, Res.ok.injEq] at h
        obtain ⟨rfl, rfl⟩ := h
        obtain ⟨a1, rfl⟩ := item_ok t x r1 h1
        obtain ⟨b1, b2, rfl⟩ := items_ok n r1 r2 ys h2
        refine ⟨by simp [b1], ?_, by simp [bulks]⟩
        intro y hy
        rcases List.mem_cons.1 hy with rfl | hy
        · exact a1
        · exact b2 y hy
theorem order_put (xs : List Txt) (r : Txt) (h : okOrder xs) : pOrder (ordText xs ++ r) = .ok xs r := by
  have e : ordText xs ++ r = 42 :: (decV xs.length ++ (13 :: 10 :: (bulks xs ++ r))) := by simp [ordText]
  rw [e]
  unfold pOrder
  obtain ⟨h1, h2, h3⟩ := h
  rw [num_dec 42 1 8 xs.length (by omega) (by omega) (by omega) (by omega) (by omega)]
  simp only [Res.bind, Int.toNat_natCast]
  exact items_put xs r h1
theorem order_ok (t r : Txt) (xs : List Txt) (h : pOrder t = .ok xs r) : okOrder xs ∧ t = ordText xs ++ r := by
  unfold pOrder at h
  cases hn : pNum 42 1 8 t with
  | short => rw [hn] at h; cases h
  | bad => rw [hn] at h; cases h
  | ok n r1 =>
    rw [hn] at h
    obtain ⟨m, rfl, h1, h2, rfl⟩ := num_ok 42 1 8 (by omega) (by omega) t r1 n hn
    simp only [Res.bind, Int.toNat_natCast] at h
    obtain ⟨a, b, rfl⟩ := items_ok m r1 r xs h
    subst a
    exact ⟨⟨b, by omega, by omega⟩, by simp [ordText]⟩
end Go.Proofs.YtpmphmpaeooeeaaDoor.Code

/- Reading orders, plainly: a parser that says what it read, or that its text breaks off, or that it is none. -/
import Derived.Test.YtpmphmpaeooeeaaDoorVDec
import Derived.Test.YtpmphmpaeooeeaaDoorE29
namespace Go.Proofs.YtpmphmpaeooeeaaDoor.Code
open Go Go.Ev
set_option linter.unusedSimpArgs false
set_option linter.unusedVariables false
inductive Res (α : Type) where
  | ok (a : α) (r : Txt)
  | short
  | bad
def Res.bind {α β : Type} (x : Res α) (f : α → Txt → Res β) : Res β :=
  match x with
  | .ok a r => f a r
  | .short => .short
  | .bad => .bad
def pByte (b : UInt8) : Txt → Res Unit
  | [] => .short
  | c :: r => if c = b then .ok () r else .bad
def isDig (c : UInt8) : Bool := decide (48 ≤ c.toNat) && decide (c.toNat ≤ 57)
def digV (n : Int) (c : UInt8) : Int := 10 * n + ((c.toNat : Int) - 48)
/-- Figures, and the end of a line. -/
def pDig (low high : Int) : Txt → Int → Bool → Res Int
  | [], _, _ => .short
  | c :: r, n, first =>
    if isDig c = true then
      if first = false ∧ n = 0 then .bad
      else if low ≤ digV n c ∧ digV n c ≤ high then pDig low high r (digV n c) false else .bad
    else if first = true then .bad
    else if c = 13 then (pByte 10 r).bind fun _ r' => .ok n r' else .bad
def pNum (mark : UInt8) (low high : Int) (t : Txt) : Res Int := (pByte mark t).bind fun _ r => pDig low high r 0 true
def pTake (n : Nat) (t : Txt) : Res Txt := if t.length < n then .short else .ok (t.take n) (t.drop n)
def pEnd {α : Type} (x : α) (t : Txt) : Res α := (pByte 13 t).bind fun _ r => (pByte 10 r).bind fun _ r' => .ok x r'
def pItem (t : Txt) : Res Txt := (pNum 36 0 40 t).bind fun n r => (pTake n.toNat r).bind fun x r' => pEnd x r'
def pItems : Nat → Txt → Res (List Txt)
  | 0, t => .ok [] t
  | n + 1, t => (pItem t).bind fun x r => (pItems n r).bind fun xs r' => .ok (x :: xs) r'
def pOrder (t : Txt) : Res (List Txt) := (pNum 42 1 8 t).bind fun n r => pItems n.toNat r

structure Good {α : Type} (P : Txt → Res α) : Prop where
  ok : ∀ t x r, P t = .ok x r → ∃ u, t = u ++ r ∧ ∀ r', P (u ++ r') = .ok x r'
  bad : ∀ t t', P t = .bad → P (t ++ t') = .bad
theorem Good.bind {α β : Type} {P : Txt → Res α} {Q : α → Txt → Res β} (h : Good P) (k : ∀ x, Good (Q x)) : Good fun t => (P t).bind Q := by
  constructor
  · intro t x r e0
    have e : (P t).bind Q = .ok x r := e0
    clear e0
    cases hp : P t with
    | short => rw [hp] at e; simp [Res.bind] at e
    | bad => rw [hp] at e; simp [Res.bind] at e
    | ok y r1 =>
      rw [hp] at e
      simp only [Res.bind] at e
      obtain ⟨u1, rfl, h1⟩ := h.ok t y r1 hp
      obtain ⟨u2, rfl, h2⟩ := (k y).ok r1 x r e
      refine ⟨u1 ++ u2, by rw [List.append_assoc], fun r' => ?_⟩
      simp only [List.append_assoc, h1, Res.bind, h2]
  · intro t t' e0
    have e : (P t).bind Q = .bad := e0
    clear e0
    show (P (t ++ t')).bind Q = .bad
    cases hp : P t with
    | short => rw [hp] at e; simp [Res.bind] at e
    | bad => rw [h.bad t t' hp]; rfl
    | ok y r1 =>
      rw [hp] at e
      simp only [Res.bind] at e
      obtain ⟨u1, rfl, h1⟩ := h.ok t y r1 hp
      rw [List.append_assoc, h1]
      exact (k y).bad r1 t' e
theorem Good.pure {α : Type} (x : α) : Good fun t => Res.ok x t :=
  ⟨fun t y r e => (by cases e; exact ⟨[], rfl, fun _ => rfl⟩), fun t t' e => (by cases e)⟩
theorem good_byte (b : UInt8) : Good (pByte b) := by
  constructor
  · intro t x r e
    cases t with
    | nil => cases e
    | cons c t =>
      simp only [pByte] at e
      split at e
      · rename_i h
        cases e
        exact ⟨[c], rfl, fun r' => by simp [pByte, h]⟩
      · cases e
  · intro t t' e
    cases t with
    | nil => cases e
    | cons c t =>
      simp only [pByte] at e
      split at e
      · cases e
      · rename_i h
        simp [pByte, h]
theorem good_take (n : Nat) : Good (pTake n) := by
  constructor
  · intro t x r e
    unfold pTake at e
    split at e
    · cases e
    · rename_i h
      cases e
      refine ⟨t.take n, (List.take_append_drop n t).symm, fun r' => ?_⟩
      have hl : (t.take n).length = n := by simp; omega
      unfold pTake
      rw [if_neg (by simp; omega), List.take_append_of_le_length (by omega), List.take_of_length_le (by omega), List.drop_append_of_le_length (by omega), List.drop_of_length_le (by omega)]
      rfl
  · intro t t' e
    unfold pTake at e
    split at e <;> cases e
theorem good_dig (low high : Int) : ∀ (t : Txt) (n : Int) (first : Bool), (∀ x r, pDig low high t n first = .ok x r → ∃ u, t = u ++ r ∧ ∀ r', pDig low high (u ++ r') n first = .ok x r') ∧ (∀ t', pDig low high t n first = .bad → pDig low high (t ++ t') n first = .bad)
  | [], n, first => ⟨fun x r e => (by cases e), fun t' e => (by cases e)⟩
  | c :: t, n, first => by
    have ih := good_dig low high t (digV n c) false
    have hb : Good fun r => (pByte 10 r).bind fun _ r' => Res.ok n r' := (good_byte 10).bind fun _ => Good.pure n
    simp only [List.cons_append, pDig]
    constructor
    · intro x r e
      split at e
      · rename_i h1
        split at e
        · cases e
        · rename_i h2
          split at e
          · rename_i h3
            obtain ⟨u, rfl, hu⟩ := ih.1 x r e
            exact ⟨c :: u, rfl, fun r' => by simp only [List.cons_append, pDig, h1, h2, h3, if_true, if_false, hu]; simp⟩
          · cases e
      · rename_i h1
        split at e
        · cases e
        · rename_i h2
          split at e
          · rename_i h3
            obtain ⟨u, rfl, hu⟩ := hb.ok t x r e
            exact ⟨c :: u, rfl, fun r' => by simp only [List.cons_append, pDig]; rw [if_neg h1, if_neg h2, if_pos h3]; exact hu r'⟩
          · cases e
    · intro t' e
      split at e
      · rename_i h1
        split at e
        · rename_i h2
          simp [h1, h2]
        · rename_i h2
          split at e
          · rename_i h3
            simp only [h1, h2, h3, if_true, if_false]
            simpa using ih.2 t' e
          · rename_i h3
            simp only [h1, h2, h3, if_true, if_false]
      · rename_i h1
        split at e
        · rename_i h2
          simp [h1, h2]
        · rename_i h2
          split at e
          · rename_i h3
            rw [if_neg h1, if_neg h2, if_pos h3]
            exact hb.bad t t' e
          · rename_i h3
            simp only [h1, h2, h3, if_true, if_false]
            simp
theorem good_num (mark : UInt8) (low high : Int) : Good (pNum mark low high) :=
  (good_byte mark).bind fun _ => ⟨fun t x r e => (good_dig low high t 0 true).1 x r e, fun t t' e => (good_dig low high t 0 true).2 t' e⟩
theorem good_end {α : Type} (x : α) : Good (pEnd x) := (good_byte 13).bind fun _ => (good_byte 10).bind fun _ => Good.pure x
theorem good_item : Good pItem := (good_num 36 0 40).bind fun n => (good_take n.toNat).bind fun x => good_end x
theorem good_items : ∀ n, Good (pItems n)
  | 0 => Good.pure []
  | n + 1 => good_item.bind fun x => (good_items n).bind fun xs => Good.pure (x :: xs)
theorem good_order : Good pOrder := (good_num 42 1 8).bind fun n => good_items n.toNat
/-- How many bytes an order takes up; 0 if it breaks off, -1 if it is none. -/
def ordN (t : Txt) : Int :=
  match pOrder t with
  | .ok _ r => (t.length : Int) - r.length
  | .short => 0
  | .bad => -1
def ordX (t : Txt) : List Txt :=
  match pOrder t with
  | .ok x _ => x
  | .short => []
  | .bad => []
theorem ordN_in (t : Txt) : -1 ≤ ordN t ∧ ordN t ≤ t.length := by
  unfold ordN
  cases h : pOrder t with
  | short => simp only; omega
  | bad => simp only; omega
  | ok x r =>
    obtain ⟨u, rfl, _⟩ := good_order.ok t x r h
    simp only [List.length_append]
    omega
/-- What breaks off. -/
theorem ord_part (t : Txt) (k : Nat) (hk : k ≤ t.length) : (0 < ordN t → (k : Int) < ordN t ∧ ordN (t.take k) = 0 ∨ ordN t ≤ k ∧ ordN (t.take k) = ordN t) ∧ (¬ 0 < ordN t → ordN (t.take k) = 0 ∨ ordN (t.take k) = ordN t) := by
  have split : t = t.take k ++ t.drop k := (List.take_append_drop k t).symm
  have hlen : (t.take k).length = k := by simp; omega
  have hd : (t.drop k).length = t.length - k := by simp
  obtain ⟨t1, h1⟩ : ∃ t1, t.take k = t1 := ⟨_, rfl⟩
  obtain ⟨t2, h2⟩ : ∃ t2, t.drop k = t2 := ⟨_, rfl⟩
  rw [h1, h2] at split
  rw [h1] at hlen ⊢
  rw [h2] at hd
  clear h1 h2
  subst split
  simp only [List.length_append] at hk hd
  cases hp : pOrder t1 with
  | bad =>
    have h2 := good_order.bad t1 t2 hp
    simp [ordN, hp, h2]
  | ok x r =>
    obtain ⟨u, hu, hur⟩ := good_order.ok t1 x r hp
    have h2 := hur (r ++ t2)
    rw [← List.append_assoc, ← hu] at h2
    have e1 : ordN t1 = (t1.length : Int) - r.length := by simp [ordN, hp]
    have e2 : ordN (t1 ++ t2) = (t1.length : Int) - r.length := by
      simp only [ordN, h2, List.length_append]; omega
    rw [e1, e2]
    refine ⟨fun h => .inr ⟨by omega, rfl⟩, fun h => .inr rfl⟩
  | short =>
    have e1 : ordN t1 = 0 := by simp [ordN, hp]
    rw [e1]
    refine ⟨fun h => .inl ⟨?_, rfl⟩, fun h => .inl rfl⟩
    cases hp2 : pOrder (t1 ++ t2) with
    | short => simp [ordN, hp2] at h
    | bad => simp [ordN, hp2] at h
    | ok x r =>
      have e2 : ordN (t1 ++ t2) = ((t1 ++ t2).length : Int) - r.length := by simp [ordN, hp2]
      rw [e2]
      obtain ⟨u, hu, hur⟩ := good_order.ok _ x r hp2
      rw [List.length_append]
      apply Classical.byContradiction
      intro hn
      have hul : u.length ≤ t1.length := by
        have := congrArg List.length hu
        simp only [List.length_append] at this
        omega
      have ht1 : t1 = u ++ t1.drop u.length := by
        have a := congrArg (List.take t1.length) hu
        rw [List.take_left] at a
        rw [List.take_append] at a
        have b : List.take t1.length u = u := List.take_of_length_le hul
        rw [b] at a
        conv => lhs; rw [a]
        rw [a, List.drop_left]
        congr 1
        simp
      have := hur (t1.drop u.length)
      rw [← ht1, hp] at this
      cases this
end Go.Proofs.YtpmphmpaeooeeaaDoor.Code

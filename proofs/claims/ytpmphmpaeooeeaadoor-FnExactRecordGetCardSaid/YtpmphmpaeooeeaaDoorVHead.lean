/- The head of a text, as the reference reads it, and that it is the parser's. -/
import Derived.Test.YtpmphmpaeooeeaaDoorVWire
namespace Go.Proofs.YtpmphmpaeooeeaaDoor.Code
open Go Go.Ev
set_option linter.unusedSimpArgs false
set_option linter.unusedVariables false
/-- How far figures reach. -/
def scanK (s : Txt) : Nat → Nat → Nat
  | 0, k => k
  | f + 1, k => if k < s.length ∧ isDig (s.getD k 0) = true then scanK s f (k + 1) else k
/-- What figures stand for, of the first ten. -/
def figL : Txt → Nat → Int → Option Int
  | [], _, n => some n
  | c :: r, i, n => if isDig c = true then figL r (i + 1) (if i < 10 then n * 10 + ((c.toNat : Int) - 48) else n) else none
def figV (s : Txt) : Int :=
  match figL s 0 0 with
  | none => -1
  | some n => if s.length < 1 ∨ 10 < s.length ∨ (1 < s.length ∧ s.getD 0 0 = 48) then -1 else n
def seg (s : Txt) (l h : Nat) : Txt := (s.take h).drop l
def headV (s : Txt) (sign : UInt8) (low most : Int) : Int × Txt × Int :=
  let k := scanK s 3 1
  if s.length = 0 then (0, [], 0)
  else if s.getD 0 0 ≠ sign ∨ (k < s.length ∧ (k = 1 ∨ s.getD k 0 ≠ 13)) ∨ (k + 1 < s.length ∧ s.getD (k + 1) 0 ≠ 10) then (0, [], -1)
  else if 1 < k ∧ ¬ (low ≤ figV (seg s 1 k) ∧ figV (seg s 1 k) ≤ most) then (0, [], -1)
  else if s.length ≤ k + 1 then (0, [], 0)
  else (figV (seg s 1 k), s.drop (k + 2), 1)
def toHead : Res Int → Int × Txt × Int
  | .ok n r => (n, r, 1)
  | .short => (0, [], 0)
  | .bad => (0, [], -1)
theorem toHead_ok (n : Int) (r : Txt) : toHead (.ok n r) = (n, r, 1) := rfl
theorem toHead_short : toHead .short = (0, [], 0) := rfl
theorem toHead_bad : toHead .bad = (0, [], -1) := rfl
theorem dig_in {c : UInt8} (h : isDig c = true) : 48 ≤ c.toNat ∧ c.toNat ≤ 57 := by
  simpa [isDig] using h
theorem dig_not13 : isDig 13 = false := by decide
theorem c48 (c : UInt8) : c = 48 ↔ c.toNat = 48 := by
  constructor
  · rintro rfl; rfl
  · intro h; exact UInt8.toNat_inj.1 h
theorem head_is (s : Txt) (sign : UInt8) (low most : Int) (h0 : 0 ≤ low) (h1 : low ≤ 1) (hm : most ≤ 99) : headV s sign low most = toHead (pNum sign low most s) := by
  match s with
  | [] => simp [headV, pNum, pByte, Res.bind, apply_ite toHead, toHead_ok, toHead_short, toHead_bad]
  | c :: t =>
    by_cases hc : c = sign
    · subst hc
      match t with
      | [] => simp [headV, scanK, pNum, pByte, Res.bind, apply_ite toHead, toHead_ok, toHead_short, toHead_bad, pDig]
      | d1 :: t1 =>
        cases g1 : isDig d1 with
        | false => simp [headV, scanK, pNum, pByte, Res.bind, apply_ite toHead, toHead_ok, toHead_short, toHead_bad, pDig, g1]
        | true =>
          have b1 := dig_in g1
          have z1 := c48 d1
          match t1 with
          | [] =>
            simp [headV, scanK, pNum, pByte, Res.bind, apply_ite toHead, toHead_ok, toHead_short, toHead_bad, pDig, g1, seg, figV, figL, digV]
            repeat' split
            all_goals first | rfl | (exfalso; omega)
          | d2 :: t2 =>
            cases g2 : isDig d2 with
            | false =>
              by_cases e13 : d2 = 13
              · subst e13
                match t2 with
                | [] =>
                  simp [headV, scanK, pNum, pByte, Res.bind, apply_ite toHead, toHead_ok, toHead_short, toHead_bad, pDig, g1, g2, seg, figV, figL, digV]
                  repeat' split
                  all_goals first | rfl | (exfalso; omega)
                | d3 :: t3 =>
                  by_cases e10 : d3 = 10
                  · subst e10
                    simp [headV, scanK, pNum, pByte, Res.bind, apply_ite toHead, toHead_ok, toHead_short, toHead_bad, pDig, g1, g2, seg, figV, figL, digV]
                    repeat' split
                    all_goals first | rfl | (exfalso; omega)
                  · simp [headV, scanK, pNum, pByte, Res.bind, apply_ite toHead, toHead_ok, toHead_short, toHead_bad, pDig, g1, g2, seg, figV, figL, digV, e10]
                    repeat' split
                    all_goals first | rfl | (exfalso; omega)
              · simp [headV, scanK, pNum, pByte, Res.bind, apply_ite toHead, toHead_ok, toHead_short, toHead_bad, pDig, g1, g2, seg, figV, figL, digV, e13]
                repeat' split
                all_goals first | rfl | (exfalso; omega)
            | true =>
              have b2 := dig_in g2
              match t2 with
              | [] =>
                simp [headV, scanK, pNum, pByte, Res.bind, apply_ite toHead, toHead_ok, toHead_short, toHead_bad, pDig, g1, g2, seg, figV, figL, digV, z1]
                repeat' split
                all_goals first | rfl | (exfalso; omega)
              | d3 :: t3 =>
                cases g3 : isDig d3 with
                | false =>
                  by_cases e13 : d3 = 13
                  · subst e13
                    match t3 with
                    | [] =>
                      simp [headV, scanK, pNum, pByte, Res.bind, apply_ite toHead, toHead_ok, toHead_short, toHead_bad, pDig, g1, g2, g3, seg, figV, figL, digV, z1]
                      repeat' split
                      all_goals first | rfl | (exfalso; omega)
                    | d4 :: t4 =>
                      by_cases e10 : d4 = 10
                      · subst e10
                        simp [headV, scanK, pNum, pByte, Res.bind, apply_ite toHead, toHead_ok, toHead_short, toHead_bad, pDig, g1, g2, g3, seg, figV, figL, digV, z1]
                        repeat' split
                        all_goals first | rfl | (exfalso; omega) | (simp; omega)
                      · simp [headV, scanK, pNum, pByte, Res.bind, apply_ite toHead, toHead_ok, toHead_short, toHead_bad, pDig, g1, g2, g3, seg, figV, figL, digV, z1, e10]
                        repeat' split
                        all_goals first | rfl | (exfalso; omega)
                  · simp [headV, scanK, pNum, pByte, Res.bind, apply_ite toHead, toHead_ok, toHead_short, toHead_bad, pDig, g1, g2, g3, seg, figV, figL, digV, z1, e13]
                    repeat' split
                    all_goals first | rfl | (exfalso; omega)
                | true =>
                  have b3 := dig_in g3
                  simp [headV, scanK, pNum, pByte, Res.bind, apply_ite toHead, toHead_ok, toHead_short, toHead_bad, pDig, g1, g2, g3, seg, figV, figL, digV, z1]
                  repeat' split
                  all_goals first | rfl | (exfalso; omega)
    · have : sign ≠ c := fun e => hc e.symm
      simp [headV, pNum, pByte, Res.bind, apply_ite toHead, toHead_ok, toHead_short, toHead_bad, hc]
end Go.Proofs.YtpmphmpaeooeeaaDoor.Code

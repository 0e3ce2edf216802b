/- Lists of texts, drawn. -/
import Derived.Test.YtpmphmpaeooeeaaDoorVDec
import Derived.Test.YtpmphmpaeooeeaaDoorE29
namespace Go.Proofs.YtpmphmpaeooeeaaDoor.Code
open Go Go.Ev Go.Proofs
set_option maxRecDepth 100000
set_option linter.unusedSimpArgs false
set_option linter.unusedVariables false
def textsV (bs : List Int) : Nat → Int → List Txt
  | 0, _ => []
  | n + 1, p => textV bs p :: textsV bs n (p + 1)
theorem textsV_len (bs : List Int) : ∀ (n : Nat) (p : Int), (textsV bs n p).length = n
  | 0, _ => rfl
  | n + 1, p => by simp [textsV, textsV_len bs n (p + 1)]
/-- A row of texts. -/
def rowT (k : Nat) (ts : List Txt) : Ev.Obj := .row k 1 ((ts.map D.str).map V.d)
theorem hget_behind {H : Hp} {r : Nat} {o : Ev.Obj} {bs : List Int} {p : Int} (h : hget H r = some (rd bs p)) (q : Int) : hget (hpush (hset H r (rd bs q)) o) r = some (rd bs q) := by
  have hl := hget_lt h
  rw [hget_hpush_lt _ (by rw [hlen_hset]; exact hl), hget_hset_self _ hl]
theorem rowT_row {H : Hp} {k : Nat} {ts : List Txt} {n : Nat} (hn : n = hlen H) : rowOf (hpush H (rowT k ts)) n k = some (1, (ts.map D.str).map V.d) := by
  subst hn; exact rowOf_self _ _ _ _
theorem rowT_set {H : Hp} {k : Nat} {ts : List Txt} {t : Txt} {n : Nat} (hn : n = hlen H) (o : Ev.Obj) : hset (hpush H o) n (.row k 1 ((ts.map D.str).map V.d ++ [.d (.str t)])) = hpush H (rowT k (ts ++ [t])) := by
  subst hn
  rw [hset_push]
  simp [rowT]
theorem allD_d : ∀ (ds : List D), allD (ds.map V.d) = some ds
  | [] => rfl
  | d :: ds => by simp only [List.map_cons, allD, allD_d ds]
/-- A list that grows to the most there may be, or one more. -/
def growV (bs : List Int) : Nat → Int → List Txt → List Txt × Int
  | 0, p, ts => (ts, p)
  | f + 1, p, ts => if (ts.length : Int) < 16 + pickV bs p 2 then growV bs f (p + 1) (ts ++ [[110] ++ decV ts.length]) else (ts, p + 1)
theorem rowT_fz {H X : Hp} (hl : hlen H = hlen X) (k : Nat) (ts : List Txt) : fzC (hlen H) (hpush X (rowT k ts)) (.slc (hlen H) k 0 ts.length) = some (.d (txts ts)) := by
  rw [hl]
  exact fzC_row X k 1 _ _ (by simp)
theorem rowT_take {H X : Hp} (hl : hlen H = hlen X) (o : Ev.Obj) : htake (hpush X o) (hlen H) = X := by
  rw [hl]; exact htake_push _ _
/-- Any list of texts, drawn. -/
def anyV (bs : List Int) (p : Int) : List Txt × Int :=
  if pickV bs (p + 1 + ((pickV bs p 7).toNat : Int)) 16 = 0 then (textsV bs (pickV bs p 7).toNat (p + 1) ++ [many [121] 41 []], p + 1 + ((pickV bs p 7).toNat : Int) + 1)
  else if pickV bs (p + 1 + ((pickV bs p 7).toNat : Int)) 16 = 1 then growV bs (18 - (pickV bs p 7).toNat) (p + 1 + ((pickV bs p 7).toNat : Int) + 1) (textsV bs (pickV bs p 7).toNat (p + 1))
  else (textsV bs (pickV bs p 7).toNat (p + 1), p + 1 + ((pickV bs p 7).toNat : Int) + 1)
end Go.Proofs.YtpmphmpaeooeeaaDoor.Code

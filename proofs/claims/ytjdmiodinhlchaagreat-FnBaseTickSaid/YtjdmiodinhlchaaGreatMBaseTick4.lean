/- Lemmas (several texts in one). -/
import Derived.Test.YtjdmiodinhlchaaGreatMBaseTick3
import Derived.Lib.LaidTab
import Derived.Sort.Grow
import Derived.WalkSmall
import Derived.ChangeArms
import Derived.ChangeSlices
import Derived.OpenShut
import Derived.ChangeShapes
/- Programs with variables and functions whose meaning is given: tables of integers. -/
namespace Go.Ev
open Go Go.Sort
set_option linter.unusedSimpArgs false
set_option linter.unusedVariables false

end Go.Ev
/- Arguments of any type of plain data, ags data. -/
namespace Go.Ev
open Go Go.ChangeShapes Go.WideShapes
set_option linter.unusedSimpArgs false
set_option linter.unusedVariables false

inductive Ty where
  | bool
  | int (k : IntKind)
  | str
  | slice (e : Ty)
  | fin
  | fld (f r : Ty)

def Ty.size : Ty → Nat
  | .fin => 0
  | .fld f r => f.size + r.size
  | _ => 1
def Ty.isAgg : Ty → Bool
  | .fin => true
  | .fld _ _ => true
  | _ => false
section
variable {H : Type} {enc : TypeId × Value → H} {P : Program} {w : World} {base : Nat} {spare : Nat → Bool} {held : Bool}

end
end Go.Ev
/- Words for proofs about code: known objects behind an unknown heap, rounds with an invariant. -/
namespace Go.Ev
open Go
set_option linter.unusedSimpArgs false
set_option linter.unusedVariables false

/-! ### Objects behind a heap -/
def ap (H l : Hp) : Hp := (H : List Obj) ++ l
theorem ap0 (H : Hp) (o : Obj) : hpush H o = ap H [o] := rfl
theorem ap_nil (H : Hp) : ap H [] = H := List.append_nil _
theorem ap_push (H l : Hp) (o : Obj) : hpush (ap H l) o = ap H ((l : List Obj) ++ [o]) := by simp [ap, hpush]
theorem ap_len (H l : Hp) : hlen (ap H l) = hlen H + l.length := by simp [ap, hlen]
theorem hget_at : ∀ (H : Hp) (r : Nat), hget H r = H[r]?
  | [], _ => rfl
  | o :: H, 0 => rfl
  | o :: H, r + 1 => by simp only [hget, List.getElem?_cons_succ, hget_at H r]
theorem hset_at : ∀ (H : Hp) (r : Nat) (o : Obj), hset H r o = H.set r o
  | [], _, _ => rfl
  | x :: H, 0, _ => rfl
  | x :: H, r + 1, o => by simp only [hset, List.set_cons_succ, hset_at H r]
theorem ap_get (H l : Hp) (k : Nat) : hget (ap H l) (hlen H + k) = hget l k := by
  rw [hget_at, hget_at, ap, List.getElem?_append_right (by simp [hlen])]
  simp [hlen]
theorem ap_get0 (H l : Hp) : hget (ap H l) (hlen H) = hget l 0 := ap_get H l 0
theorem ap_set (H l : Hp) (k : Nat) (o : Obj) : hset (ap H l) (hlen H + k) o = ap H (hset l k o) := by
  rw [hset_at, hset_at, ap, List.set_append_right _ _ (by simp [hlen])]
  simp [hlen, ap]
theorem ap_set0 (H l : Hp) (o : Obj) : hset (ap H l) (hlen H) o = ap H (hset l 0 o) := ap_set H l 0 o
theorem ap_take (H l : Hp) : htake (ap H l) (hlen H) = H := by simp [ap, htake, hlen]
theorem ap_takeN (H l : Hp) (k : Nat) : htake (ap H l) (hlen H + k) = ap H (l.take k) := by
  simp only [ap, htake, hlen, List.take_append]
  rw [List.take_of_length_le (by omega)]
  congr 2
  omega
theorem ap_nlt (H : Hp) (k : Nat) : ¬ hlen H + k < hlen H := by omega
theorem ap_nlt0 (H : Hp) : ¬ hlen H < hlen H := by omega
theorem ap_ble (H : Hp) (k : Nat) : (hlen H).ble (hlen H + k) = true := by simp
theorem ap_ble0 (H : Hp) : (hlen H).ble (hlen H) = true := by simp
theorem ap_blt (H : Hp) (a b : Nat) : Nat.blt (hlen H + a) (hlen H + b) = Nat.blt a b := by
  rw [Bool.eq_iff_iff]; simp
theorem ap_blt0 (H : Hp) (b : Nat) : Nat.blt (hlen H) (hlen H + b) = Nat.blt 0 b := by
  rw [Bool.eq_iff_iff]; simp
theorem ap_bltR (H : Hp) (a : Nat) : Nat.blt (hlen H + a) (hlen H) = false := by
  cases h : Nat.blt (hlen H + a) (hlen H) with
  | false => rfl
  | true => simp at h; omega
theorem ap_blt00 (H : Hp) : Nat.blt (hlen H) (hlen H) = false := by simpa using ap_bltR H 0
theorem ap_bleN (H : Hp) (a b : Nat) : Nat.ble (hlen H + a) (hlen H + b) = Nat.ble a b := by
  rw [Bool.eq_iff_iff]; simp
theorem ap_bleR (H : Hp) (a : Nat) : Nat.ble (hlen H + (a + 1)) (hlen H) = false := by
  cases h : Nat.ble (hlen H + (a + 1)) (hlen H) with
  | false => rfl
  | true => have := Nat.le_of_ble_eq_true h; omega

theorem allD_d' : ∀ (ds : List D), allD (ds.map V.d) = some ds
  | [] => rfl
  | x :: r => by simp only [List.map_cons, allD, allD_d' r]
theorem allD_app : ∀ (ds : List D) (vs : List V), allD (ds.map V.d ++ vs) = (match allD vs with | some es => some (ds ++ es) | none => none)
  | [], vs => by
    rw [List.map_nil, List.nil_append]
    cases allD vs <;> rfl
  | x :: r, vs => by
    simp only [List.map_cons, List.cons_append, allD, allD_app r vs]
    cases allD vs <;> rfl
theorem mapO_fz_all : ∀ {vs : List V} {ds : List D} {n d : Nat} {H : Hp}, allD vs = some ds → mapO (fz n d H) vs = some ds
  | [], ds, _, _, _, h => by simp only [allD, Option.some.injEq] at h; subst h; rfl
  | .d x :: r, ds, n, d, H, h => by
    simp only [allD] at h
    split at h
    · rename_i xs hx
      simp only [Option.some.injEq] at h; subst h
      have : fz n d H (.d x) = some x := by cases d <;> rfl
      simp only [mapO, this, mapO_fz_all hx]
    · simp at h
  | .agg _ :: _, _, _, _, _, h => by simp [allD] at h
  | .tup _ :: _, _, _, _, _, h => by simp [allD] at h
  | .slc _ _ _ _ :: _, _, _, _, _, h => by simp [allD] at h
  | .ptr _ _ _ _ :: _, _, _, _, _, h => by simp [allD] at h
  | .fn _ _ :: _, _, _, _, _, h => by simp [allD] at h
  | .mref _ :: _, _, _, _, _, h => by simp [allD] at h
  | .nils _ :: _, _, _, _, _, h => by simp [allD] at h
  | .und :: _, _, _, _, _, h => by simp [allD] at h
  | .any :: _, _, _, _, _, h => by simp [allD] at h
theorem allD_len : ∀ {vs : List V} {ds : List D}, allD vs = some ds → ds.length = vs.length := fun h => by
  have := allD_some h
  rw [this]; simp
theorem ap_fzC {H l : Hp} {k g e n : Nat} {xs : List V} {ds : List D} (h1 : hget l k = some (.row g e xs)) (h2 : allD xs = some ds) (h3 : n = ds.length) : fzC (hlen H) (ap H l) (.slc (hlen H + k) g 0 n) = some (.d (.vals e ds)) := by
  have hr : rowOf (ap H l) (hlen H + k) g = some (e, xs) := by
    unfold rowOf
    rw [ap_get, h1]
    simp
  have hl := allD_len h2
  have hm : mapO (fz (hlen H) 7 (ap H l)) ((xs.drop 0).take n) = some ds := by
    rw [List.drop_zero, List.take_of_length_le (by omega)]
    exact mapO_fz_all h2
  have := fz_row (n := hlen H) (d := 7) (r := hlen H + k) (g := g) (i := 0) (k := n) (by omega) hr (by omega) hm
  show (if hlen H + k < hlen H then _ else (match fz (hlen H) deep _ (.slc (hlen H + k) g 0 n) with | some x => some (V.d x) | none => none)) = _
  rw [if_neg (by omega), show deep = 7 + 1 from rfl, this]

theorem fz_ap (H l : Hp) (d k g i n : Nat) : fz (hlen H) (d + 1) (ap H l) (.slc (hlen H + k) g i n) = (match hget l k with
    | some (.row g' e xs) => bif Nat.beq g' g then (if i + n ≤ xs.length then (match mapO (fz (hlen H) d (ap H l)) ((xs.drop i).take n) with | some ys => some (.vals e ys) | none => none) else none) else none
    | _ => none) := by
  simp only [fz, rowOf, ap_get, if_neg (ap_nlt H k)]
  cases hget l k with
  | none => rfl
  | some o =>
    cases o with
    | dead => rfl
    | map _ _ => rfl
    | row g' e xs =>
      cases h : Nat.beq g' g with
      | false => simp only [h, cond_false]
      | true =>
        simp only [h, cond_true]
        split
        · cases mapO (fz (hlen H) d (ap H l)) ((xs.drop i).take n) <;> rfl
        · rfl
theorem fzC_ap (H l : Hp) (k g i n : Nat) : fzC (hlen H) (ap H l) (.slc (hlen H + k) g i n) = (match hget l k with
    | some (.row g' e xs) => bif Nat.beq g' g then (if i + n ≤ xs.length then (match mapO (fz (hlen H) 7 (ap H l)) ((xs.drop i).take n) with | some ys => some (.d (.vals e ys)) | none => none) else none) else none
    | _ => none) := by
  have h := fz_ap H l 7 k g i n
  show (if hlen H + k < hlen H then _ else (match fz (hlen H) (7 + 1) _ (.slc (hlen H + k) g i n) with | some x => some (V.d x) | none => none)) = _
  rw [if_neg (by omega), h]
  cases hget l k with
  | none => rfl
  | some o =>
    cases o with
    | dead => rfl
    | map _ _ => rfl
    | row g' e xs =>
      cases h : Nat.beq g' g with
      | false => simp only [h, cond_false]
      | true =>
        simp only [h, cond_true]
        by_cases hi : i + n ≤ xs.length
        · simp only [if_pos hi]
          cases mapO (fz (hlen H) 7 (ap H l)) ((xs.drop i).take n) <;> rfl
        · simp only [if_neg hi]
theorem fzC_ap0 (H l : Hp) (g i n : Nat) : fzC (hlen H) (ap H l) (.slc (hlen H) g i n) = (match hget l 0 with
    | some (.row g' e xs) => bif Nat.beq g' g then (if i + n ≤ xs.length then (match mapO (fz (hlen H) 7 (ap H l)) ((xs.drop i).take n) with | some ys => some (.d (.vals e ys)) | none => none) else none) else none
    | _ => none) := fzC_ap H l 0 g i n
theorem mapO_fz_app (n d : Nat) (H : Hp) (f g : List V) : mapO (fz n d H) (f ++ g) = (match mapO (fz n d H) f with | some a => (match mapO (fz n d H) g with | some b => some (a ++ b) | none => none) | none => none) := by
  induction f with
  | nil => simp only [List.nil_append, mapO]; cases mapO (fz n d H) g <;> rfl
  | cons x r ih =>
    simp only [List.cons_append, mapO, ih]
    cases fz n d H x <;> cases mapO (fz n d H) r <;> cases mapO (fz n d H) g <;> rfl
theorem fz_d (n d : Nat) (H : Hp) (x : D) : fz n d H (.d x) = some x := by cases d <;> rfl

/-! ### Cells -/
theorem vc_agg (cs : List V) : V.cells (.agg cs) = cs := rfl
theorem vc_dagg (cs : List D) : V.cells (.d (.agg cs)) = cs.map V.d := rfl
theorem va_agg (cs : List V) : V.isAgg (.agg cs) = true := rfl
theorem va_dagg (cs : List D) : V.isAgg (.d (.agg cs)) = true := rfl
theorem dc_agg (cs : List D) : D.cells (.agg cs) = cs := rfl
theorem vc_str (s : List UInt8) : V.cells (.d (.str s)) = [.d (.str s)] := rfl
theorem va_str (s : List UInt8) : V.isAgg (.d (.str s)) = false := rfl
theorem dc_str (s : List UInt8) : D.cells (.str s) = [.str s] := rfl
theorem vc_int (k : IntKind) (n : Int) : V.cells (.d (.int k n)) = [.d (.int k n)] := rfl
theorem va_int (k : IntKind) (n : Int) : V.isAgg (.d (.int k n)) = false := rfl
theorem dc_int (k : IntKind) (n : Int) : D.cells (.int k n) = [.int k n] := rfl
theorem vc_bool (b : Bool) : V.cells (.d (.bool b)) = [.d (.bool b)] := rfl
theorem va_bool (b : Bool) : V.isAgg (.d (.bool b)) = false := rfl
theorem dc_bool (b : Bool) : D.cells (.bool b) = [.bool b] := rfl
theorem vc_vals (e : Nat) (xs : List D) : V.cells (.d (.vals e xs)) = [.d (.vals e xs)] := rfl
theorem va_vals (e : Nat) (xs : List D) : V.isAgg (.d (.vals e xs)) = false := rfl
theorem dc_vals (e : Nat) (xs : List D) : D.cells (.vals e xs) = [.vals e xs] := rfl
theorem vc_nilp  : V.cells (.d (.nilp)) = [.d (.nilp)] := rfl
theorem va_nilp  : V.isAgg (.d (.nilp)) = false := rfl
theorem dc_nilp  : D.cells (.nilp) = [.nilp] := rfl
theorem vc_rptr (cs : List D) : V.cells (.d (.rptr cs)) = [.d (.rptr cs)] := rfl
theorem va_rptr (cs : List D) : V.isAgg (.d (.rptr cs)) = false := rfl
theorem dc_rptr (cs : List D) : D.cells (.rptr cs) = [.rptr cs] := rfl
theorem vc_fnd (f : Fn) (cs : List D) : V.cells (.d (.fn f cs)) = [.d (.fn f cs)] := rfl
theorem va_fnd (f : Fn) (cs : List D) : V.isAgg (.d (.fn f cs)) = false := rfl
theorem dc_fnd (f : Fn) (cs : List D) : D.cells (.fn f cs) = [.fn f cs] := rfl
theorem vc_nilfn  : V.cells (.d (.nilfn)) = [.d (.nilfn)] := rfl
theorem va_nilfn  : V.isAgg (.d (.nilfn)) = false := rfl
theorem dc_nilfn  : D.cells (.nilfn) = [.nilfn] := rfl
theorem vc_iface (t : Nat) (x : D) : V.cells (.d (.iface t x)) = [.d (.iface t x)] := rfl
theorem va_iface (t : Nat) (x : D) : V.isAgg (.d (.iface t x)) = false := rfl
theorem dc_iface (t : Nat) (x : D) : D.cells (.iface t x) = [.iface t x] := rfl
theorem vc_niface  : V.cells (.d (.niface)) = [.d (.niface)] := rfl
theorem va_niface  : V.isAgg (.d (.niface)) = false := rfl
theorem dc_niface  : D.cells (.niface) = [.niface] := rfl
theorem vc_mval (ks vs : List D) : V.cells (.d (.mval ks vs)) = [.d (.mval ks vs)] := rfl
theorem va_mval (ks vs : List D) : V.isAgg (.d (.mval ks vs)) = false := rfl
theorem dc_mval (ks vs : List D) : D.cells (.mval ks vs) = [.mval ks vs] := rfl
theorem vc_slc (r g i n : Nat) : V.cells (.slc r g i n) = [.slc r g i n] := rfl
theorem va_slc (r g i n : Nat) : V.isAgg (.slc r g i n) = false := rfl
theorem vc_ptr (r g i j : Nat) : V.cells (.ptr r g i j) = [.ptr r g i j] := rfl
theorem va_ptr (r g i j : Nat) : V.isAgg (.ptr r g i j) = false := rfl
theorem vc_fnv (f : Fn) (cs : List V) : V.cells (.fn f cs) = [.fn f cs] := rfl
theorem va_fnv (f : Fn) (cs : List V) : V.isAgg (.fn f cs) = false := rfl
theorem vc_mref (r : Nat) : V.cells (.mref r) = [.mref r] := rfl
theorem va_mref (r : Nat) : V.isAgg (.mref r) = false := rfl
theorem vc_nils (e : Nat) : V.cells (.nils e) = [.nils e] := rfl
theorem va_nils (e : Nat) : V.isAgg (.nils e) = false := rfl
theorem vc_und  : V.cells (.und) = [.und] := rfl
theorem va_und  : V.isAgg (.und) = false := rfl
theorem ap_ap (H l m : Hp) : ap (ap H l) m = ap H ((l : List Obj) ++ m) := by simp [ap]

/-! ### Rounds -/
section
variable {F : St → Option (Out × St)} {lv : List Nat}
theorem evLoop_next {st st' : St} (h : F ⟨st.env.keep lv, st.hp⟩ = some (.normal, st')) : evLoop F lv st = evLoop F lv st' := by
  rw [evLoop_eq, h]
theorem evLoop_stop {st st' : St} {o : Out} (h : F ⟨st.env.keep lv, st.hp⟩ = some (o, st')) (ho : o ≠ .normal) : evLoop F lv st = some (o, st') := by
  rw [evLoop_eq, h]
  cases o with
  | normal => exact absurd rfl ho
  | exit id => rfl
  | ret => rfl

def runI {σ ρ : Type} (f : Nat → σ → σ ⊕ ρ) : Nat → Nat → σ → σ ⊕ ρ
  | 0, _, s => .inl s
  | n + 1, i, s =>
    match f i s with
    | .inl s' => runI f n (i + 1) s'
    | .inr r => .inr r

def Gives (Q : Out → Env → Hp → Prop) (r : Option (Out × St)) : Prop :=
  match r with
  | some (o, ⟨e, X⟩) => Q o e X
  | none => False
theorem gives_some (Q : Out → Env → Hp → Prop) (o : Out) (e : Env) (X : Hp) : Gives Q (some (o, ⟨e, X⟩)) = Q o e X := rfl
theorem Gives.out {Q : Out → Env → Hp → Prop} {r : Option (Out × St)} (h : Gives Q r) : ∃ o e X, r = some (o, ⟨e, X⟩) ∧ Q o e X := by
  match r, h with
  | some (o, ⟨e, X⟩), h => exact ⟨o, e, X, rfl, h⟩
def Step (Rep : Env → Hp → Prop) (Done : Out → Env → Hp → Prop) : Out → Env → Hp → Prop
  | .normal, e, X => Rep e X
  | .exit id, e, X => Done (.exit id) e X
  | .ret, e, X => Done .ret e X
theorem step_normal (R : Env → Hp → Prop) (D : Out → Env → Hp → Prop) (e : Env) (X : Hp) : Step R D .normal e X = R e X := rfl
theorem step_exit (R : Env → Hp → Prop) (D : Out → Env → Hp → Prop) (e : Env) (X : Hp) (id : Nat) : Step R D (.exit id) e X = D (.exit id) e X := rfl
theorem step_ret (R : Env → Hp → Prop) (D : Out → Env → Hp → Prop) (e : Env) (X : Hp) : Step R D .ret e X = D .ret e X := rfl
def Fin2 {σ ρ : Type} (Done : σ → Out → Env → Hp → Prop) (Quit : ρ → Out → Env → Hp → Prop) (x : σ ⊕ ρ) : Out → Env → Hp → Prop := match x with
  | .inl s => Done s
  | .inr q => Quit q
def Round {σ ρ : Type} (Rep : σ → Env → Hp → Prop) (Quit : ρ → Out → Env → Hp → Prop) (x : σ ⊕ ρ) : Out → Env → Hp → Prop := match x with
  | .inl s => fun o e X => o = .normal ∧ Rep s e X
  | .inr q => fun o e X => o ≠ .normal ∧ Quit q o e X

theorem loop_run {σ ρ : Type} (f : Nat → σ → σ ⊕ ρ) (N : Nat) (Rep : Nat → σ → Env → Hp → Prop) (Done : σ → Out → Env → Hp → Prop) (Quit : ρ → Out → Env → Hp → Prop)
    (hend : ∀ s e X, Rep N s e X → Gives (fun o e X => o ≠ .normal ∧ Done s o e X) (F ⟨e.keep lv, X⟩))
    (hstep : ∀ i s e X, i < N → Rep i s e X → Gives (Round (Rep (i + 1)) Quit (f i s)) (F ⟨e.keep lv, X⟩)) :
    ∀ (n i : Nat) (s : σ) (e : Env) (X : Hp), i + n = N → Rep i s e X → Gives (Fin2 Done Quit (runI f n i s)) (evLoop F lv ⟨e, X⟩)
  | 0, i, s, e, X, hn, hr => by
    obtain rfl : i = N := by omega
    obtain ⟨o, e', X', h1, h2, h3⟩ := (hend s e X hr).out
    rw [evLoop_stop h1 h2]
    exact h3
  | n + 1, i, s, e, X, hn, hr => by
    obtain ⟨o, e', X', h1, h⟩ := (hstep i s e X (by omega) hr).out
    simp only [runI]
    cases hf : f i s with
    | inl s' =>
      rw [hf] at h
      obtain ⟨rfl, h2⟩ := h
      simp only
      rw [evLoop_next h1]
      exact loop_run f N Rep Done Quit hend hstep n (i + 1) s' e' X' (by omega) h2
    | inr q =>
      rw [hf] at h
      obtain ⟨h2, h3⟩ := h
      rw [evLoop_stop h1 h2]
      exact h3

theorem loop_all {σ : Type} (f : Nat → σ → σ) (N : Nat) (Rep : Nat → σ → Env → Hp → Prop) (Done : σ → Out → Env → Hp → Prop)
    (hend : ∀ s e X, Rep N s e X → Gives (fun o e X => o ≠ .normal ∧ Done s o e X) (F ⟨e.keep lv, X⟩))
    (hstep : ∀ i s e X, i < N → Rep i s e X → Gives (fun o e X => o = .normal ∧ Rep (i + 1) (f i s) e X) (F ⟨e.keep lv, X⟩)) :
    ∀ (n i : Nat) (s : σ) (e : Env) (X : Hp), i + n = N → Rep i s e X → Gives (Done ((List.range' i n).foldl (fun s i => f i s) s)) (evLoop F lv ⟨e, X⟩)
  | 0, i, s, e, X, hn, hr => by
    obtain rfl : i = N := by omega
    obtain ⟨o, e', X', h1, h2, h3⟩ := (hend s e X hr).out
    rw [evLoop_stop h1 h2]
    exact h3
  | n + 1, i, s, e, X, hn, hr => by
    obtain ⟨o, e', X', h1, rfl, h2⟩ := (hstep i s e X (by omega) hr).out
    rw [evLoop_next h1, List.range'_succ, List.foldl_cons]
    exact loop_all f N Rep Done hend hstep n (i + 1) (f i s) e' X' (by omega) h2

theorem loop_keep (N : Nat) (Rep : Nat → Env → Hp → Prop) (Done : Out → Env → Hp → Prop)
    (hend : ∀ e X, Rep N e X → Gives (fun o e X => o ≠ .normal ∧ Done o e X) (F ⟨e.keep lv, X⟩))
    (hstep : ∀ i e X, i < N → Rep i e X → Gives (Step (Rep (i + 1)) Done) (F ⟨e.keep lv, X⟩)) :
    ∀ (n i : Nat) (e : Env) (X : Hp), i + n = N → Rep i e X → Gives Done (evLoop F lv ⟨e, X⟩)
  | 0, i, e, X, hn, hr => by
    obtain rfl : i = N := by omega
    obtain ⟨o, e', X', h1, h2, h3⟩ := (hend e X hr).out
    rw [evLoop_stop h1 h2]
    exact h3
  | n + 1, i, e, X, hn, hr => by
    obtain ⟨o, e', X', h1, h2⟩ := (hstep i e X (by omega) hr).out
    cases o with
    | normal =>
      rw [evLoop_next h1]
      exact loop_keep N Rep Done hend hstep n (i + 1) e' X' (by omega) h2
    | exit id => rw [evLoop_stop h1 (by simp)]; exact h2
    | ret => rw [evLoop_stop h1 (by simp)]; exact h2
theorem loop_while (I : Nat → Env → Hp → Prop) (Done : Out → Env → Hp → Prop)
    (hs : ∀ n e X, I n e X → Gives (Step (fun e X => ∃ m, m < n ∧ I m e X) Done) (F ⟨e.keep lv, X⟩)) :
    ∀ (n : Nat) (e : Env) (X : Hp), I n e X → Gives Done (evLoop F lv ⟨e, X⟩) := by
  intro n
  induction n using Nat.strongRecOn with
  | ind n ih =>
    intro e X h
    obtain ⟨o, e', X', h1, h2⟩ := (hs n e X h).out
    cases o with
    | normal =>
      obtain ⟨m, hm, h3⟩ := h2
      rw [evLoop_next h1]
      exact ih m hm e' X' h3
    | exit id => rw [evLoop_stop h1 (by simp)]; exact h2
    | ret => rw [evLoop_stop h1 (by simp)]; exact h2
end
end Go.Ev
/- The functions of these laws as compact code, and that it is the given code. -/
namespace Go.Proofs.YtjdmiodinhlchaaGreat.Code
open Go Go.Ev Go.Proofs
/- laws.FnBaseKeys -/
def f3l0 : ACode := (.seq (.seq (.reg false [mV 40 7, oF 41 1 3, oL 42 41, oP 43 (.len false (.t 42)), oP 44 (.bin .lss .val (.t 40) (.t 43))]) [3, 4, 5, 6, 7, 44]
 (.cond (.t 44) (.skip) (.exit 0))) [3, 4, 5, 6, 7]
 (.seq (.block 1 (.seq (.reg false [mV 47 4, oF 48 1 3, oL 49 48, mV 50 7, oP 51 (.iaddr 7 (.t 49) (.t 50)), oF 52 0 51, oL 53 52, oP 54 (.pcall (.f 12) [.t 47, .t 53])]) [3, 4, 5, 6, 7, 54]
 (.cond (.t 54) (.seq (.seq (.reg true [mV 55 6, mV 56 5, oP 57 (.len false (.t 56)), oP 58 (.bin .geq .val (.t 55) (.t 57)), mV 59 58, oG 60 59 false (.mv (.t 5)), oG 61 59 false (.mv (.t 6)), oG 62 59 false (.iaddr 1 (.t 60) (.t 61)), oG 63 59 false (.load false 1 (.t 62)), oG 64 59 false (.faddr 1 (.t 3)), oG 65 59 false (.load false 1 (.t 64)), oG 66 59 false (.mv (.t 7)), oG 67 59 false (.iaddr 7 (.t 65) (.t 66)), oG 68 59 false (.faddr 0 (.t 67)), oG 69 59 false (.load false 1 (.t 68)), oG 70 59 false (.bin .neq .val (.t 63) (.t 69)), oP 71 (.pick (.t 59) (.c (.bool true)) (.t 70))]) [3, 4, 5, 6, 7, 71]
 (.cond (.t 71) (.seq (.reg false [oP 2 (.mv (.c (.bool false)))]) [2]
 (.ret)) (.skip))) [3, 4, 5, 6, 7]
 (.reg false [mV 72 6, oP 73 (.bin .add .val (.t 72) (.c (.int .i64 (1)))), mV 6 73])) (.skip)))) [3, 4, 5, 6, 7]
 (.reg false [mV 45 7, oP 46 (.bin .add .val (.t 45) (.c (.int .i64 (1)))), mV 7 46])))
def f3 : AFunc := { np := 1, nt := 87, res := [.tmp 2], own := false, body := (.seq (.reg false [oP 2 (.mv (.c (.bool false)))]) [0]
 (.seq (.seq (.reg false [mV 8 0, oP 9 (.len false (.t 8)), oP 10 (.bin .gtr .val (.t 9) (.c (.int .i64 (1048576))))]) [0, 10]
 (.cond (.t 10) (.seq (.reg false [oP 2 (.mv (.c (.bool true)))]) [2]
 (.ret)) (.skip))) [0]
 (.seq (.reg false [mV 12 0, oP 13 (.call (.f 7) [(false, .t 12)] false), mV 11 13, oP 14 (.extract (.t 11) 0), oP 15 (.extract (.t 11) 1), oP 3 (.alloc (.agg [.d (.int .i64 (0)), .nils 7])), oN (.store 2 (.t 3) (.t 14)), mV 4 15]) [3, 4]
 (.seq (.reg false [oP 16 (.load true 2 (.t 3)), mV 17 4, oP 18 (.pcall (.f 8) [.t 16, .t 17]), mV 5 18]) [3, 4, 5]
 (.seq (.seq (.reg false [mV 19 5, oP 20 (.load true 2 (.t 3)), mV 21 4, oP 22 (.pcall (.f 10) [.t 20, .t 21]), oP 23 (.pcall (.f 9) [.t 19, .t 22]), oP 24 (.un .not (.t 23)), mV 25 24, oG 26 25 false (.load true 2 (.t 3)), oG 27 25 false (.pcall (.f 11) [.t 26]), oG 28 25 false (.un .not (.t 27)), oP 29 (.pick (.t 25) (.c (.bool true)) (.t 28)), mV 30 29, oG 31 30 false (.mv (.t 4)), oG 32 30 false (.len true (.t 31)), oG 33 30 false (.bin .gtr .val (.t 32) (.c (.int .i64 (12)))), oP 34 (.pick (.t 30) (.c (.bool true)) (.t 33))]) [3, 4, 5, 34]
 (.cond (.t 34) (.seq (.reg false [mV 35 5, oP 36 (.load true 2 (.t 3)), mV 37 4, oP 38 (.pcall (.f 10) [.t 36, .t 37]), oP 39 (.pcall (.f 9) [.t 35, .t 38]), mV 2 39]) [2]
 (.ret)) (.skip))) [3, 4, 5]
 (.seq (.reg false [oP 6 (.mv (.c (.int .i64 (0))))]) [3, 4, 5, 6]
 (.seq (.seq (.reg false [oP 7 (.mv (.c (.int .i64 (0))))]) [3, 4, 5, 6, 7]
 (.block 0 (.loop [3, 4, 5, 6, 7] f3l0))) [3, 5, 6]
 (.seq (.reg true [mV 74 6, mV 75 5, oP 76 (.len false (.t 75)), oP 77 (.bin .eql .val (.t 74) (.t 76)), mV 78 77, oG 79 78 true (.load true 2 (.t 3)), oG 80 78 true (.pcall (.f 8) [.t 79, .c (.str [42])]), oG 81 78 true (.len false (.t 80)), oG 82 78 true (.faddr 1 (.t 3)), oG 83 78 true (.load false 1 (.t 82)), oG 84 78 true (.len false (.t 83)), oG 85 78 true (.bin .eql .val (.t 81) (.t 84)), oP 86 (.pick (.t 78) (.t 85) (.c (.bool false))), mV 2 86]) [2]
 (.ret))))))))) }
/- laws.FnBaseTick -/
def f4l0 : ACode := (.seq (.seq (.reg false [mV 54 9, oF 55 1 5, oL 56 55, oP 57 (.len false (.t 56)), oP 58 (.bin .lss .val (.t 54) (.t 57))]) [1, 5, 6, 7, 8, 9, 58]
 (.cond (.t 58) (.skip) (.exit 0))) [1, 5, 6, 7, 8, 9]
 (.seq (.block 1 (.seq (.reg true [oF 61 1 5, oL 62 61, mV 63 9, oP 64 (.iaddr 7 (.t 62) (.t 63)), oF 65 1 64, oL 66 65, oP 67 (.bin .eql .val (.t 66) (.c (.int .i64 (0)))), mV 68 67, oG 69 68 false (.faddr 1 (.t 5)), oG 70 68 false (.load false 1 (.t 69)), oG 71 68 false (.mv (.t 9)), oG 72 68 false (.iaddr 7 (.t 70) (.t 71)), oG 73 68 false (.faddr 1 (.t 72)), oG 74 68 false (.load false 1 (.t 73)), oG 75 68 false (.faddr 0 (.t 7)), oG 76 68 false (.load false 1 (.t 75)), oG 77 68 false (.bin .gtr .val (.t 74) (.t 76)), oP 78 (.pick (.t 68) (.c (.bool true)) (.t 77))]) [1, 5, 6, 7, 8, 9, 78]
 (.cond (.t 78) (.seq (.seq (.reg true [mV 79 8, oF 80 1 7, oL 81 80, oP 82 (.len false (.t 81)), oP 83 (.bin .geq .val (.t 79) (.t 82)), mV 84 83, oG 85 84 false (.faddr 1 (.t 7)), oG 86 84 false (.load false 1 (.t 85)), oG 87 84 false (.mv (.t 8)), oG 88 84 false (.iaddr 7 (.t 86) (.t 87)), oG 89 84 false (.load true 7 (.t 88)), oG 90 84 false (.faddr 1 (.t 5)), oG 91 84 false (.load false 1 (.t 90)), oG 92 84 false (.mv (.t 9)), oG 93 84 false (.iaddr 7 (.t 91) (.t 92)), oG 94 84 false (.load true 7 (.t 93)), oG 95 84 false (.pcall (.f 17) [.t 89, .t 94]), oG 96 84 false (.un .not (.t 95)), oP 97 (.pick (.t 84) (.c (.bool true)) (.t 96))]) [1, 5, 6, 7, 8, 9, 97]
 (.cond (.t 97) (.seq (.reg false [oP 4 (.mv (.c (.bool false)))]) [4]
 (.ret)) (.skip))) [1, 5, 6, 7, 8, 9]
 (.reg false [mV 98 8, oP 99 (.bin .add .val (.t 98) (.c (.int .i64 (1)))), mV 8 99])) (.skip)))) [1, 5, 6, 7, 8, 9]
 (.reg false [mV 59 9, oP 60 (.bin .add .val (.t 59) (.c (.int .i64 (1)))), mV 9 60])))
def f4 : AFunc := { np := 2, nt := 134, res := [.tmp 4], own := false, body := (.seq (.reg false [oP 4 (.mv (.c (.bool false)))]) [0, 1]
 (.seq (.seq (.reg false [mV 11 0, oP 12 (.len false (.t 11)), oP 13 (.bin .gtr .val (.t 12) (.c (.int .i64 (1048576)))), mV 14 13, oG 15 14 false (.mv (.t 1)), oG 16 14 false (.len false (.t 15)), oG 17 14 false (.bin .gtr .val (.t 16) (.c (.int .i64 (1048576)))), oP 18 (.pick (.t 14) (.c (.bool true)) (.t 17))]) [0, 1, 18]
 (.cond (.t 18) (.seq (.reg false [oP 4 (.mv (.c (.bool true)))]) [4]
 (.ret)) (.skip))) [0, 1]
 (.seq (.reg false [mV 20 0, oP 21 (.call (.f 13) [(false, .t 20)] false), mV 19 21, oP 22 (.extract (.t 19) 0), oP 23 (.extract (.t 19) 1), oP 5 (.alloc (.agg [.d (.int .i64 (0)), .nils 7])), oN (.store 2 (.t 5) (.t 22)), mV 6 23]) [1, 5, 6]
 (.seq (.reg false [oP 24 (.load true 2 (.t 5)), mV 25 6, oP 26 (.pcall (.f 14) [.t 24, .t 25]), oP 7 (.alloc (.agg [.d (.int .i64 (0)), .nils 7])), oN (.store 2 (.t 7) (.t 26))]) [1, 5, 6, 7]
 (.seq (.seq (.reg true [oP 27 (.load true 2 (.t 7)), oP 28 (.load true 2 (.t 5)), mV 29 6, oP 30 (.pcall (.f 16) [.t 28, .t 29]), oP 31 (.pcall (.f 15) [.t 27, .t 30]), oP 32 (.un .not (.t 31)), mV 33 32, oG 34 33 false (.load true 2 (.t 5)), oG 35 33 false (.pcall (.f 11) [.t 34]), oG 36 33 false (.un .not (.t 35)), oP 37 (.pick (.t 33) (.c (.bool true)) (.t 36)), mV 38 37, oG 39 38 false (.mv (.t 6)), oG 40 38 false (.bin .lss .val (.t 39) (.c (.int .i64 (0)))), oP 41 (.pick (.t 38) (.c (.bool true)) (.t 40)), mV 42 41, oG 43 42 false (.mv (.t 6)), oG 44 42 false (.faddr 0 (.t 5)), oG 45 42 false (.load false 1 (.t 44)), oG 46 42 false (.bin .sub .val (.c (.int .i64 (1000000))) (.t 45)), oG 47 42 false (.bin .gtr .val (.t 43) (.t 46)), oP 48 (.pick (.t 42) (.c (.bool true)) (.t 47))]) [1, 5, 6, 7, 48]
 (.cond (.t 48) (.seq (.reg true [oP 49 (.load true 2 (.t 7)), oP 50 (.load true 2 (.t 5)), mV 51 6, oP 52 (.pcall (.f 16) [.t 50, .t 51]), oP 53 (.pcall (.f 15) [.t 49, .t 52]), mV 4 53]) [4]
 (.ret)) (.skip))) [1, 5, 6, 7]
 (.seq (.reg false [oP 8 (.mv (.c (.int .i64 (0))))]) [1, 5, 6, 7, 8]
 (.seq (.seq (.reg false [oP 9 (.mv (.c (.int .i64 (0))))]) [1, 5, 6, 7, 8, 9]
 (.block 0 (.loop [1, 5, 6, 7, 8, 9] f4l0))) [1, 5, 6, 7, 8]
 (.seq (.reg false [mV 100 1, oP 101 (.len false (.t 100)), mV 102 6, oP 103 (.bin .add .val (.t 102) (.c (.int .i64 (1)))), oP 104 (.bin .rem .val (.t 101) (.t 103)), mV 10 104]) [5, 6, 7, 8, 10]
 (.seq (.reg true [oP 105 (.load true 2 (.t 7)), oP 106 (.pcall (.f 18) [.t 105]), mV 107 106, oG 108 107 true (.faddr 0 (.t 7)), oG 109 107 true (.load false 1 (.t 108)), oG 110 107 true (.faddr 0 (.t 5)), oG 111 107 true (.load false 1 (.t 110)), oG 112 107 true (.mv (.t 6)), oG 113 107 true (.bin .add .val (.t 111) (.t 112)), oG 114 107 true (.bin .eql .val (.t 109) (.t 113)), oP 115 (.pick (.t 107) (.t 114) (.c (.bool false))), mV 116 115, oG 117 116 true (.mv (.t 8)), oG 118 116 true (.faddr 1 (.t 7)), oG 119 116 true (.load false 1 (.t 118)), oG 120 116 true (.len false (.t 119)), oG 121 116 true (.bin .eql .val (.t 117) (.t 120)), oP 122 (.pick (.t 116) (.t 121) (.c (.bool false))), mV 123 122, oG 124 123 true (.load true 2 (.t 5)), oG 125 123 true (.mv (.t 10)), oG 126 123 true (.pcall (.f 14) [.t 124, .t 125]), oG 127 123 true (.mv (.t 6)), oG 128 123 true (.mv (.t 10)), oG 129 123 true (.bin .sub .val (.t 127) (.t 128)), oG 130 123 true (.pcall (.f 14) [.t 126, .t 129]), oG 131 123 true (.load true 2 (.t 7)), oG 132 123 true (.pcall (.f 15) [.t 130, .t 131]), oP 133 (.pick (.t 123) (.t 132) (.c (.bool false))), mV 4 133]) [4]
 (.ret)))))))))) }
/- spec.DrawBaseKeys -/
def f7 : AFunc := { np := 1, nt := 12, res := [.cell 2 true 2, .tmp 3], own := false, body := (.seq (.reg false [oP 2 (.alloc (.agg [.d (.int .i64 (0)), .nils 7])), oP 3 (.mv (.c (.str [])))]) [0, 2]
 (.seq (.reg false [mV 5 0, oP 6 (.call (.f 27) [(false, .t 5)] false), mV 4 6]) [2, 4]
 (.seq (.reg false [mV 7 4, oP 8 (.call (.f 28) [(false, .t 7)] false), mV 9 4, oP 10 (.lit false 1 [.c (.str [42]), .c (.str [63]), .c (.str [107, 42]), .c (.str [107, 63]), .c (.str []), .c (.str [42, 50]), .c (.str [122, 122, 122, 122, 122, 122, 122, 122, 122, 122, 122, 122, 122])]), oP 11 (.call (.f 29) [(false, .t 9), (false, .t 10)] false), oN (.store 2 (.t 2) (.t 8)), mV 3 11]) [2, 3]
 (.ret)))) }
/- impl.BaseKeys -/
def f8l0 : ACode := (.trim [1, 5, 19, 20, 21] (.seq (.reg false [oP 22 (.bin .lss .val (.t 21) (.t 20))]) [1, 5, 19, 20, 21, 22]
 (.seq (.cond (.t 22) (.skip) (.exit 0)) [1, 5, 19, 20, 21]
 (.seq (.block 1 (.seq (.reg false [oP 23 (.iaddr 7 (.t 19) (.t 21)), oP 24 (.load true 7 (.t 23)), oP 7 (.alloc (.agg [.d (.str []), .d (.int .i64 (0)), .d (.int .i64 (0)), .d (.str []), .nils 1, .nils 2, .nils 2])), oN (.store 7 (.t 7) (.t 24))]) [1, 5, 7, 19, 20, 21]
 (.seq (.reg false [mV 25 1, oF 26 0 7, oL 27 26, oP 28 (.pcall (.f 12) [.t 25, .t 27])]) [1, 5, 7, 19, 20, 21, 28]
 (.cond (.t 28) (.reg false [mV 29 5, oF 30 0 7, oL 31 30, oP 32 (.lit false 1 [.t 31]), oP 33 (.append 1 16 (.t 29) (.t 32)), mV 5 33]) (.skip))))) [1, 5, 19, 20, 21]
 (.reg false [oP 34 (.bin .add .val (.t 21) (.c (.int .i64 (1)))), mV 21 34])))))
def f8 : AFunc := { np := 2, nt := 36, res := [.tmp 4], own := false, body := (.seq (.reg false [oP 2 (.box (.t 0)), oP 4 (.mv (.nil 1))]) [1, 2]
 (.seq (.reg false [oP 8 (.lit true 1 []), mV 5 8]) [1, 2, 5]
 (.seq (.seq (.reg false [oP 9 (.load true 2 (.t 2)), oP 10 (.pcall (.f 18) [.t 9]), oP 11 (.un .not (.t 10)), mV 12 11, oG 13 12 false (.mv (.t 1)), oG 14 12 false (.len true (.t 13)), oG 15 12 false (.bin .gtr .val (.t 14) (.c (.int .i64 (12)))), oP 16 (.pick (.t 12) (.c (.bool true)) (.t 15))]) [1, 2, 5, 16]
 (.cond (.t 16) (.seq (.reg false [mV 17 5, mV 4 17]) [4]
 (.ret)) (.skip))) [1, 2, 5]
 (.seq (.seq (.reg false [oF 18 1 2, oL 19 18, oP 20 (.len false (.t 19)), oP 21 (.mv (.c (.int .i64 (0))))]) [1, 5, 19, 20, 21]
 (.block 0 (.loop [1, 5, 19, 20, 21] f8l0))) [5]
 (.seq (.reg false [mV 35 5, mV 4 35]) [4]
 (.ret)))))) }
/- laws.qxTexts -/
def f9l0 : ACode := (.seq (.seq (.reg false [mV 11 5, mV 12 0, oP 13 (.len false (.t 12)), oP 14 (.bin .lss .val (.t 11) (.t 13))]) [0, 1, 5, 14]
 (.cond (.t 14) (.skip) (.exit 0))) [0, 1, 5]
 (.seq (.block 1 (.seq (.reg true [mV 17 0, mV 18 5, oP 19 (.iaddr 1 (.t 17) (.t 18)), oL 20 19, mV 21 1, mV 22 5, oP 23 (.iaddr 1 (.t 21) (.t 22)), oL 24 23, oP 25 (.bin .neq .val (.t 20) (.t 24))]) [0, 1, 5, 25]
 (.cond (.t 25) (.seq (.reg false [oP 4 (.mv (.c (.bool false)))]) [4]
 (.ret)) (.skip)))) [0, 1, 5]
 (.reg false [mV 15 5, oP 16 (.bin .add .val (.t 15) (.c (.int .i64 (1)))), mV 5 16])))
def f9 : AFunc := { np := 2, nt := 26, res := [.tmp 4], own := false, body := (.seq (.reg false [oP 4 (.mv (.c (.bool false)))]) [0, 1]
 (.seq (.seq (.reg false [mV 6 0, oP 7 (.len false (.t 6)), mV 8 1, oP 9 (.len false (.t 8)), oP 10 (.bin .neq .val (.t 7) (.t 9))]) [0, 1, 10]
 (.cond (.t 10) (.seq (.reg false [oP 4 (.mv (.c (.bool false)))]) [4]
 (.ret)) (.skip))) [0, 1]
 (.seq (.seq (.reg false [oP 5 (.mv (.c (.int .i64 (0))))]) [0, 1, 5]
 (.block 0 (.loop [0, 1, 5] f9l0))) []
 (.seq (.reg false [oP 4 (.mv (.c (.bool true)))]) [4]
 (.ret))))) }
/- spec.BaseKeys -/
def f10l0 : ACode := (.seq (.seq (.reg false [mV 8 6, oF 9 1 2, oL 10 9, oP 11 (.len false (.t 10)), oP 12 (.bin .lss .val (.t 8) (.t 11)), mV 13 12, oG 14 13 true (.load true 2 (.t 2)), oG 15 13 true (.pcall (.f 11) [.t 14]), oP 16 (.pick (.t 13) (.t 15) (.c (.bool false))), mV 17 16, oG 18 17 true (.mv (.t 1)), oG 19 17 true (.len true (.t 18)), oG 20 17 true (.bin .leq .val (.t 19) (.c (.int .i64 (12)))), oP 21 (.pick (.t 17) (.t 20) (.c (.bool false)))]) [1, 2, 5, 6, 21]
 (.cond (.t 21) (.skip) (.exit 0))) [1, 2, 5, 6]
 (.seq (.block 1 (.seq (.reg false [mV 24 1, oF 25 1 2, oL 26 25, mV 27 6, oP 28 (.iaddr 7 (.t 26) (.t 27)), oF 29 0 28, oL 30 29, oP 31 (.pcall (.f 30) [.t 24, .t 30])]) [1, 2, 5, 6, 31]
 (.cond (.t 31) (.reg false [mV 32 5, oF 33 1 2, oL 34 33, mV 35 6, oP 36 (.iaddr 7 (.t 34) (.t 35)), oF 37 0 36, oL 38 37, oP 39 (.lit false 1 [.t 38]), oP 40 (.append 1 16 (.t 32) (.t 39)), mV 5 40]) (.skip)))) [1, 2, 5, 6]
 (.reg false [mV 22 6, oP 23 (.bin .add .val (.t 22) (.c (.int .i64 (1)))), mV 6 23])))
def f10 : AFunc := { np := 2, nt := 42, res := [.tmp 4], own := false, body := (.seq (.reg false [oP 2 (.box (.t 0)), oP 4 (.mv (.nil 1))]) [1, 2]
 (.seq (.reg false [oP 7 (.lit true 1 []), mV 5 7]) [1, 2, 5]
 (.seq (.seq (.reg false [oP 6 (.mv (.c (.int .i64 (0))))]) [1, 2, 5, 6]
 (.block 0 (.loop [1, 2, 5, 6] f10l0))) [5]
 (.seq (.reg false [mV 41 5, mV 4 41]) [4]
 (.ret))))) }
/- spec.BaseOk -/
def f11l0 : ACode := (.trim [1, 3] (.seq (.seq (.reg false [mV 5 3, oF 6 1 1, oL 7 6, oP 8 (.len false (.t 7)), oP 9 (.bin .lss .val (.t 5) (.t 8))]) [1, 3, 9]
 (.cond (.t 9) (.skip) (.exit 0))) [1, 3]
 (.seq (.block 1 (.seq (.reg false [oF 12 1 1, oL 13 12, mV 14 3, oP 15 (.iaddr 7 (.t 13) (.t 14)), oP 16 (.load true 7 (.t 15)), oP 4 (.alloc (.agg [.d (.str []), .d (.int .i64 (0)), .d (.int .i64 (0)), .d (.str []), .nils 1, .nils 2, .nils 2])), oN (.store 7 (.t 4) (.t 16))]) [1, 3, 4]
 (.seq (.reg true [oP 17 (.load true 7 (.t 4)), oP 18 (.pcall (.f 31) [.t 17]), oP 19 (.un .not (.t 18)), mV 20 19, oG 21 20 false (.faddr 1 (.t 4)), oG 22 20 false (.load false 1 (.t 21)), oG 23 20 false (.bin .neq .val (.t 22) (.c (.int .i64 (0)))), oG 24 20 false (.mv (.t 23)), oG 25 24 true (.faddr 1 (.t 4)), oG 26 24 true (.load false 1 (.t 25)), oG 27 24 true (.faddr 0 (.t 1)), oG 28 24 true (.load false 1 (.t 27)), oG 29 24 true (.bin .leq .val (.t 26) (.t 28)), oG 30 20 false (.pick (.t 24) (.t 29) (.c (.bool false))), oP 31 (.pick (.t 20) (.c (.bool true)) (.t 30)), mV 32 31, oG 33 32 false (.mv (.t 3)), oG 34 32 false (.bin .gtr .val (.t 33) (.c (.int .i64 (0)))), oG 35 32 false (.mv (.t 34)), oG 36 35 true (.faddr 1 (.t 1)), oG 37 35 true (.load false 1 (.t 36)), oG 38 35 true (.mv (.t 3)), oG 39 35 true (.bin .sub .val (.t 38) (.c (.int .i64 (1)))), oG 40 35 true (.iaddr 7 (.t 37) (.t 39)), oG 41 35 true (.faddr 0 (.t 40)), oG 42 35 true (.load false 1 (.t 41)), oG 43 35 true (.faddr 0 (.t 4)), oG 44 35 true (.load false 1 (.t 43)), oG 45 35 true (.bin .geq .val (.t 42) (.t 44)), oG 46 32 false (.pick (.t 35) (.t 45) (.c (.bool false))), oP 47 (.pick (.t 32) (.c (.bool true)) (.t 46))]) [1, 3, 47]
 (.cond (.t 47) (.seq (.reg false [oP 2 (.mv (.c (.bool false)))]) [2]
 (.ret)) (.skip))))) [1, 3]
 (.reg false [mV 10 3, oP 11 (.bin .add .val (.t 10) (.c (.int .i64 (1)))), mV 3 11]))))
def f11 : AFunc := { np := 1, nt := 57, res := [.tmp 2], own := false, body := (.seq (.reg false [oP 1 (.box (.t 0)), oP 2 (.mv (.c (.bool false)))]) [1]
 (.seq (.seq (.reg false [oP 3 (.mv (.c (.int .i64 (0))))]) [1, 3]
 (.block 0 (.loop [1, 3] f11l0))) [1]
 (.seq (.reg false [oF 48 0 1, oL 49 48, oP 50 (.pcall (.f 32) [.t 49, .c (.int .i64 (0)), .c (.int .i64 (1000000))]), mV 51 50, oG 52 51 true (.faddr 1 (.t 1)), oG 53 51 true (.load false 1 (.t 52)), oG 54 51 true (.len false (.t 53)), oG 55 51 true (.bin .leq .val (.t 54) (.c (.int .i64 (12)))), oP 56 (.pick (.t 51) (.t 55) (.c (.bool false))), mV 2 56]) [2]
 (.ret)))) }
/- impl.Match -/
def f12l0 : ACode := (.seq (.reg false [oP 27 (.bin .lss .val (.t 26) (.t 25))]) [0, 1, 5, 6, 7, 16, 17, 25, 26, 27]
 (.seq (.cond (.t 27) (.skip) (.exit 2)) [0, 1, 5, 6, 7, 16, 17, 25, 26]
 (.seq (.block 3 (.seq (.reg false [mV 28 26, mV 8 28]) [0, 1, 5, 6, 7, 8, 16, 17, 25, 26]
 (.block 4 (.seq (.reg false [mV 30 0, mV 31 6, oP 32 (.idx (.t 30) (.t 31)), oP 33 (.bin .eql .val (.t 32) (.c (.int .u8 (42)))), mV 29 33]) [0, 1, 5, 6, 7, 8, 16, 17, 25, 26, 29]
 (.cond (.t 29) (.reg false [mV 34 7, mV 35 8, mV 36 5, mV 37 8, oP 38 (.iaddr 1 (.t 36) (.t 37)), oL 39 38, mV 40 39, oG 41 40 false (.mv (.t 8)), oG 42 40 false (.bin .gtr .val (.t 41) (.c (.int .i64 (0)))), oG 43 40 false (.mv (.t 42)), oG 44 43 true (.mv (.t 7)), oG 45 43 true (.mv (.t 8)), oG 46 43 true (.bin .sub .val (.t 45) (.c (.int .i64 (1)))), oG 47 43 true (.iaddr 1 (.t 44) (.t 46)), oG 48 43 true (.load false 1 (.t 47)), oG 49 40 false (.pick (.t 43) (.t 48) (.c (.bool false))), oP 50 (.pick (.t 40) (.c (.bool true)) (.t 49)), oP 51 (.iaddr 1 (.t 34) (.t 35)), oN (.store 1 (.t 51) (.t 50))]) (.seq (.reg true [mV 53 8, oP 54 (.bin .gtr .val (.t 53) (.c (.int .i64 (0)))), mV 55 54, oG 56 55 true (.mv (.t 0)), oG 57 55 true (.mv (.t 6)), oG 58 55 true (.idx (.t 56) (.t 57)), oG 59 55 true (.bin .eql .val (.t 58) (.c (.int .u8 (63)))), oG 60 55 true (.mv (.t 59)), oG 61 60 false (.mv (.t 0)), oG 62 60 false (.mv (.t 6)), oG 63 60 false (.idx (.t 61) (.t 62)), oG 64 60 false (.mv (.t 1)), oG 65 60 false (.mv (.t 8)), oG 66 60 false (.bin .sub .val (.t 65) (.c (.int .i64 (1)))), oG 67 60 false (.idx (.t 64) (.t 66)), oG 68 60 false (.bin .eql .val (.t 63) (.t 67)), oG 69 55 true (.pick (.t 60) (.c (.bool true)) (.t 68)), oP 70 (.pick (.t 55) (.t 69) (.c (.bool false))), mV 52 70]) [0, 1, 5, 6, 7, 8, 16, 17, 25, 26, 52]
 (.cond (.t 52) (.reg false [mV 71 7, mV 72 8, mV 73 5, mV 74 8, oP 75 (.bin .sub .val (.t 74) (.c (.int .i64 (1)))), oP 76 (.iaddr 1 (.t 73) (.t 75)), oL 77 76, oP 78 (.iaddr 1 (.t 71) (.t 72)), oN (.store 1 (.t 78) (.t 77))]) (.skip)))))))) [0, 1, 5, 6, 7, 16, 17, 25, 26]
 (.reg false [oP 79 (.bin .add .val (.t 26) (.c (.int .i64 (1)))), mV 26 79]))))
def f12l1 : ACode := (.seq (.reg false [oP 18 (.bin .lss .val (.t 17) (.t 16))]) [0, 1, 5, 16, 17, 18]
 (.seq (.cond (.t 18) (.skip) (.exit 0)) [0, 1, 5, 16, 17]
 (.seq (.block 1 (.seq (.reg false [mV 19 17, mV 6 19]) [0, 1, 5, 6, 16, 17]
 (.seq (.reg false [mV 20 1, oP 21 (.len true (.t 20)), oP 22 (.bin .add .val (.t 21) (.c (.int .i64 (1)))), oP 23 (.mkslice 1 1 (.d (.bool false)) (.t 22) (.t 22)), mV 7 23]) [0, 1, 5, 6, 7, 16, 17]
 (.seq (.seq (.reg false [mV 24 5, oP 25 (.len false (.t 24)), oP 26 (.mv (.c (.int .i64 (0))))]) [0, 1, 5, 6, 7, 16, 17, 25, 26]
 (.block 2 (.loop [0, 1, 5, 6, 7, 16, 17, 25, 26] f12l0))) [0, 1, 7, 16, 17]
 (.reg false [mV 80 7, mV 5 80]))))) [0, 1, 5, 16, 17]
 (.reg false [oP 81 (.bin .add .val (.t 17) (.c (.int .i64 (1)))), mV 17 81]))))
def f12 : AFunc := { np := 2, nt := 87, res := [.tmp 4], own := false, body := (.seq (.reg false [oP 4 (.mv (.c (.bool false)))]) [0, 1]
 (.seq (.reg false [mV 9 1, oP 10 (.len true (.t 9)), oP 11 (.bin .add .val (.t 10) (.c (.int .i64 (1)))), oP 12 (.mkslice 1 1 (.d (.bool false)) (.t 11) (.t 11)), mV 5 12]) [0, 1, 5]
 (.seq (.reg false [mV 13 5, oP 14 (.iaddr 1 (.t 13) (.c (.int .i64 (0)))), oN (.store 1 (.t 14) (.c (.bool true)))]) [0, 1, 5]
 (.seq (.seq (.reg false [mV 15 0, oP 16 (.len true (.t 15)), oP 17 (.mv (.c (.int .i64 (0))))]) [0, 1, 5, 16, 17]
 (.block 0 (.loop [0, 1, 5, 16, 17] f12l1))) [1, 5]
 (.seq (.reg false [mV 82 5, mV 83 1, oP 84 (.len true (.t 83)), oP 85 (.iaddr 1 (.t 82) (.t 84)), oL 86 85, mV 4 86]) [4]
 (.ret)))))) }
/- spec.DrawBaseTick -/
def f13 : AFunc := { np := 1, nt := 12, res := [.cell 2 true 2, .tmp 3], own := false, body := (.seq (.reg false [oP 2 (.alloc (.agg [.d (.int .i64 (0)), .nils 7])), oP 3 (.mv (.c (.int .i64 (0))))]) [0, 2]
 (.seq (.reg false [mV 5 0, oP 6 (.call (.f 27) [(false, .t 5)] false), mV 4 6]) [2, 4]
 (.seq (.reg false [mV 7 4, oP 8 (.call (.f 28) [(false, .t 7)] false), mV 9 4, oP 10 (.lit false 1 [.c (.int .i64 (0)), .c (.int .i64 (1)), .c (.int .i64 (5)), .c (.int .i64 (100)), .c (.int .i64 (-1)), .c (.int .i64 (1000000))]), oP 11 (.call (.f 33) [(false, .t 9), (false, .t 10)] false), oN (.store 2 (.t 2) (.t 8)), mV 3 11]) [2, 3]
 (.ret)))) }
/- impl.BaseTick -/
def f14l0 : ACode := (.trim [4, 5, 30, 31, 32] (.seq (.reg false [oP 33 (.bin .lss .val (.t 32) (.t 31))]) [4, 5, 30, 31, 32, 33]
 (.seq (.cond (.t 33) (.skip) (.exit 0)) [4, 5, 30, 31, 32]
 (.seq (.block 1 (.seq (.reg false [oP 34 (.iaddr 7 (.t 30) (.t 32)), oP 35 (.load true 7 (.t 34)), oP 7 (.alloc (.agg [.d (.str []), .d (.int .i64 (0)), .d (.int .i64 (0)), .d (.str []), .nils 1, .nils 2, .nils 2])), oN (.store 7 (.t 7) (.t 35))]) [4, 5, 7, 30, 31, 32]
 (.seq (.reg false [oF 36 1 7, oL 37 36, oP 38 (.bin .eql .val (.t 37) (.c (.int .i64 (0)))), mV 39 38, oG 40 39 false (.faddr 1 (.t 7)), oG 41 39 false (.load false 1 (.t 40)), oG 42 39 false (.faddr 0 (.t 5)), oG 43 39 false (.load false 1 (.t 42)), oG 44 39 false (.bin .gtr .val (.t 41) (.t 43)), oP 45 (.pick (.t 39) (.c (.bool true)) (.t 44))]) [4, 5, 7, 30, 31, 32, 45]
 (.cond (.t 45) (.reg true [oF 46 1 5, oL 47 46, oP 48 (.load true 7 (.t 7)), oP 49 (.pcall (.f 35) [.t 48]), oP 50 (.lit false 7 [.t 49]), oP 51 (.append 7 120 (.t 47) (.t 50)), oF 52 1 5, oN (.store 1 (.t 52) (.t 51))]) (.skip))))) [4, 5, 30, 31, 32]
 (.reg false [oP 53 (.bin .add .val (.t 32) (.c (.int .i64 (1)))), mV 32 53])))))
def f14 : AFunc := { np := 2, nt := 55, res := [.cell 4 true 2], own := false, body := (.seq (.reg false [oP 2 (.box (.t 0)), oP 4 (.alloc (.agg [.d (.int .i64 (0)), .nils 7]))]) [1, 2, 4]
 (.seq (.seq (.reg false [oP 8 (.load true 2 (.t 2)), oP 9 (.pcall (.f 18) [.t 8]), oP 10 (.un .not (.t 9))]) [1, 2, 4, 10]
 (.cond (.t 10) (.seq (.reg false [oP 11 (.build [.d (.int .i64 (0)), .nils 7] []), oN (.store 2 (.t 4) (.t 11))]) [4]
 (.ret)) (.skip))) [1, 2, 4]
 (.seq (.seq (.reg false [mV 12 1, oP 13 (.bin .lss .val (.t 12) (.c (.int .i64 (0)))), mV 14 13, oG 15 14 false (.mv (.t 1)), oG 16 14 false (.faddr 0 (.t 2)), oG 17 14 false (.load false 1 (.t 16)), oG 18 14 false (.bin .sub .val (.c (.int .i64 (1000000))) (.t 17)), oG 19 14 false (.bin .gtr .val (.t 15) (.t 18)), oP 20 (.pick (.t 14) (.c (.bool true)) (.t 19))]) [1, 2, 4, 20]
 (.cond (.t 20) (.seq (.reg false [oP 21 (.load true 2 (.t 2)), oP 22 (.pcall (.f 34) [.t 21]), oN (.store 2 (.t 4) (.t 22))]) [4]
 (.ret)) (.skip))) [1, 2, 4]
 (.seq (.reg false [oF 23 0 2, oL 24 23, mV 25 1, oP 26 (.bin .add .val (.t 24) (.t 25)), oP 27 (.lit true 7 []), oP 28 (.build [.d (.int .i64 (0)), .nils 7] [(0, 1, .t 26), (1, 1, .t 27)]), oP 5 (.alloc (.agg [.d (.int .i64 (0)), .nils 7])), oN (.store 2 (.t 5) (.t 28))]) [2, 4, 5]
 (.seq (.seq (.reg false [oF 29 1 2, oL 30 29, oP 31 (.len false (.t 30)), oP 32 (.mv (.c (.int .i64 (0))))]) [4, 5, 30, 31, 32]
 (.block 0 (.loop [4, 5, 30, 31, 32] f14l0))) [4, 5]
 (.seq (.reg false [oP 54 (.load true 2 (.t 5)), oN (.store 2 (.t 4) (.t 54))]) [4]
 (.ret))))))) }
/- laws.qxBase -/
def f15l0 : ACode := (.seq (.seq (.reg false [mV 20 5, oF 21 1 2, oL 22 21, oP 23 (.len false (.t 22)), oP 24 (.bin .lss .val (.t 20) (.t 23))]) [2, 3, 5, 24]
 (.cond (.t 24) (.skip) (.exit 0))) [2, 3, 5]
 (.seq (.block 1 (.seq (.reg true [oF 27 1 2, oL 28 27, mV 29 5, oP 30 (.iaddr 7 (.t 28) (.t 29)), oP 31 (.load true 7 (.t 30)), oF 32 1 3, oL 33 32, mV 34 5, oP 35 (.iaddr 7 (.t 33) (.t 34)), oP 36 (.load true 7 (.t 35)), oP 37 (.pcall (.f 17) [.t 31, .t 36]), oP 38 (.un .not (.t 37))]) [2, 3, 5, 38]
 (.cond (.t 38) (.seq (.reg false [oP 4 (.mv (.c (.bool false)))]) [4]
 (.ret)) (.skip)))) [2, 3, 5]
 (.reg false [mV 25 5, oP 26 (.bin .add .val (.t 25) (.c (.int .i64 (1)))), mV 5 26])))
def f15 : AFunc := { np := 2, nt := 39, res := [.tmp 4], own := false, body := (.seq (.reg false [oP 2 (.box (.t 0)), oP 3 (.box (.t 1)), oP 4 (.mv (.c (.bool false)))]) [2, 3]
 (.seq (.seq (.reg false [oF 6 0 2, oL 7 6, oF 8 0 3, oL 9 8, oP 10 (.bin .neq .val (.t 7) (.t 9)), mV 11 10, oG 12 11 false (.faddr 1 (.t 2)), oG 13 11 false (.load false 1 (.t 12)), oG 14 11 false (.len false (.t 13)), oG 15 11 false (.faddr 1 (.t 3)), oG 16 11 false (.load false 1 (.t 15)), oG 17 11 false (.len false (.t 16)), oG 18 11 false (.bin .neq .val (.t 14) (.t 17)), oP 19 (.pick (.t 11) (.c (.bool true)) (.t 18))]) [2, 3, 19]
 (.cond (.t 19) (.seq (.reg false [oP 4 (.mv (.c (.bool false)))]) [4]
 (.ret)) (.skip))) [2, 3]
 (.seq (.seq (.reg false [oP 5 (.mv (.c (.int .i64 (0))))]) [2, 3, 5]
 (.block 0 (.loop [2, 3, 5] f15l0))) []
 (.seq (.reg false [oP 4 (.mv (.c (.bool true)))]) [4]
 (.ret))))) }
/- spec.BaseTick -/
def f16 : AFunc := { np := 2, nt := 22, res := [.cell 4 true 2], own := false, body := (.seq (.reg false [oP 2 (.box (.t 0)), oP 4 (.alloc (.agg [.d (.int .i64 (0)), .nils 7]))]) [1, 2, 4]
 (.seq (.block 0 (.seq (.reg false [oP 6 (.load true 2 (.t 2)), oP 7 (.pcall (.f 11) [.t 6]), oP 8 (.un .not (.t 7)), mV 5 8]) [1, 2, 4, 5]
 (.cond (.t 5) (.seq (.reg false [oP 9 (.build [.d (.int .i64 (0)), .nils 7] []), oN (.store 2 (.t 4) (.t 9))]) [4]
 (.ret)) (.seq (.reg false [mV 11 1, oF 12 0 2, oL 13 12, oP 14 (.bin .sub .val (.c (.int .i64 (1000000))) (.t 13)), oP 15 (.pcall (.f 32) [.t 11, .c (.int .i64 (0)), .t 14]), oP 16 (.un .not (.t 15)), mV 10 16]) [1, 2, 4, 10]
 (.cond (.t 10) (.seq (.reg false [oP 17 (.load true 2 (.t 2)), oP 18 (.call (.f 36) [(false, .t 17)] true), oN (.store 2 (.t 4) (.t 18))]) [4]
 (.ret)) (.skip)))))) [1, 2, 4]
 (.seq (.reg false [oP 19 (.load true 2 (.t 2)), mV 20 1, oP 21 (.pcall (.f 37) [.t 19, .t 20]), oN (.store 2 (.t 4) (.t 21))]) [4]
 (.ret)))) }
/- laws.qxEntry -/
def f17 : AFunc := { np := 2, nt := 52, res := [.tmp 4], own := false, body := (.seq (.reg false [oP 2 (.box (.t 0)), oP 3 (.box (.t 1)), oP 4 (.mv (.c (.bool false)))]) [2, 3]
 (.seq (.reg false [oF 5 0 2, oL 6 5, oF 7 0 3, oL 8 7, oP 9 (.bin .eql .val (.t 6) (.t 8)), mV 10 9, oG 11 10 true (.faddr 1 (.t 2)), oG 12 10 true (.load false 1 (.t 11)), oG 13 10 true (.faddr 1 (.t 3)), oG 14 10 true (.load false 1 (.t 13)), oG 15 10 true (.bin .eql .val (.t 12) (.t 14)), oP 16 (.pick (.t 10) (.t 15) (.c (.bool false))), mV 17 16, oG 18 17 true (.faddr 2 (.t 2)), oG 19 17 true (.load false 1 (.t 18)), oG 20 17 true (.faddr 2 (.t 3)), oG 21 17 true (.load false 1 (.t 20)), oG 22 17 true (.bin .eql .val (.t 19) (.t 21)), oP 23 (.pick (.t 17) (.t 22) (.c (.bool false))), mV 24 23, oG 25 24 true (.faddr 3 (.t 2)), oG 26 24 true (.load false 1 (.t 25)), oG 27 24 true (.faddr 3 (.t 3)), oG 28 24 true (.load false 1 (.t 27)), oG 29 24 true (.bin .eql .val (.t 26) (.t 28)), oP 30 (.pick (.t 24) (.t 29) (.c (.bool false))), mV 31 30, oG 32 31 true (.faddr 4 (.t 2)), oG 33 31 true (.load false 1 (.t 32)), oG 34 31 true (.faddr 4 (.t 3)), oG 35 31 true (.load false 1 (.t 34)), oG 36 31 true (.pcall (.f 9) [.t 33, .t 35]), oP 37 (.pick (.t 31) (.t 36) (.c (.bool false))), mV 38 37, oG 39 38 true (.faddr 5 (.t 2)), oG 40 38 true (.load false 1 (.t 39)), oG 41 38 true (.faddr 5 (.t 3)), oG 42 38 true (.load false 1 (.t 41)), oG 43 38 true (.pcall (.f 38) [.t 40, .t 42]), oP 44 (.pick (.t 38) (.t 43) (.c (.bool false))), mV 45 44, oG 46 45 true (.faddr 6 (.t 2)), oG 47 45 true (.load false 1 (.t 46)), oG 48 45 true (.faddr 6 (.t 3)), oG 49 45 true (.load false 1 (.t 48)), oG 50 45 true (.pcall (.f 39) [.t 47, .t 49]), oP 51 (.pick (.t 45) (.t 50) (.c (.bool false))), mV 4 51]) [4]
 (.ret))) }
/- impl.BaseOk -/
def f18l0 : ACode := (.trim [1, 16, 17, 18] (.seq (.reg false [oP 19 (.bin .lss .val (.t 18) (.t 17))]) [1, 16, 17, 18, 19]
 (.seq (.cond (.t 19) (.skip) (.exit 0)) [1, 16, 17, 18]
 (.seq (.block 1 (.seq (.reg false [mV 20 18, oP 21 (.iaddr 7 (.t 16) (.t 18)), oP 22 (.load true 7 (.t 21)), oP 4 (.alloc (.agg [.d (.str []), .d (.int .i64 (0)), .d (.int .i64 (0)), .d (.str []), .nils 1, .nils 2, .nils 2])), mV 3 20, oN (.store 7 (.t 4) (.t 22))]) [1, 3, 4, 16, 17, 18]
 (.seq (.reg true [oP 23 (.load true 7 (.t 4)), oP 24 (.pcall (.f 41) [.t 23]), oP 25 (.un .not (.t 24)), mV 26 25, oG 27 26 false (.mv (.t 3)), oG 28 26 false (.bin .gtr .val (.t 27) (.c (.int .i64 (0)))), oG 29 26 false (.mv (.t 28)), oG 30 29 true (.faddr 1 (.t 1)), oG 31 29 true (.load false 1 (.t 30)), oG 32 29 true (.mv (.t 3)), oG 33 29 true (.bin .sub .val (.t 32) (.c (.int .i64 (1)))), oG 34 29 true (.iaddr 7 (.t 31) (.t 33)), oG 35 29 true (.faddr 0 (.t 34)), oG 36 29 true (.load false 1 (.t 35)), oG 37 29 true (.faddr 0 (.t 4)), oG 38 29 true (.load false 1 (.t 37)), oG 39 29 true (.bin .geq .val (.t 36) (.t 38)), oG 40 26 false (.pick (.t 29) (.t 39) (.c (.bool false))), oP 41 (.pick (.t 26) (.c (.bool true)) (.t 40)), mV 42 41, oG 43 42 false (.faddr 1 (.t 4)), oG 44 42 false (.load false 1 (.t 43)), oG 45 42 false (.bin .neq .val (.t 44) (.c (.int .i64 (0)))), oG 46 42 false (.mv (.t 45)), oG 47 46 true (.faddr 1 (.t 4)), oG 48 46 true (.load false 1 (.t 47)), oG 49 46 true (.faddr 0 (.t 1)), oG 50 46 true (.load false 1 (.t 49)), oG 51 46 true (.bin .leq .val (.t 48) (.t 50)), oG 52 42 false (.pick (.t 46) (.t 51) (.c (.bool false))), oP 53 (.pick (.t 42) (.c (.bool true)) (.t 52))]) [1, 16, 17, 18, 53]
 (.cond (.t 53) (.seq (.reg false [oP 2 (.mv (.c (.bool false)))]) [2]
 (.ret)) (.skip))))) [1, 16, 17, 18]
 (.reg false [oP 54 (.bin .add .val (.t 18) (.c (.int .i64 (1)))), mV 18 54])))))
def f18 : AFunc := { np := 1, nt := 55, res := [.tmp 2], own := false, body := (.seq (.reg false [oP 1 (.box (.t 0)), oP 2 (.mv (.c (.bool false)))]) [1]
 (.seq (.seq (.reg false [oF 5 0 1, oL 6 5, oP 7 (.pcall (.f 40) [.t 6, .c (.int .i64 (0)), .c (.int .i64 (1000000))]), oP 8 (.un .not (.t 7)), mV 9 8, oG 10 9 false (.faddr 1 (.t 1)), oG 11 9 false (.load false 1 (.t 10)), oG 12 9 false (.len false (.t 11)), oG 13 9 false (.bin .gtr .val (.t 12) (.c (.int .i64 (12)))), oP 14 (.pick (.t 9) (.c (.bool true)) (.t 13))]) [1, 14]
 (.cond (.t 14) (.seq (.reg false [oP 2 (.mv (.c (.bool false)))]) [2]
 (.ret)) (.skip))) [1]
 (.seq (.seq (.reg false [oF 15 1 1, oL 16 15, oP 17 (.len false (.t 16)), oP 18 (.mv (.c (.int .i64 (0))))]) [1, 16, 17, 18]
 (.block 0 (.loop [1, 16, 17, 18] f18l0))) []
 (.seq (.reg false [oP 2 (.mv (.c (.bool true)))]) [2]
 (.ret))))) }
/- spec.l1Open -/
def f27 : AFunc := { np := 1, nt := 11, res := [.tmp 2], own := true, body := (.seq (.reg false [oP 2 (.mv (.c .nilp))]) [0]
 (.seq (.seq (.reg false [mV 3 0, oP 4 (.len false (.t 3)), oP 5 (.bin .gtr .val (.t 4) (.c (.int .i64 (2000))))]) [0, 5]
 (.cond (.t 5) (.reg false [mV 6 0, oP 7 (.slice (some 1) (.t 6) none (some (.c (.int .i64 (2000))))), mV 0 7]) (.skip))) [0]
 (.seq (.reg false [mV 8 0, oP 9 (.build [.nils 1, .d (.int .i64 (0))] [(0, 1, .t 8)]), oP 10 (.box (.t 9)), mV 2 10]) [2]
 (.ret)))) }
/- spec.l11AnyBase -/
def f28 : AFunc := { np := 1, nt := 44, res := [.cell 2 true 2], own := false, body := (.seq (.reg false [oP 2 (.alloc (.agg [.d (.int .i64 (0)), .nils 7]))]) [0, 2]
 (.seq (.reg false [mV 4 0, oP 5 (.call (.f 53) [(false, .t 4)] false), oP 6 (.call (.f 36) [(false, .t 5)] false), oP 3 (.alloc (.agg [.d (.int .i64 (0)), .nils 7])), oN (.store 2 (.t 3) (.t 6))]) [0, 2, 3]
 (.seq (.seq (.reg false [mV 7 0, oP 8 (.call (.f 54) [(false, .t 7), (false, .c (.int .i64 (16)))] false)]) [0, 2, 3, 8]
 (.block 0 (.seq (.reg false [oP 10 (.bin .eql .val (.t 8) (.c (.int .i64 (0)))), mV 9 10]) [0, 2, 3, 8, 9]
 (.cond (.t 9) (.reg false [mV 11 0, oP 12 (.lit false 1 [.c (.int .i64 (-1)), .c (.int .i64 (1000001)), .c (.int .i64 (50))]), oP 13 (.call (.f 33) [(false, .t 11), (false, .t 12)] false), oF 14 0 3, oN (.store 1 (.t 14) (.t 13))]) (.seq (.reg false [oP 16 (.bin .eql .val (.t 8) (.c (.int .i64 (1)))), mV 15 16]) [0, 2, 3, 8, 15]
 (.cond (.t 15) (.seq (.reg false [oF 17 1 3, oL 18 17, oP 19 (.len false (.t 18)), oP 20 (.bin .gtr .val (.t 19) (.c (.int .i64 (0))))]) [0, 2, 3, 20]
 (.cond (.t 20) (.regx [(true, oF 21 1 3), (true, oL 22 21), (true, mV 23 0), (true, oF 24 1 3), (true, oL 25 24), (true, oP 26 (.len false (.t 25))), (true, mV 28 0), (true, oP 27 (.call (.f 54) [(false, .t 23), (false, .t 26)] false)), (false, oL 22 21), (true, oP 29 (.call (.f 54) [(false, .t 28), (false, .c (.int .i64 (7)))] false)), (false, oL 22 21), (true, oP 30 (.iaddr 7 (.t 22) (.t 27))), (true, oF 31 2 30), (true, oN (.store 1 (.t 31) (.t 29)))]) (.skip))) (.seq (.reg false [oP 33 (.bin .eql .val (.t 8) (.c (.int .i64 (2)))), mV 32 33]) [0, 2, 3, 32]
 (.cond (.t 32) (.regx [(true, oF 34 1 3), (true, oL 35 34), (true, mV 36 0), (true, oP 37 (.lit false 1 [.c (.str []), .c (.str [122, 122]), .c (.str [97])])), (true, oP 38 (.call (.f 29) [(false, .t 36), (false, .t 37)] false)), (false, oL 35 34), (true, oP 39 (.build [.d (.str []), .d (.int .i64 (0)), .d (.int .i64 (0)), .d (.str []), .nils 1, .nils 2, .nils 2] [(0, 1, .t 38), (2, 1, .c (.int .i64 (1)))])), (true, oP 40 (.lit false 7 [.t 39])), (true, oP 41 (.append 7 120 (.t 35) (.t 40))), (true, oF 42 1 3), (true, oN (.store 1 (.t 42) (.t 41)))]) (.skip))))))))) [2, 3]
 (.seq (.reg false [oP 43 (.load true 2 (.t 3)), oN (.store 2 (.t 2) (.t 43))]) [2]
 (.ret))))) }
/- spec.l1Rd).of -/
def f29 : AFunc := { np := 2, nt := 12, res := [.tmp 4], own := false, body := (.seq (.reg false [oP 4 (.mv (.c (.str [])))]) [0, 1]
 (.seq (.reg false [mV 5 1, mV 6 0, mV 7 1, oP 8 (.len false (.t 7)), oP 9 (.call (.f 54) [(false, .t 6), (false, .t 8)] false), oP 10 (.iaddr 1 (.t 5) (.t 9)), oL 11 10, mV 4 11]) [4]
 (.ret))) }
/- spec.Match -/
def f30 : AFunc := { np := 2, nt := 47, res := [.tmp 4], own := false, body := (.seq (.reg false [oP 4 (.mv (.c (.bool false)))]) [0, 1]
 (.seq (.seq (.reg false [mV 5 0, oP 6 (.bin .eql .val (.t 5) (.c (.str [])))]) [0, 1, 6]
 (.cond (.t 6) (.seq (.reg false [mV 7 1, oP 8 (.bin .eql .val (.t 7) (.c (.str []))), mV 4 8]) [4]
 (.ret)) (.skip))) [0, 1]
 (.seq (.seq (.reg false [mV 9 0, oP 10 (.idx (.t 9) (.c (.int .i64 (0)))), oP 11 (.bin .eql .val (.t 10) (.c (.int .u8 (42))))]) [0, 1, 11]
 (.cond (.t 11) (.seq (.reg false [mV 12 0, oP 13 (.slice none (.t 12) (some (.c (.int .i64 (1)))) none), mV 14 1, oP 15 (.pcall (.f 30) [.t 13, .t 14]), mV 16 15, oG 17 16 false (.mv (.t 1)), oG 18 16 false (.bin .neq .val (.t 17) (.c (.str []))), oG 19 16 false (.mv (.t 18)), oG 20 19 true (.mv (.t 0)), oG 21 19 true (.mv (.t 1)), oG 22 19 true (.slice none (.t 21) (some (.c (.int .i64 (1)))) none), oG 23 19 true (.pcall (.f 30) [.t 20, .t 22]), oG 24 16 false (.pick (.t 19) (.t 23) (.c (.bool false))), oP 25 (.pick (.t 16) (.c (.bool true)) (.t 24)), mV 4 25]) [4]
 (.ret)) (.skip))) [0, 1]
 (.seq (.reg true [mV 26 1, oP 27 (.bin .neq .val (.t 26) (.c (.str []))), mV 28 27, oG 29 28 true (.mv (.t 0)), oG 30 28 true (.idx (.t 29) (.c (.int .i64 (0)))), oG 31 28 true (.bin .eql .val (.t 30) (.c (.int .u8 (63)))), oG 32 28 true (.mv (.t 31)), oG 33 32 false (.mv (.t 0)), oG 34 32 false (.idx (.t 33) (.c (.int .i64 (0)))), oG 35 32 false (.mv (.t 1)), oG 36 32 false (.idx (.t 35) (.c (.int .i64 (0)))), oG 37 32 false (.bin .eql .val (.t 34) (.t 36)), oG 38 28 true (.pick (.t 32) (.c (.bool true)) (.t 37)), oP 39 (.pick (.t 28) (.t 38) (.c (.bool false))), mV 40 39, oG 41 40 true (.mv (.t 0)), oG 42 40 true (.slice none (.t 41) (some (.c (.int .i64 (1)))) none), oG 43 40 true (.mv (.t 1)), oG 44 40 true (.slice none (.t 43) (some (.c (.int .i64 (1)))) none), oG 45 40 true (.pcall (.f 30) [.t 42, .t 44]), oP 46 (.pick (.t 40) (.t 45) (.c (.bool false))), mV 4 46]) [4]
 (.ret))))) }
/- spec.EntryOk -/
def f31 : AFunc := { np := 1, nt := 121, res := [.tmp 2], own := false, body := (.seq (.reg false [oP 1 (.box (.t 0)), oP 2 (.mv (.c (.bool false)))]) [1]
 (.seq (.seq (.reg false [oF 7 0 1, oL 8 7, oP 9 (.pcall (.f 55) [.t 8]), oP 10 (.un .not (.t 9)), mV 11 10, oG 12 11 false (.faddr 1 (.t 1)), oG 13 11 false (.load false 1 (.t 12)), oG 14 11 false (.pcall (.f 32) [.t 13, .c (.int .i64 (0)), .c (.int .i64 (2000000))]), oG 15 11 false (.un .not (.t 14)), oP 16 (.pick (.t 11) (.c (.bool true)) (.t 15))]) [1, 16]
 (.cond (.t 16) (.seq (.reg false [oP 2 (.mv (.c (.bool false)))]) [2]
 (.ret)) (.skip))) [1]
 (.seq (.reg false [oF 17 3 1, oL 18 17, oP 19 (.bin .eql .val (.t 18) (.c (.str []))), mV 3 19]) [1, 3]
 (.seq (.reg false [oF 20 4 1, oL 21 20, oP 22 (.len false (.t 21)), oP 23 (.bin .eql .val (.t 22) (.c (.int .i64 (0)))), mV 4 23]) [1, 3, 4]
 (.seq (.reg false [oF 24 5 1, oL 25 24, oP 26 (.len false (.t 25)), oP 27 (.bin .eql .val (.t 26) (.c (.int .i64 (0)))), mV 5 27]) [1, 3, 4, 5]
 (.seq (.reg false [oF 28 6 1, oL 29 28, oP 30 (.len false (.t 29)), oP 31 (.bin .eql .val (.t 30) (.c (.int .i64 (0)))), mV 6 31]) [1, 3, 4, 5, 6]
 (.seq (.seq (.reg false [oF 32 2 1, oL 33 32]) [1, 3, 4, 5, 6, 33]
 (.block 0 (.seq (.reg false [oP 35 (.bin .eql .val (.t 33) (.c (.int .i64 (1)))), mV 34 35]) [1, 3, 4, 5, 6, 33, 34]
 (.cond (.t 34) (.seq (.reg false [oF 36 3 1, oL 37 36, oP 38 (.len true (.t 37)), oP 39 (.bin .leq .val (.t 38) (.c (.int .i64 (40)))), mV 40 39, oG 41 40 true (.mv (.t 4)), oP 42 (.pick (.t 40) (.t 41) (.c (.bool false))), mV 43 42, oG 44 43 true (.mv (.t 5)), oP 45 (.pick (.t 43) (.t 44) (.c (.bool false))), mV 46 45, oG 47 46 true (.mv (.t 6)), oP 48 (.pick (.t 46) (.t 47) (.c (.bool false))), mV 2 48]) [2]
 (.ret)) (.seq (.reg false [oP 50 (.bin .eql .val (.t 33) (.c (.int .i64 (2)))), mV 49 50]) [1, 3, 4, 5, 6, 33, 49]
 (.cond (.t 49) (.seq (.reg false [mV 51 3, mV 52 51, oG 53 52 true (.mv (.t 4)), oG 54 52 true (.un .not (.t 53)), oP 55 (.pick (.t 52) (.t 54) (.c (.bool false))), mV 56 55, oG 57 56 true (.faddr 4 (.t 1)), oG 58 56 true (.load false 1 (.t 57)), oG 59 56 true (.pcall (.f 56) [.t 58]), oP 60 (.pick (.t 56) (.t 59) (.c (.bool false))), mV 61 60, oG 62 61 true (.mv (.t 5)), oP 63 (.pick (.t 61) (.t 62) (.c (.bool false))), mV 64 63, oG 65 64 true (.mv (.t 6)), oP 66 (.pick (.t 64) (.t 65) (.c (.bool false))), mV 2 66]) [2]
 (.ret)) (.seq (.reg false [oP 68 (.bin .eql .val (.t 33) (.c (.int .i64 (3)))), mV 67 68]) [1, 3, 4, 5, 6, 33, 67]
 (.cond (.t 67) (.seq (.reg false [mV 69 3, mV 70 69, oG 71 70 true (.mv (.t 4)), oG 72 70 true (.un .not (.t 71)), oP 73 (.pick (.t 70) (.t 72) (.c (.bool false))), mV 74 73, oG 75 74 true (.faddr 4 (.t 1)), oG 76 74 true (.load false 1 (.t 75)), oG 77 74 true (.pcall (.f 57) [.t 76]), oP 78 (.pick (.t 74) (.t 77) (.c (.bool false))), mV 79 78, oG 80 79 true (.mv (.t 5)), oP 81 (.pick (.t 79) (.t 80) (.c (.bool false))), mV 82 81, oG 83 82 true (.mv (.t 6)), oP 84 (.pick (.t 82) (.t 83) (.c (.bool false))), mV 2 84]) [2]
 (.ret)) (.seq (.reg false [oP 86 (.bin .eql .val (.t 33) (.c (.int .i64 (4)))), mV 85 86]) [1, 3, 4, 5, 6, 33, 85]
 (.cond (.t 85) (.seq (.reg false [mV 87 3, mV 88 87, oG 89 88 true (.mv (.t 4)), oP 90 (.pick (.t 88) (.t 89) (.c (.bool false))), mV 91 90, oG 92 91 true (.mv (.t 5)), oG 93 91 true (.un .not (.t 92)), oP 94 (.pick (.t 91) (.t 93) (.c (.bool false))), mV 95 94, oG 96 95 true (.faddr 5 (.t 1)), oG 97 95 true (.load false 1 (.t 96)), oG 98 95 true (.pcall (.f 58) [.t 97]), oP 99 (.pick (.t 95) (.t 98) (.c (.bool false))), mV 100 99, oG 101 100 true (.mv (.t 6)), oP 102 (.pick (.t 100) (.t 101) (.c (.bool false))), mV 2 102]) [2]
 (.ret)) (.seq (.reg false [oP 104 (.bin .eql .val (.t 33) (.c (.int .i64 (5)))), mV 103 104]) [1, 3, 4, 5, 6, 103]
 (.cond (.t 103) (.seq (.reg false [mV 105 3, mV 106 105, oG 107 106 true (.mv (.t 4)), oP 108 (.pick (.t 106) (.t 107) (.c (.bool false))), mV 109 108, oG 110 109 true (.mv (.t 5)), oP 111 (.pick (.t 109) (.t 110) (.c (.bool false))), mV 112 111, oG 113 112 true (.mv (.t 6)), oG 114 112 true (.un .not (.t 113)), oP 115 (.pick (.t 112) (.t 114) (.c (.bool false))), mV 116 115, oG 117 116 true (.faddr 6 (.t 1)), oG 118 116 true (.load false 1 (.t 117)), oG 119 116 true (.pcall (.f 59) [.t 118]), oP 120 (.pick (.t 116) (.t 119) (.c (.bool false))), mV 2 120]) [2]
 (.ret)) (.skip))))))))))))) []
 (.seq (.reg false [oP 2 (.mv (.c (.bool false)))]) [2]
 (.ret))))))))) }
/- spec.l1In -/
def f32 : AFunc := { np := 3, nt := 15, res := [.tmp 6], own := false, body := (.seq (.reg false [oP 6 (.mv (.c (.bool false)))]) [0, 1, 2]
 (.seq (.reg false [mV 7 0, mV 8 1, oP 9 (.bin .geq .val (.t 7) (.t 8)), mV 10 9, oG 11 10 true (.mv (.t 0)), oG 12 10 true (.mv (.t 2)), oG 13 10 true (.bin .leq .val (.t 11) (.t 12)), oP 14 (.pick (.t 10) (.t 13) (.c (.bool false))), mV 6 14]) [6]
 (.ret))) }
/- spec.l1Rd).one -/
def f33 : AFunc := { np := 2, nt := 12, res := [.tmp 4], own := false, body := (.seq (.reg false [oP 4 (.mv (.c (.int .i64 (0))))]) [0, 1]
 (.seq (.reg false [mV 5 1, mV 6 0, mV 7 1, oP 8 (.len false (.t 7)), oP 9 (.call (.f 54) [(false, .t 6), (false, .t 8)] false), oP 10 (.iaddr 1 (.t 5) (.t 9)), oL 11 10, mV 4 11]) [4]
 (.ret))) }
/- impl.cloneBase -/
def f34l0 : ACode := (.trim [2, 3, 11, 12, 13] (.seq (.reg false [oP 14 (.bin .lss .val (.t 13) (.t 12))]) [2, 3, 11, 12, 13, 14]
 (.seq (.cond (.t 14) (.skip) (.exit 0)) [2, 3, 11, 12, 13]
 (.seq (.block 1 (.seq (.reg false [oP 15 (.iaddr 7 (.t 11) (.t 13)), oP 16 (.load true 7 (.t 15)), oP 5 (.alloc (.agg [.d (.str []), .d (.int .i64 (0)), .d (.int .i64 (0)), .d (.str []), .nils 1, .nils 2, .nils 2])), oN (.store 7 (.t 5) (.t 16))]) [2, 3, 5, 11, 12, 13]
 (.reg true [oF 17 1 3, oL 18 17, oP 19 (.load true 7 (.t 5)), oP 20 (.pcall (.f 35) [.t 19]), oP 21 (.lit false 7 [.t 20]), oP 22 (.append 7 120 (.t 18) (.t 21)), oF 23 1 3, oN (.store 1 (.t 23) (.t 22))]))) [2, 3, 11, 12, 13]
 (.reg false [oP 24 (.bin .add .val (.t 13) (.c (.int .i64 (1)))), mV 13 24])))))
def f34 : AFunc := { np := 1, nt := 26, res := [.cell 2 true 2], own := true, body := (.seq (.reg false [oP 1 (.box (.t 0)), oP 2 (.alloc (.agg [.d (.int .i64 (0)), .nils 7]))]) [1, 2]
 (.seq (.reg false [oF 6 0 1, oL 7 6, oP 8 (.lit true 7 []), oP 9 (.build [.d (.int .i64 (0)), .nils 7] [(0, 1, .t 7), (1, 1, .t 8)]), oP 3 (.alloc (.agg [.d (.int .i64 (0)), .nils 7])), oN (.store 2 (.t 3) (.t 9))]) [1, 2, 3]
 (.seq (.seq (.reg false [oF 10 1 1, oL 11 10, oP 12 (.len false (.t 11)), oP 13 (.mv (.c (.int .i64 (0))))]) [2, 3, 11, 12, 13]
 (.block 0 (.loop [2, 3, 11, 12, 13] f34l0))) [2, 3]
 (.seq (.reg false [oP 25 (.load true 2 (.t 3)), oN (.store 2 (.t 2) (.t 25))]) [2]
 (.ret))))) }
/- impl.cloneEntry -/
def f35 : AFunc := { np := 1, nt := 16, res := [.cell 2 true 7], own := false, body := (.seq (.reg false [oP 1 (.box (.t 0)), oP 2 (.alloc (.agg [.d (.str []), .d (.int .i64 (0)), .d (.int .i64 (0)), .d (.str []), .nils 1, .nils 2, .nils 2]))]) [1, 2]
 (.seq (.reg false [oF 3 4 1, oL 4 3, oP 5 (.pcall (.f 60) [.t 4]), oF 6 4 1, oN (.store 1 (.t 6) (.t 5))]) [1, 2]
 (.seq (.reg false [oF 7 5 1, oL 8 7, oP 9 (.pcall (.f 61) [.t 8]), oF 10 5 1, oN (.store 1 (.t 10) (.t 9))]) [1, 2]
 (.seq (.reg false [oF 11 6 1, oL 12 11, oP 13 (.pcall (.f 62) [.t 12]), oF 14 6 1, oN (.store 1 (.t 14) (.t 13))]) [1, 2]
 (.seq (.reg false [oP 15 (.load true 7 (.t 1)), oN (.store 7 (.t 2) (.t 15))]) [2]
 (.ret)))))) }
/- spec.l4Copy -/
def f36l0 : ACode := (.seq (.seq (.reg false [mV 8 4, oF 9 1 1, oL 10 9, oP 11 (.len false (.t 10)), oP 12 (.bin .lss .val (.t 8) (.t 11))]) [1, 2, 3, 4, 12]
 (.cond (.t 12) (.skip) (.exit 0))) [1, 2, 3, 4]
 (.seq (.block 1 (.reg true [oF 15 1 3, oL 16 15, oF 17 1 1, oL 18 17, mV 19 4, oP 20 (.iaddr 7 (.t 18) (.t 19)), oP 21 (.load true 7 (.t 20)), oP 22 (.pcall (.f 63) [.t 21]), oP 23 (.lit false 7 [.t 22]), oP 24 (.append 7 120 (.t 16) (.t 23)), oF 25 1 3, oN (.store 1 (.t 25) (.t 24))])) [1, 2, 3, 4]
 (.reg false [mV 13 4, oP 14 (.bin .add .val (.t 13) (.c (.int .i64 (1)))), mV 4 14])))
def f36 : AFunc := { np := 1, nt := 27, res := [.cell 2 true 2], own := true, body := (.seq (.reg false [oP 1 (.box (.t 0)), oP 2 (.alloc (.agg [.d (.int .i64 (0)), .nils 7]))]) [1, 2]
 (.seq (.reg false [oF 5 0 1, oL 6 5, oP 7 (.build [.d (.int .i64 (0)), .nils 7] [(0, 1, .t 6)]), oP 3 (.alloc (.agg [.d (.int .i64 (0)), .nils 7])), oN (.store 2 (.t 3) (.t 7))]) [1, 2, 3]
 (.seq (.seq (.reg false [oP 4 (.mv (.c (.int .i64 (0))))]) [1, 2, 3, 4]
 (.block 0 (.loop [1, 2, 3, 4] f36l0))) [2, 3]
 (.seq (.reg false [oP 26 (.load true 2 (.t 3)), oN (.store 2 (.t 2) (.t 26))]) [2]
 (.ret))))) }
/- spec.l4Tick -/
def f37l0 : ACode := (.seq (.seq (.reg false [mV 12 6, oF 13 1 2, oL 14 13, oP 15 (.len false (.t 14)), oP 16 (.bin .lss .val (.t 12) (.t 15))]) [2, 4, 5, 6, 16]
 (.cond (.t 16) (.skip) (.exit 0))) [2, 4, 5, 6]
 (.seq (.block 1 (.seq (.reg true [oF 19 1 2, oL 20 19, mV 21 6, oP 22 (.iaddr 7 (.t 20) (.t 21)), oF 23 1 22, oL 24 23, oP 25 (.bin .eql .val (.t 24) (.c (.int .i64 (0)))), mV 26 25, oG 27 26 false (.faddr 1 (.t 2)), oG 28 26 false (.load false 1 (.t 27)), oG 29 26 false (.mv (.t 6)), oG 30 26 false (.iaddr 7 (.t 28) (.t 29)), oG 31 26 false (.faddr 1 (.t 30)), oG 32 26 false (.load false 1 (.t 31)), oG 33 26 false (.faddr 0 (.t 5)), oG 34 26 false (.load false 1 (.t 33)), oG 35 26 false (.bin .gtr .val (.t 32) (.t 34)), oP 36 (.pick (.t 26) (.c (.bool true)) (.t 35))]) [2, 4, 5, 6, 36]
 (.cond (.t 36) (.reg true [oF 37 1 5, oL 38 37, oF 39 1 2, oL 40 39, mV 41 6, oP 42 (.iaddr 7 (.t 40) (.t 41)), oP 43 (.load true 7 (.t 42)), oP 44 (.pcall (.f 63) [.t 43]), oP 45 (.lit false 7 [.t 44]), oP 46 (.append 7 120 (.t 38) (.t 45)), oF 47 1 5, oN (.store 1 (.t 47) (.t 46))]) (.skip)))) [2, 4, 5, 6]
 (.reg false [mV 17 6, oP 18 (.bin .add .val (.t 17) (.c (.int .i64 (1)))), mV 6 18])))
def f37 : AFunc := { np := 2, nt := 49, res := [.cell 4 true 2], own := false, body := (.seq (.reg false [oP 2 (.box (.t 0)), oP 4 (.alloc (.agg [.d (.int .i64 (0)), .nils 7]))]) [1, 2, 4]
 (.seq (.reg false [oF 7 0 2, oL 8 7, mV 9 1, oP 10 (.bin .add .val (.t 8) (.t 9)), oP 11 (.build [.d (.int .i64 (0)), .nils 7] [(0, 1, .t 10)]), oP 5 (.alloc (.agg [.d (.int .i64 (0)), .nils 7])), oN (.store 2 (.t 5) (.t 11))]) [2, 4, 5]
 (.seq (.seq (.reg false [oP 6 (.mv (.c (.int .i64 (0))))]) [2, 4, 5, 6]
 (.block 0 (.loop [2, 4, 5, 6] f37l0))) [4, 5]
 (.seq (.reg false [oP 48 (.load true 2 (.t 5)), oN (.store 2 (.t 4) (.t 48))]) [4]
 (.ret))))) }
/- laws.qxScores -/
def f38l0 : ACode := (.seq (.seq (.reg false [mV 11 5, mV 12 0, oP 13 (.len false (.t 12)), oP 14 (.bin .lss .val (.t 11) (.t 13))]) [0, 1, 5, 14]
 (.cond (.t 14) (.skip) (.exit 0))) [0, 1, 5]
 (.seq (.block 1 (.seq (.reg true [mV 17 0, mV 18 5, oP 19 (.iaddr 2 (.t 17) (.t 18)), oP 20 (.load true 2 (.t 19)), mV 21 1, mV 22 5, oP 23 (.iaddr 2 (.t 21) (.t 22)), oP 24 (.load true 2 (.t 23)), oP 25 (.bin .neq (.agg [.s, .i]) (.t 20) (.t 24))]) [0, 1, 5, 25]
 (.cond (.t 25) (.seq (.reg false [oP 4 (.mv (.c (.bool false)))]) [4]
 (.ret)) (.skip)))) [0, 1, 5]
 (.reg false [mV 15 5, oP 16 (.bin .add .val (.t 15) (.c (.int .i64 (1)))), mV 5 16])))
def f38 : AFunc := { np := 2, nt := 26, res := [.tmp 4], own := false, body := (.seq (.reg false [oP 4 (.mv (.c (.bool false)))]) [0, 1]
 (.seq (.seq (.reg false [mV 6 0, oP 7 (.len false (.t 6)), mV 8 1, oP 9 (.len false (.t 8)), oP 10 (.bin .neq .val (.t 7) (.t 9))]) [0, 1, 10]
 (.cond (.t 10) (.seq (.reg false [oP 4 (.mv (.c (.bool false)))]) [4]
 (.ret)) (.skip))) [0, 1]
 (.seq (.seq (.reg false [oP 5 (.mv (.c (.int .i64 (0))))]) [0, 1, 5]
 (.block 0 (.loop [0, 1, 5] f38l0))) []
 (.seq (.reg false [oP 4 (.mv (.c (.bool true)))]) [4]
 (.ret))))) }
/- laws.qxFields -/
def f39l0 : ACode := (.seq (.seq (.reg false [mV 11 5, mV 12 0, oP 13 (.len false (.t 12)), oP 14 (.bin .lss .val (.t 11) (.t 13))]) [0, 1, 5, 14]
 (.cond (.t 14) (.skip) (.exit 0))) [0, 1, 5]
 (.seq (.block 1 (.seq (.reg true [mV 17 0, mV 18 5, oP 19 (.iaddr 2 (.t 17) (.t 18)), oP 20 (.load true 2 (.t 19)), mV 21 1, mV 22 5, oP 23 (.iaddr 2 (.t 21) (.t 22)), oP 24 (.load true 2 (.t 23)), oP 25 (.bin .neq (.agg [.s, .s]) (.t 20) (.t 24))]) [0, 1, 5, 25]
 (.cond (.t 25) (.seq (.reg false [oP 4 (.mv (.c (.bool false)))]) [4]
 (.ret)) (.skip)))) [0, 1, 5]
 (.reg false [mV 15 5, oP 16 (.bin .add .val (.t 15) (.c (.int .i64 (1)))), mV 5 16])))
def f39 : AFunc := { np := 2, nt := 26, res := [.tmp 4], own := false, body := (.seq (.reg false [oP 4 (.mv (.c (.bool false)))]) [0, 1]
 (.seq (.seq (.reg false [mV 6 0, oP 7 (.len false (.t 6)), mV 8 1, oP 9 (.len false (.t 8)), oP 10 (.bin .neq .val (.t 7) (.t 9))]) [0, 1, 10]
 (.cond (.t 10) (.seq (.reg false [oP 4 (.mv (.c (.bool false)))]) [4]
 (.ret)) (.skip))) [0, 1]
 (.seq (.seq (.reg false [oP 5 (.mv (.c (.int .i64 (0))))]) [0, 1, 5]
 (.block 0 (.loop [0, 1, 5] f39l0))) []
 (.seq (.reg false [oP 4 (.mv (.c (.bool true)))]) [4]
 (.ret))))) }
/- impl.within -/
def f40 : AFunc := { np := 3, nt := 15, res := [.tmp 6], own := false, body := (.seq (.reg false [oP 6 (.mv (.c (.bool false)))]) [0, 1, 2]
 (.seq (.reg false [mV 7 0, mV 8 1, oP 9 (.bin .geq .val (.t 7) (.t 8)), mV 10 9, oG 11 10 true (.mv (.t 0)), oG 12 10 true (.mv (.t 2)), oG 13 10 true (.bin .leq .val (.t 11) (.t 12)), oP 14 (.pick (.t 10) (.t 13) (.c (.bool false))), mV 6 14]) [6]
 (.ret))) }
/- impl.EntryOk -/
def f41 : AFunc := { np := 1, nt := 132, res := [.tmp 2], own := false, body := (.seq (.reg false [oP 1 (.box (.t 0)), oP 2 (.mv (.c (.bool false)))]) [1]
 (.seq (.seq (.reg false [oF 7 0 1, oL 8 7, oP 9 (.pcall (.f 64) [.t 8]), oP 10 (.un .not (.t 9)), mV 11 10, oG 12 11 false (.faddr 1 (.t 1)), oG 13 11 false (.load false 1 (.t 12)), oG 14 11 false (.pcall (.f 40) [.t 13, .c (.int .i64 (0)), .c (.int .i64 (2000000))]), oG 15 11 false (.un .not (.t 14)), oP 16 (.pick (.t 11) (.c (.bool true)) (.t 15))]) [1, 16]
 (.cond (.t 16) (.seq (.reg false [oP 2 (.mv (.c (.bool false)))]) [2]
 (.ret)) (.skip))) [1]
 (.seq (.reg true [oF 17 3 1, oL 18 17, oP 19 (.bin .neq .val (.t 18) (.c (.str []))), oF 20 4 1, oL 21 20, oP 22 (.len false (.t 21)), oP 23 (.bin .gtr .val (.t 22) (.c (.int .i64 (0)))), oF 24 5 1, oL 25 24, oP 26 (.len false (.t 25)), oP 27 (.bin .gtr .val (.t 26) (.c (.int .i64 (0)))), oF 28 6 1, oL 29 28, oP 30 (.len false (.t 29)), oP 31 (.bin .gtr .val (.t 30) (.c (.int .i64 (0)))), mV 3 19, mV 4 23, mV 5 27, mV 6 31]) [1, 3, 4, 5, 6]
 (.seq (.seq (.reg false [oF 32 2 1, oL 33 32]) [1, 3, 4, 5, 6, 33]
 (.block 0 (.seq (.reg false [oP 35 (.bin .eql .val (.t 33) (.c (.int .i64 (1)))), mV 34 35]) [1, 3, 4, 5, 6, 33, 34]
 (.cond (.t 34) (.seq (.reg false [oF 36 3 1, oL 37 36, oP 38 (.len true (.t 37)), oP 39 (.bin .leq .val (.t 38) (.c (.int .i64 (40)))), mV 40 39, oG 41 40 true (.mv (.t 4)), oG 42 40 true (.un .not (.t 41)), oP 43 (.pick (.t 40) (.t 42) (.c (.bool false))), mV 44 43, oG 45 44 true (.mv (.t 5)), oG 46 44 true (.un .not (.t 45)), oP 47 (.pick (.t 44) (.t 46) (.c (.bool false))), mV 48 47, oG 49 48 true (.mv (.t 6)), oG 50 48 true (.un .not (.t 49)), oP 51 (.pick (.t 48) (.t 50) (.c (.bool false))), mV 2 51]) [2]
 (.ret)) (.seq (.reg false [oP 53 (.bin .eql .val (.t 33) (.c (.int .i64 (2)))), mV 52 53]) [1, 3, 4, 5, 6, 33, 52]
 (.cond (.t 52) (.seq (.reg false [mV 54 4, mV 55 54, oG 56 55 true (.faddr 4 (.t 1)), oG 57 55 true (.load false 1 (.t 56)), oG 58 55 true (.pcall (.f 65) [.t 57]), oP 59 (.pick (.t 55) (.t 58) (.c (.bool false))), mV 60 59, oG 61 60 true (.mv (.t 3)), oG 62 60 true (.un .not (.t 61)), oP 63 (.pick (.t 60) (.t 62) (.c (.bool false))), mV 64 63, oG 65 64 true (.mv (.t 5)), oG 66 64 true (.un .not (.t 65)), oP 67 (.pick (.t 64) (.t 66) (.c (.bool false))), mV 68 67, oG 69 68 true (.mv (.t 6)), oG 70 68 true (.un .not (.t 69)), oP 71 (.pick (.t 68) (.t 70) (.c (.bool false))), mV 2 71]) [2]
 (.ret)) (.seq (.reg false [oP 73 (.bin .eql .val (.t 33) (.c (.int .i64 (3)))), mV 72 73]) [1, 3, 4, 5, 6, 33, 72]
 (.cond (.t 72) (.seq (.reg false [mV 74 4, mV 75 74, oG 76 75 true (.faddr 4 (.t 1)), oG 77 75 true (.load false 1 (.t 76)), oG 78 75 true (.pcall (.f 66) [.t 77]), oP 79 (.pick (.t 75) (.t 78) (.c (.bool false))), mV 80 79, oG 81 80 true (.mv (.t 3)), oG 82 80 true (.un .not (.t 81)), oP 83 (.pick (.t 80) (.t 82) (.c (.bool false))), mV 84 83, oG 85 84 true (.mv (.t 5)), oG 86 84 true (.un .not (.t 85)), oP 87 (.pick (.t 84) (.t 86) (.c (.bool false))), mV 88 87, oG 89 88 true (.mv (.t 6)), oG 90 88 true (.un .not (.t 89)), oP 91 (.pick (.t 88) (.t 90) (.c (.bool false))), mV 2 91]) [2]
 (.ret)) (.seq (.reg false [oP 93 (.bin .eql .val (.t 33) (.c (.int .i64 (4)))), mV 92 93]) [1, 3, 4, 5, 6, 33, 92]
 (.cond (.t 92) (.seq (.reg false [mV 94 5, mV 95 94, oG 96 95 true (.faddr 5 (.t 1)), oG 97 95 true (.load false 1 (.t 96)), oG 98 95 true (.pcall (.f 67) [.t 97]), oP 99 (.pick (.t 95) (.t 98) (.c (.bool false))), mV 100 99, oG 101 100 true (.mv (.t 3)), oG 102 100 true (.un .not (.t 101)), oP 103 (.pick (.t 100) (.t 102) (.c (.bool false))), mV 104 103, oG 105 104 true (.mv (.t 4)), oG 106 104 true (.un .not (.t 105)), oP 107 (.pick (.t 104) (.t 106) (.c (.bool false))), mV 108 107, oG 109 108 true (.mv (.t 6)), oG 110 108 true (.un .not (.t 109)), oP 111 (.pick (.t 108) (.t 110) (.c (.bool false))), mV 2 111]) [2]
 (.ret)) (.seq (.reg false [oP 113 (.bin .eql .val (.t 33) (.c (.int .i64 (5)))), mV 112 113]) [1, 3, 4, 5, 6, 112]
 (.cond (.t 112) (.seq (.reg false [mV 114 6, mV 115 114, oG 116 115 true (.faddr 6 (.t 1)), oG 117 115 true (.load false 1 (.t 116)), oG 118 115 true (.pcall (.f 68) [.t 117]), oP 119 (.pick (.t 115) (.t 118) (.c (.bool false))), mV 120 119, oG 121 120 true (.mv (.t 3)), oG 122 120 true (.un .not (.t 121)), oP 123 (.pick (.t 120) (.t 122) (.c (.bool false))), mV 124 123, oG 125 124 true (.mv (.t 4)), oG 126 124 true (.un .not (.t 125)), oP 127 (.pick (.t 124) (.t 126) (.c (.bool false))), mV 128 127, oG 129 128 true (.mv (.t 5)), oG 130 128 true (.un .not (.t 129)), oP 131 (.pick (.t 128) (.t 130) (.c (.bool false))), mV 2 131]) [2]
 (.ret)) (.skip))))))))))))) []
 (.seq (.reg false [oP 2 (.mv (.c (.bool false)))]) [2]
 (.ret)))))) }
/- spec.l4At -/
def f45l0 : ACode := (.seq (.seq (.reg false [mV 7 6, oF 8 1 2, oL 9 8, oP 10 (.len false (.t 9)), oP 11 (.bin .lss .val (.t 7) (.t 10)), mV 12 11, oG 13 12 true (.faddr 1 (.t 2)), oG 14 12 true (.load false 1 (.t 13)), oG 15 12 true (.mv (.t 6)), oG 16 12 true (.iaddr 7 (.t 14) (.t 15)), oG 17 12 true (.faddr 0 (.t 16)), oG 18 12 true (.load false 1 (.t 17)), oG 19 12 true (.mv (.t 1)), oG 20 12 true (.bin .lss .val (.t 18) (.t 19)), oP 21 (.pick (.t 12) (.t 20) (.c (.bool false)))]) [1, 2, 6, 21]
 (.cond (.t 21) (.skip) (.exit 0))) [1, 2, 6]
 (.block 1 (.reg false [mV 22 6, oP 23 (.bin .add .val (.t 22) (.c (.int .i64 (1)))), mV 6 23])))
def f45 : AFunc := { np := 2, nt := 40, res := [.tmp 4, .tmp 5], own := false, body := (.seq (.reg false [oP 2 (.box (.t 0)), oP 4 (.mv (.c (.int .i64 (0)))), oP 5 (.mv (.c (.bool false)))]) [1, 2]
 (.seq (.reg false [oP 6 (.mv (.c (.int .i64 (0))))]) [1, 2, 6]
 (.seq (.block 0 (.loop [1, 2, 6] f45l0)) [1, 2, 6]
 (.seq (.reg true [mV 24 6, mV 25 6, oF 26 1 2, oL 27 26, oP 28 (.len false (.t 27)), oP 29 (.bin .lss .val (.t 25) (.t 28)), mV 30 29, oG 31 30 true (.faddr 1 (.t 2)), oG 32 30 true (.load false 1 (.t 31)), oG 33 30 true (.mv (.t 6)), oG 34 30 true (.iaddr 7 (.t 32) (.t 33)), oG 35 30 true (.faddr 0 (.t 34)), oG 36 30 true (.load false 1 (.t 35)), oG 37 30 true (.mv (.t 1)), oG 38 30 true (.bin .eql .val (.t 36) (.t 37)), oP 39 (.pick (.t 30) (.t 38) (.c (.bool false))), mV 4 24, mV 5 39]) [4, 5]
 (.ret))))) }
/- spec.l4Drop -/
def f46 : AFunc := { np := 2, nt := 31, res := [.cell 4 true 2], own := false, body := (.seq (.reg false [oP 2 (.box (.t 0)), oP 4 (.alloc (.agg [.d (.int .i64 (0)), .nils 7]))]) [1, 2, 4]
 (.seq (.reg false [oP 8 (.load true 2 (.t 2)), oP 9 (.call (.f 36) [(false, .t 8)] true), oP 5 (.alloc (.agg [.d (.int .i64 (0)), .nils 7])), oN (.store 2 (.t 5) (.t 9))]) [1, 2, 4, 5]
 (.seq (.reg false [oP 11 (.load true 2 (.t 2)), mV 12 1, oP 13 (.pcall (.f 45) [.t 11, .t 12]), mV 10 13, oP 14 (.extract (.t 10) 0), oP 15 (.extract (.t 10) 1), mV 6 14, mV 7 15]) [4, 5, 6, 7]
 (.seq (.seq (.reg false [mV 16 7]) [4, 5, 6, 16]
 (.cond (.t 16) (.regx [(true, oF 18 1 5), (true, oL 19 18), (true, mV 20 6), (true, oP 21 (.slice (some 7) (.t 19) none (some (.t 20)))), (true, oF 23 1 5), (true, oL 24 23), (true, mV 25 6), (true, oP 26 (.bin .add .val (.t 25) (.c (.int .i64 (1))))), (true, oP 27 (.slice (some 7) (.t 24) (some (.t 26)) none)), (true, oP 17 (.lit true 7 [])), (false, oL 19 18), (false, oP 21 (.slice (some 7) (.t 19) none (some (.t 20)))), (false, oL 24 23), (false, oP 27 (.slice (some 7) (.t 24) (some (.t 26)) none)), (true, oP 22 (.append 7 120 (.t 17) (.t 21))), (false, oL 24 23), (false, oP 27 (.slice (some 7) (.t 24) (some (.t 26)) none)), (true, oP 28 (.append 7 120 (.t 22) (.t 27))), (true, oF 29 1 5), (true, oN (.store 1 (.t 29) (.t 28)))]) (.skip))) [4, 5]
 (.seq (.reg false [oP 30 (.load true 2 (.t 5)), oN (.store 2 (.t 4) (.t 30))]) [4]
 (.ret)))))) }
/- spec.l4Get -/
def f47 : AFunc := { np := 2, nt := 23, res := [.cell 4 true 7], own := false, body := (.seq (.reg false [oP 2 (.box (.t 0)), oP 4 (.alloc (.agg [.d (.str []), .d (.int .i64 (0)), .d (.int .i64 (0)), .d (.str []), .nils 1, .nils 2, .nils 2]))]) [1, 2, 4]
 (.seq (.reg false [oP 8 (.load true 2 (.t 2)), mV 9 1, oP 10 (.pcall (.f 45) [.t 8, .t 9]), mV 7 10, oP 11 (.extract (.t 7) 0), oP 12 (.extract (.t 7) 1), mV 5 11, mV 6 12]) [1, 2, 4, 5, 6]
 (.seq (.seq (.reg false [mV 13 6, oP 14 (.un .not (.t 13))]) [1, 2, 4, 5, 14]
 (.cond (.t 14) (.seq (.reg false [mV 15 1, oP 16 (.build [.d (.str []), .d (.int .i64 (0)), .d (.int .i64 (0)), .d (.str []), .nils 1, .nils 2, .nils 2] [(0, 1, .t 15)]), oN (.store 7 (.t 4) (.t 16))]) [4]
 (.ret)) (.skip))) [2, 4, 5]
 (.seq (.reg false [oF 17 1 2, oL 18 17, mV 19 5, oP 20 (.iaddr 7 (.t 18) (.t 19)), oP 21 (.load true 7 (.t 20)), oP 22 (.pcall (.f 63) [.t 21]), oN (.store 7 (.t 4) (.t 22))]) [4]
 (.ret))))) }
/- cmp.Compare[string] -/
def f50 : AFunc := { np := 2, nt := 20, res := [.tmp 4], own := false, body := (.seq (.reg false [oP 4 (.mv (.c (.int .i64 (0))))]) [0, 1]
 (.seq (.reg false [mV 7 0, oP 8 (.pcall (.f 74) [.t 7]), mV 5 8]) [0, 1, 5]
 (.seq (.reg false [mV 9 1, oP 10 (.pcall (.f 74) [.t 9]), mV 6 10]) [0, 1, 5, 6]
 (.seq (.seq (.reg false [mV 11 5]) [0, 1, 6, 11]
 (.cond (.t 11) (.seq (.seq (.reg false [mV 12 6]) [12]
 (.cond (.t 12) (.seq (.reg false [oP 4 (.mv (.c (.int .i64 (0))))]) [4]
 (.ret)) (.skip))) []
 (.seq (.reg false [oP 4 (.mv (.c (.int .i64 (-1))))]) [4]
 (.ret))) (.skip))) [0, 1, 6]
 (.seq (.seq (.reg false [mV 13 6]) [0, 1, 13]
 (.cond (.t 13) (.seq (.reg false [oP 4 (.mv (.c (.int .i64 (1))))]) [4]
 (.ret)) (.skip))) [0, 1]
 (.seq (.seq (.reg false [mV 14 0, mV 15 1, oP 16 (.bin .lss .val (.t 14) (.t 15))]) [0, 1, 16]
 (.cond (.t 16) (.seq (.reg false [oP 4 (.mv (.c (.int .i64 (-1))))]) [4]
 (.ret)) (.skip))) [0, 1]
 (.seq (.seq (.reg false [mV 17 0, mV 18 1, oP 19 (.bin .gtr .val (.t 17) (.t 18))]) [19]
 (.cond (.t 19) (.seq (.reg false [oP 4 (.mv (.c (.int .i64 (1))))]) [4]
 (.ret)) (.skip))) []
 (.seq (.reg false [oP 4 (.mv (.c (.int .i64 (0))))]) [4]
 (.ret))))))))) }
/- spec.l4Put -/
def f52 : AFunc := { np := 2, nt := 63, res := [.cell 4 true 2, .tmp 5], own := false, body := (.seq (.reg false [oP 2 (.box (.t 0)), oP 3 (.box (.t 1)), oP 4 (.alloc (.agg [.d (.int .i64 (0)), .nils 7])), oP 5 (.mv (.c (.bool false)))]) [2, 3, 4]
 (.seq (.reg false [oP 9 (.load true 2 (.t 2)), oF 10 0 3, oL 11 10, oP 12 (.pcall (.f 46) [.t 9, .t 11]), oP 6 (.alloc (.agg [.d (.int .i64 (0)), .nils 7])), oN (.store 2 (.t 6) (.t 12))]) [2, 3, 4, 6]
 (.seq (.seq (.reg false [oP 13 (.load true 7 (.t 3)), oP 14 (.pcall (.f 80) [.t 13])]) [2, 3, 4, 6, 14]
 (.cond (.t 14) (.seq (.reg false [oP 15 (.load true 2 (.t 6)), oN (.store 2 (.t 4) (.t 15)), oP 5 (.mv (.c (.bool true)))]) [4, 5]
 (.ret)) (.skip))) [2, 3, 4, 6]
 (.seq (.seq (.reg false [oP 16 (.load true 7 (.t 3)), oP 17 (.pcall (.f 31) [.t 16]), oP 18 (.un .not (.t 17)), mV 19 18, oG 20 19 false (.faddr 1 (.t 3)), oG 21 19 false (.load false 1 (.t 20)), oG 22 19 false (.bin .neq .val (.t 21) (.c (.int .i64 (0)))), oG 23 19 false (.mv (.t 22)), oG 24 23 true (.faddr 1 (.t 3)), oG 25 23 true (.load false 1 (.t 24)), oG 26 23 true (.faddr 0 (.t 2)), oG 27 23 true (.load false 1 (.t 26)), oG 28 23 true (.bin .leq .val (.t 25) (.t 27)), oG 29 19 false (.pick (.t 23) (.t 28) (.c (.bool false))), oP 30 (.pick (.t 19) (.c (.bool true)) (.t 29)), mV 31 30, oG 32 31 false (.faddr 1 (.t 6)), oG 33 31 false (.load false 1 (.t 32)), oG 34 31 false (.len false (.t 33)), oG 35 31 false (.bin .geq .val (.t 34) (.c (.int .i64 (12)))), oP 36 (.pick (.t 31) (.c (.bool true)) (.t 35))]) [2, 3, 4, 6, 36]
 (.cond (.t 36) (.seq (.reg false [oP 37 (.load true 2 (.t 2)), oP 38 (.call (.f 36) [(false, .t 37)] true), oN (.store 2 (.t 4) (.t 38)), oP 5 (.mv (.c (.bool false)))]) [4, 5]
 (.ret)) (.skip))) [3, 4, 6]
 (.seq (.reg false [oP 40 (.load true 2 (.t 6)), oF 41 0 3, oL 42 41, oP 43 (.pcall (.f 45) [.t 40, .t 42]), mV 39 43, oP 44 (.extract (.t 39) 0), oP 45 (.extract (.t 39) 1), mV 7 44, mV 8 45]) [3, 4, 6, 7]
 (.seq (.regx [(true, oF 47 1 6), (true, oL 48 47), (true, mV 49 7), (true, oP 50 (.slice (some 7) (.t 48) none (some (.t 49)))), (true, oP 52 (.load true 7 (.t 3))), (true, oF 56 1 6), (true, oL 57 56), (true, mV 58 7), (true, oP 59 (.slice (some 7) (.t 57) (some (.t 58)) none)), (true, oP 46 (.lit true 7 [])), (false, oL 48 47), (false, oP 50 (.slice (some 7) (.t 48) none (some (.t 49)))), (false, oP 52 (.load true 7 (.t 3))), (false, oL 57 56), (false, oP 59 (.slice (some 7) (.t 57) (some (.t 58)) none)), (true, oP 51 (.append 7 120 (.t 46) (.t 50))), (false, oP 52 (.load true 7 (.t 3))), (false, oL 57 56), (false, oP 59 (.slice (some 7) (.t 57) (some (.t 58)) none)), (true, oP 53 (.pcall (.f 63) [.t 52])), (true, oP 54 (.lit false 7 [.t 53])), (true, oP 55 (.append 7 120 (.t 51) (.t 54))), (false, oL 57 56), (false, oP 59 (.slice (some 7) (.t 57) (some (.t 58)) none)), (true, oP 60 (.append 7 120 (.t 55) (.t 59))), (true, oF 61 1 6), (true, oN (.store 1 (.t 61) (.t 60)))]) [4, 6]
 (.seq (.reg false [oP 62 (.load true 2 (.t 6)), oN (.store 2 (.t 4) (.t 62)), oP 5 (.mv (.c (.bool true)))]) [4, 5]
 (.ret)))))))) }
/- spec.l11Base -/
def f53l0 : ACode := (.seq (.seq (.reg false [oF 44 1 3, oL 45 44, oP 46 (.len false (.t 45)), oP 47 (.bin .lss .val (.t 46) (.c (.int .i64 (12))))]) [2, 3, 6, 47]
 (.cond (.t 47) (.skip) (.exit 2))) [2, 3, 6]
 (.seq (.block 3 (.reg true [oP 51 (.load true 2 (.t 3)), mV 52 6, oP 53 (.pcall (.f 83) [.t 52]), oP 54 (.bin .add .val (.c (.str [120])) (.t 53)), oP 55 (.build [.d (.str []), .d (.int .i64 (0)), .d (.int .i64 (0)), .d (.str []), .nils 1, .nils 2, .nils 2] [(0, 1, .t 54), (2, 1, .c (.int .i64 (1)))]), oP 56 (.pcall (.f 52) [.t 51, .t 55]), mV 50 56, oP 57 (.extract (.t 50) 0), oP 58 (.extract (.t 50) 1), oN (.store 2 (.t 3) (.t 57))])) [2, 3, 6]
 (.reg false [mV 48 6, oP 49 (.bin .add .val (.t 48) (.c (.int .i64 (1)))), mV 6 49])))
def f53l1 : ACode := (.seq (.seq (.reg false [mV 13 4, oP 14 (.bin .gtr .val (.t 13) (.c (.int .i64 (0))))]) [0, 2, 3, 4, 14]
 (.cond (.t 14) (.skip) (.exit 0))) [0, 2, 3, 4]
 (.seq (.block 1 (.seq (.reg false [mV 17 0, oP 18 (.call (.f 81) [(false, .t 17)] true), mV 5 18]) [0, 2, 3, 4, 5]
 (.seq (.seq (.reg false [mV 19 5, oP 20 (.iaddr 1 (.t 19) (.c (.int .i64 (0)))), oL 21 20, oP 22 (.bin .neq .val (.t 21) (.c (.str [70, 76, 85, 83, 72]))), mV 23 22, oG 24 23 false (.mv (.t 0)), oG 25 23 false (.call (.f 54) [(false, .t 24), (false, .c (.int .i64 (4)))] false), oG 26 23 false (.bin .eql .val (.t 25) (.c (.int .i64 (0)))), oP 27 (.pick (.t 23) (.c (.bool true)) (.t 26))]) [0, 2, 3, 4, 5, 27]
 (.cond (.t 27) (.reg false [oP 29 (.load true 2 (.t 3)), mV 30 5, oP 31 (.pcall (.f 82) [.t 29, .t 30]), mV 28 31, oP 32 (.extract (.t 28) 0), oP 33 (.extract (.t 28) 1), oN (.store 2 (.t 3) (.t 32))]) (.skip))) [0, 2, 3, 4]
 (.seq (.reg false [mV 34 0, oP 35 (.call (.f 54) [(false, .t 34), (false, .c (.int .i64 (6)))] false), oP 36 (.bin .eql .val (.t 35) (.c (.int .i64 (0))))]) [0, 2, 3, 4, 36]
 (.cond (.t 36) (.regx [(true, oP 37 (.load true 2 (.t 3))), (true, mV 38 0), (true, oP 39 (.call (.f 54) [(false, .t 38), (false, .c (.int .i64 (4)))] false)), (false, oP 37 (.load true 2 (.t 3))), (true, oP 40 (.pcall (.f 16) [.t 37, .t 39])), (true, oN (.store 2 (.t 3) (.t 40)))]) (.skip)))))) [0, 2, 3, 4]
 (.reg false [mV 15 4, oP 16 (.bin .sub .val (.t 15) (.c (.int .i64 (1)))), mV 4 16])))
def f53 : AFunc := { np := 1, nt := 60, res := [.cell 2 true 2], own := false, body := (.seq (.reg false [oP 2 (.alloc (.agg [.d (.int .i64 (0)), .nils 7]))]) [0, 2]
 (.seq (.reg false [mV 7 0, oP 8 (.lit false 1 [.c (.int .i64 (0)), .c (.int .i64 (0)), .c (.int .i64 (10)), .c (.int .i64 (1000000))]), oP 9 (.call (.f 33) [(false, .t 7), (false, .t 8)] false), oP 10 (.build [.d (.int .i64 (0)), .nils 7] [(0, 1, .t 9)]), oP 3 (.alloc (.agg [.d (.int .i64 (0)), .nils 7])), oN (.store 2 (.t 3) (.t 10))]) [0, 2, 3]
 (.seq (.seq (.reg false [mV 11 0, oP 12 (.call (.f 54) [(false, .t 11), (false, .c (.int .i64 (14)))] false), mV 4 12]) [0, 2, 3, 4]
 (.block 0 (.loop [0, 2, 3, 4] f53l1))) [0, 2, 3]
 (.seq (.seq (.reg false [mV 41 0, oP 42 (.call (.f 54) [(false, .t 41), (false, .c (.int .i64 (30)))] false), oP 43 (.bin .eql .val (.t 42) (.c (.int .i64 (0))))]) [2, 3, 43]
 (.cond (.t 43) (.seq (.reg false [oP 6 (.mv (.c (.int .i64 (10))))]) [2, 3, 6]
 (.block 2 (.loop [2, 3, 6] f53l0))) (.skip))) [2, 3]
 (.seq (.reg false [oP 59 (.load true 2 (.t 3)), oN (.store 2 (.t 2) (.t 59))]) [2]
 (.ret)))))) }
/- spec.l1Rd).pick -/
def f54 : AFunc := { np := 2, nt := 99, res := [.tmp 4], own := false, body := (.seq (.reg false [oP 4 (.mv (.c (.int .i64 (0))))]) [0, 1]
 (.seq (.reg false [mV 7 0, mV 8 0, oP 9 (.nilck (.t 8)), oF 10 1 9, oL 11 10, oP 12 (.bin .add .val (.t 11) (.c (.int .i64 (1)))), oP 13 (.nilck (.t 7)), oF 14 1 13, oN (.store 1 (.t 14) (.t 12))]) [0, 1]
 (.seq (.seq (.reg false [mV 15 1, oP 16 (.bin .lss .val (.t 15) (.c (.int .i64 (1)))), mV 17 16, oG 18 17 false (.mv (.t 0)), oG 19 17 false (.nilck (.t 18)), oG 20 17 false (.faddr 0 (.t 19)), oG 21 17 false (.load false 1 (.t 20)), oG 22 17 false (.len false (.t 21)), oG 23 17 false (.bin .eql .val (.t 22) (.c (.int .i64 (0)))), oP 24 (.pick (.t 17) (.c (.bool true)) (.t 23))]) [0, 1, 24]
 (.cond (.t 24) (.seq (.reg false [oP 4 (.mv (.c (.int .i64 (0))))]) [4]
 (.ret)) (.skip))) [0, 1]
 (.seq (.reg false [mV 25 0, oP 26 (.nilck (.t 25)), oF 27 1 26, oL 28 27, oP 29 (.bin .sub .val (.t 28) (.c (.int .i64 (1)))), mV 5 29]) [0, 1, 5]
 (.seq (.seq (.reg false [mV 30 5, mV 31 0, oP 32 (.nilck (.t 31)), oF 33 0 32, oL 34 33, oP 35 (.len false (.t 34)), oP 36 (.bin .lss .val (.t 30) (.t 35))]) [0, 1, 5, 36]
 (.cond (.t 36) (.seq (.reg false [mV 37 0, oP 38 (.nilck (.t 37)), oF 39 0 38, oL 40 39, mV 41 5, oP 42 (.iaddr 1 (.t 40) (.t 41)), oL 43 42, oP 44 (.cvInt .i64 (.t 43)), mV 45 1, oP 46 (.bin .rem .val (.t 44) (.t 45)), mV 4 46]) [4]
 (.ret)) (.skip))) [0, 1, 5]
 (.seq (.reg true [mV 47 0, oP 48 (.nilck (.t 47)), oF 49 0 48, oL 50 49, mV 51 5, mV 52 0, oP 53 (.nilck (.t 52)), oF 54 0 53, oL 55 54, oP 56 (.len false (.t 55)), oP 57 (.bin .rem .val (.t 51) (.t 56)), oP 58 (.iaddr 1 (.t 50) (.t 57)), oL 59 58, oP 60 (.cvInt .i64 (.t 59)), oP 61 (.bin .mul .val (.t 60) (.c (.int .i64 (131)))), mV 62 0, oP 63 (.nilck (.t 62)), oF 64 0 63, oL 65 64, mV 66 5, oP 67 (.bin .mul .val (.t 66) (.c (.int .i64 (7)))), oP 68 (.bin .add .val (.t 67) (.c (.int .i64 (3)))), mV 69 0, oP 70 (.nilck (.t 69)), oF 71 0 70, oL 72 71, oP 73 (.len false (.t 72)), oP 74 (.bin .rem .val (.t 68) (.t 73)), oP 75 (.iaddr 1 (.t 65) (.t 74)), oL 76 75, oP 77 (.cvInt .i64 (.t 76)), oP 78 (.bin .mul .val (.t 77) (.c (.int .i64 (1117)))), oP 79 (.bin .add .val (.t 61) (.t 78)), mV 80 5, oP 81 (.bin .mul .val (.t 80) (.c (.int .i64 (29)))), oP 82 (.bin .add .val (.t 79) (.t 81)), mV 83 5, mV 84 0, oP 85 (.nilck (.t 84)), oF 86 0 85, oL 87 86, oP 88 (.len false (.t 87)), oP 89 (.bin .quo .val (.t 83) (.t 88)), oP 90 (.bin .mul .val (.t 89) (.c (.int .i64 (53)))), oP 91 (.bin .add .val (.t 82) (.t 90)), mV 6 91]) [1, 6]
 (.seq (.reg false [mV 92 6, mV 93 6, oP 94 (.bin .quo .val (.t 93) (.c (.int .i64 (64)))), oP 95 (.bin .xor .val (.t 92) (.t 94)), mV 6 95]) [1, 6]
 (.seq (.reg false [mV 96 6, mV 97 1, oP 98 (.bin .rem .val (.t 96) (.t 97)), mV 4 98]) [4]
 (.ret))))))))) }
/- spec.l4Key -/
def f55 : AFunc := { np := 1, nt := 6, res := [.tmp 2], own := false, body := (.seq (.reg false [oP 2 (.mv (.c (.bool false)))]) [0]
 (.seq (.reg false [mV 3 0, oP 4 (.len true (.t 3)), oP 5 (.pcall (.f 32) [.t 4, .c (.int .i64 (1)), .c (.int .i64 (12))]), mV 2 5]) [2]
 (.ret))) }
/- spec.l2Texts -/
def f56l0 : ACode := (.seq (.seq (.reg false [mV 4 3, mV 5 0, oP 6 (.len false (.t 5)), oP 7 (.bin .lss .val (.t 4) (.t 6))]) [0, 3, 7]
 (.cond (.t 7) (.skip) (.exit 0))) [0, 3]
 (.seq (.block 1 (.seq (.reg false [mV 10 0, mV 11 3, oP 12 (.iaddr 1 (.t 10) (.t 11)), oL 13 12, oP 14 (.len true (.t 13)), oP 15 (.bin .gtr .val (.t 14) (.c (.int .i64 (40))))]) [0, 3, 15]
 (.cond (.t 15) (.seq (.reg false [oP 2 (.mv (.c (.bool false)))]) [2]
 (.ret)) (.skip)))) [0, 3]
 (.reg false [mV 8 3, oP 9 (.bin .add .val (.t 8) (.c (.int .i64 (1)))), mV 3 9])))
def f56 : AFunc := { np := 1, nt := 19, res := [.tmp 2], own := false, body := (.seq (.reg false [oP 2 (.mv (.c (.bool false)))]) [0]
 (.seq (.seq (.reg false [oP 3 (.mv (.c (.int .i64 (0))))]) [0, 3]
 (.block 0 (.loop [0, 3] f56l0))) [0]
 (.seq (.reg false [mV 16 0, oP 17 (.len false (.t 16)), oP 18 (.bin .leq .val (.t 17) (.c (.int .i64 (16)))), mV 2 18]) [2]
 (.ret)))) }
/- spec.SetOk -/
def f57l0 : ACode := (.seq (.seq (.reg false [mV 4 3, mV 5 0, oP 6 (.len false (.t 5)), oP 7 (.bin .lss .val (.t 4) (.t 6))]) [0, 3, 7]
 (.cond (.t 7) (.skip) (.exit 0))) [0, 3]
 (.seq (.block 1 (.seq (.reg true [mV 10 0, mV 11 3, oP 12 (.bin .sub .val (.t 11) (.c (.int .i64 (1)))), oP 13 (.iaddr 1 (.t 10) (.t 12)), oL 14 13, mV 15 0, mV 16 3, oP 17 (.iaddr 1 (.t 15) (.t 16)), oL 18 17, oP 19 (.bin .geq .val (.t 14) (.t 18))]) [0, 3, 19]
 (.cond (.t 19) (.seq (.reg false [oP 2 (.mv (.c (.bool false)))]) [2]
 (.ret)) (.skip)))) [0, 3]
 (.reg false [mV 8 3, oP 9 (.bin .add .val (.t 8) (.c (.int .i64 (1)))), mV 3 9])))
def f57 : AFunc := { np := 1, nt := 22, res := [.tmp 2], own := false, body := (.seq (.reg false [oP 2 (.mv (.c (.bool false)))]) [0]
 (.seq (.seq (.reg false [oP 3 (.mv (.c (.int .i64 (1))))]) [0, 3]
 (.block 0 (.loop [0, 3] f57l0))) [0]
 (.seq (.reg false [mV 20 0, oP 21 (.pcall (.f 56) [.t 20]), mV 2 21]) [2]
 (.ret)))) }
/- spec.ScoresOk -/
def f58l0 : ACode := (.seq (.seq (.reg false [mV 44 4, mV 45 3, oP 46 (.bin .lss .val (.t 44) (.t 45))]) [0, 3, 4, 46]
 (.cond (.t 46) (.skip) (.exit 2))) [0, 3, 4]
 (.seq (.block 3 (.seq (.reg true [mV 49 0, mV 50 4, oP 51 (.iaddr 2 (.t 49) (.t 50)), oF 52 0 51, oL 53 52, mV 54 0, mV 55 3, oP 56 (.iaddr 2 (.t 54) (.t 55)), oF 57 0 56, oL 58 57, oP 59 (.bin .eql .val (.t 53) (.t 58))]) [0, 3, 4, 59]
 (.cond (.t 59) (.seq (.reg false [oP 2 (.mv (.c (.bool false)))]) [2]
 (.ret)) (.skip)))) [0, 3, 4]
 (.reg false [mV 47 4, oP 48 (.bin .add .val (.t 47) (.c (.int .i64 (1)))), mV 4 48])))
def f58l1 : ACode := (.seq (.seq (.reg false [mV 5 3, mV 6 0, oP 7 (.len false (.t 6)), oP 8 (.bin .lss .val (.t 5) (.t 7))]) [0, 3, 8]
 (.cond (.t 8) (.skip) (.exit 0))) [0, 3]
 (.seq (.block 1 (.seq (.seq (.reg true [mV 11 0, mV 12 3, oP 13 (.iaddr 2 (.t 11) (.t 12)), oF 14 0 13, oL 15 14, oP 16 (.len true (.t 15)), oP 17 (.bin .gtr .val (.t 16) (.c (.int .i64 (40)))), mV 18 17, oG 19 18 false (.mv (.t 0)), oG 20 18 false (.mv (.t 3)), oG 21 18 false (.iaddr 2 (.t 19) (.t 20)), oG 22 18 false (.faddr 1 (.t 21)), oG 23 18 false (.load false 1 (.t 22)), oG 24 18 false (.pcall (.f 32) [.t 23, .c (.int .i64 (-1000000000)), .c (.int .i64 (1000000000))]), oG 25 18 false (.un .not (.t 24)), oP 26 (.pick (.t 18) (.c (.bool true)) (.t 25)), mV 27 26, oG 28 27 false (.mv (.t 3)), oG 29 27 false (.bin .gtr .val (.t 28) (.c (.int .i64 (0)))), oG 30 27 false (.mv (.t 29)), oG 31 30 true (.mv (.t 0)), oG 32 30 true (.mv (.t 3)), oG 33 30 true (.bin .sub .val (.t 32) (.c (.int .i64 (1)))), oG 34 30 true (.iaddr 2 (.t 31) (.t 33)), oG 35 30 true (.load true 2 (.t 34)), oG 36 30 true (.mv (.t 0)), oG 37 30 true (.mv (.t 3)), oG 38 30 true (.iaddr 2 (.t 36) (.t 37)), oG 39 30 true (.load true 2 (.t 38)), oG 40 30 true (.pcall (.f 84) [.t 35, .t 39]), oG 41 30 true (.un .not (.t 40)), oG 42 27 false (.pick (.t 30) (.t 41) (.c (.bool false))), oP 43 (.pick (.t 27) (.c (.bool true)) (.t 42))]) [0, 3, 43]
 (.cond (.t 43) (.seq (.reg false [oP 2 (.mv (.c (.bool false)))]) [2]
 (.ret)) (.skip))) [0, 3]
 (.seq (.reg false [oP 4 (.mv (.c (.int .i64 (0))))]) [0, 3, 4]
 (.block 2 (.loop [0, 3, 4] f58l0))))) [0, 3]
 (.reg false [mV 9 3, oP 10 (.bin .add .val (.t 9) (.c (.int .i64 (1)))), mV 3 10])))
def f58 : AFunc := { np := 1, nt := 63, res := [.tmp 2], own := false, body := (.seq (.reg false [oP 2 (.mv (.c (.bool false)))]) [0]
 (.seq (.seq (.reg false [oP 3 (.mv (.c (.int .i64 (0))))]) [0, 3]
 (.block 0 (.loop [0, 3] f58l1))) [0]
 (.seq (.reg false [mV 60 0, oP 61 (.len false (.t 60)), oP 62 (.bin .leq .val (.t 61) (.c (.int .i64 (16)))), mV 2 62]) [2]
 (.ret)))) }
/- spec.FieldsOk -/
def f59l0 : ACode := (.seq (.seq (.reg false [mV 4 3, mV 5 0, oP 6 (.len false (.t 5)), oP 7 (.bin .lss .val (.t 4) (.t 6))]) [0, 3, 7]
 (.cond (.t 7) (.skip) (.exit 0))) [0, 3]
 (.seq (.block 1 (.seq (.reg true [mV 10 0, mV 11 3, oP 12 (.iaddr 2 (.t 10) (.t 11)), oF 13 0 12, oL 14 13, oP 15 (.len true (.t 14)), oP 16 (.bin .gtr .val (.t 15) (.c (.int .i64 (40)))), mV 17 16, oG 18 17 false (.mv (.t 0)), oG 19 17 false (.mv (.t 3)), oG 20 17 false (.iaddr 2 (.t 18) (.t 19)), oG 21 17 false (.faddr 1 (.t 20)), oG 22 17 false (.load false 1 (.t 21)), oG 23 17 false (.len true (.t 22)), oG 24 17 false (.bin .gtr .val (.t 23) (.c (.int .i64 (40)))), oP 25 (.pick (.t 17) (.c (.bool true)) (.t 24)), mV 26 25, oG 27 26 false (.mv (.t 3)), oG 28 26 false (.bin .gtr .val (.t 27) (.c (.int .i64 (0)))), oG 29 26 false (.mv (.t 28)), oG 30 29 true (.mv (.t 0)), oG 31 29 true (.mv (.t 3)), oG 32 29 true (.bin .sub .val (.t 31) (.c (.int .i64 (1)))), oG 33 29 true (.iaddr 2 (.t 30) (.t 32)), oG 34 29 true (.faddr 0 (.t 33)), oG 35 29 true (.load false 1 (.t 34)), oG 36 29 true (.mv (.t 0)), oG 37 29 true (.mv (.t 3)), oG 38 29 true (.iaddr 2 (.t 36) (.t 37)), oG 39 29 true (.faddr 0 (.t 38)), oG 40 29 true (.load false 1 (.t 39)), oG 41 29 true (.bin .geq .val (.t 35) (.t 40)), oG 42 26 false (.pick (.t 29) (.t 41) (.c (.bool false))), oP 43 (.pick (.t 26) (.c (.bool true)) (.t 42))]) [0, 3, 43]
 (.cond (.t 43) (.seq (.reg false [oP 2 (.mv (.c (.bool false)))]) [2]
 (.ret)) (.skip)))) [0, 3]
 (.reg false [mV 8 3, oP 9 (.bin .add .val (.t 8) (.c (.int .i64 (1)))), mV 3 9])))
def f59 : AFunc := { np := 1, nt := 47, res := [.tmp 2], own := false, body := (.seq (.reg false [oP 2 (.mv (.c (.bool false)))]) [0]
 (.seq (.seq (.reg false [oP 3 (.mv (.c (.int .i64 (0))))]) [0, 3]
 (.block 0 (.loop [0, 3] f59l0))) [0]
 (.seq (.reg false [mV 44 0, oP 45 (.len false (.t 44)), oP 46 (.bin .leq .val (.t 45) (.c (.int .i64 (16)))), mV 2 46]) [2]
 (.ret)))) }
/- impl.copied -/
def f60 : AFunc := { np := 1, nt := 6, res := [.tmp 2], own := true, body := (.seq (.reg false [oP 2 (.mv (.nil 1))]) [0]
 (.seq (.reg false [oP 3 (.lit true 1 []), mV 4 0, oP 5 (.append 1 16 (.t 3) (.t 4)), mV 2 5]) [2]
 (.ret))) }
/- impl.copiedScores -/
def f61 : AFunc := { np := 1, nt := 6, res := [.tmp 2], own := true, body := (.seq (.reg false [oP 2 (.mv (.nil 2))]) [0]
 (.seq (.reg false [oP 3 (.lit true 2 []), mV 4 0, oP 5 (.append 2 24 (.t 3) (.t 4)), mV 2 5]) [2]
 (.ret))) }
/- impl.copiedPairs -/
def f62 : AFunc := { np := 1, nt := 6, res := [.tmp 2], own := true, body := (.seq (.reg false [oP 2 (.mv (.nil 2))]) [0]
 (.seq (.reg false [oP 3 (.lit true 2 []), mV 4 0, oP 5 (.append 2 32 (.t 3) (.t 4)), mV 2 5]) [2]
 (.ret))) }
/- spec.l4Entry -/
def f63 : AFunc := { np := 1, nt := 18, res := [.cell 2 true 7], own := false, body := (.seq (.reg false [oP 1 (.box (.t 0)), oP 2 (.alloc (.agg [.d (.str []), .d (.int .i64 (0)), .d (.int .i64 (0)), .d (.str []), .nils 1, .nils 2, .nils 2]))]) [1, 2]
 (.seq (.reg false [oF 3 4 1, oL 4 3, oP 5 (.pcall (.f 85) [.t 4]), oF 6 4 1, oN (.store 1 (.t 6) (.t 5))]) [1, 2]
 (.seq (.reg false [oP 7 (.lit true 2 []), oF 8 5 1, oL 9 8, oP 10 (.append 2 24 (.t 7) (.t 9)), oF 11 5 1, oN (.store 1 (.t 11) (.t 10))]) [1, 2]
 (.seq (.reg false [oP 12 (.lit true 2 []), oF 13 6 1, oL 14 13, oP 15 (.append 2 32 (.t 12) (.t 14)), oF 16 6 1, oN (.store 1 (.t 16) (.t 15))]) [1, 2]
 (.seq (.reg false [oP 17 (.load true 7 (.t 1)), oN (.store 7 (.t 2) (.t 17))]) [2]
 (.ret)))))) }
/- impl.keyOk -/
def f64 : AFunc := { np := 1, nt := 6, res := [.tmp 2], own := false, body := (.seq (.reg false [oP 2 (.mv (.c (.bool false)))]) [0]
 (.seq (.reg false [mV 3 0, oP 4 (.len true (.t 3)), oP 5 (.pcall (.f 40) [.t 4, .c (.int .i64 (1)), .c (.int .i64 (12))]), mV 2 5]) [2]
 (.ret))) }
/- impl.listOk -/
def f65 : AFunc := { np := 1, nt := 5, res := [.tmp 2], own := false, body := (.seq (.reg false [oP 2 (.mv (.c (.bool false)))]) [0]
 (.seq (.reg false [mV 3 0, oP 4 (.pcall (.f 86) [.t 3, .c (.int .i64 (16))]), mV 2 4]) [2]
 (.ret))) }
/- impl.SetOk -/
def f66l0 : ACode := (.seq (.seq (.reg false [mV 4 3, mV 5 0, oP 6 (.len false (.t 5)), oP 7 (.bin .lss .val (.t 4) (.t 6))]) [0, 3, 7]
 (.cond (.t 7) (.skip) (.exit 0))) [0, 3]
 (.seq (.block 1 (.seq (.reg true [mV 10 0, mV 11 3, oP 12 (.bin .sub .val (.t 11) (.c (.int .i64 (1)))), oP 13 (.iaddr 1 (.t 10) (.t 12)), oL 14 13, mV 15 0, mV 16 3, oP 17 (.iaddr 1 (.t 15) (.t 16)), oL 18 17, oP 19 (.bin .geq .val (.t 14) (.t 18))]) [0, 3, 19]
 (.cond (.t 19) (.seq (.reg false [oP 2 (.mv (.c (.bool false)))]) [2]
 (.ret)) (.skip)))) [0, 3]
 (.reg false [mV 8 3, oP 9 (.bin .add .val (.t 8) (.c (.int .i64 (1)))), mV 3 9])))
def f66 : AFunc := { np := 1, nt := 22, res := [.tmp 2], own := false, body := (.seq (.reg false [oP 2 (.mv (.c (.bool false)))]) [0]
 (.seq (.seq (.reg false [oP 3 (.mv (.c (.int .i64 (1))))]) [0, 3]
 (.block 0 (.loop [0, 3] f66l0))) [0]
 (.seq (.reg false [mV 20 0, oP 21 (.pcall (.f 65) [.t 20]), mV 2 21]) [2]
 (.ret)))) }
/- impl.ScoresOk -/
def f67l0 : ACode := (.seq (.reg false [oP 8 (.bin .lss .val (.t 7) (.t 6))]) [0, 5, 6, 7, 8]
 (.seq (.cond (.t 8) (.skip) (.exit 0)) [0, 5, 6, 7]
 (.seq (.block 1 (.seq (.reg false [mV 9 7, oP 10 (.iaddr 2 (.t 5) (.t 7)), oP 11 (.load true 2 (.t 10)), oP 4 (.alloc (.d (.agg [(.str []), (.int .i64 (0))]))), mV 3 9, oN (.store 2 (.t 4) (.t 11))]) [0, 3, 4, 5, 6, 7]
 (.seq (.reg true [oF 12 0 4, oL 13 12, oP 14 (.len true (.t 13)), oP 15 (.bin .gtr .val (.t 14) (.c (.int .i64 (40)))), mV 16 15, oG 17 16 false (.faddr 1 (.t 4)), oG 18 16 false (.load false 1 (.t 17)), oG 19 16 false (.pcall (.f 87) [.t 18]), oG 20 16 false (.un .not (.t 19)), oP 21 (.pick (.t 16) (.c (.bool true)) (.t 20)), mV 22 21, oG 23 22 false (.mv (.t 3)), oG 24 22 false (.bin .gtr .val (.t 23) (.c (.int .i64 (0)))), oG 25 22 false (.mv (.t 24)), oG 26 25 true (.mv (.t 0)), oG 27 25 true (.mv (.t 3)), oG 28 25 true (.bin .sub .val (.t 27) (.c (.int .i64 (1)))), oG 29 25 true (.iaddr 2 (.t 26) (.t 28)), oG 30 25 true (.load true 2 (.t 29)), oG 31 25 true (.load true 2 (.t 4)), oG 32 25 true (.pcall (.f 88) [.t 30, .t 31]), oG 33 25 true (.bin .geq .val (.t 32) (.c (.int .i64 (0)))), oG 34 22 false (.pick (.t 25) (.t 33) (.c (.bool false))), oP 35 (.pick (.t 22) (.c (.bool true)) (.t 34)), mV 36 35, oG 37 36 false (.mv (.t 0)), oG 38 36 false (.faddr 0 (.t 4)), oG 39 36 false (.load false 1 (.t 38)), oG 40 36 false (.pcall (.f 89) [.t 37, .t 39]), oG 41 36 false (.mv (.t 3)), oG 42 36 false (.bin .neq .val (.t 40) (.t 41)), oP 43 (.pick (.t 36) (.c (.bool true)) (.t 42))]) [0, 5, 6, 7, 43]
 (.cond (.t 43) (.seq (.reg false [oP 2 (.mv (.c (.bool false)))]) [2]
 (.ret)) (.skip))))) [0, 5, 6, 7]
 (.reg false [oP 44 (.bin .add .val (.t 7) (.c (.int .i64 (1)))), mV 7 44]))))
def f67 : AFunc := { np := 1, nt := 48, res := [.tmp 2], own := false, body := (.seq (.reg false [oP 2 (.mv (.c (.bool false)))]) [0]
 (.seq (.seq (.reg false [mV 5 0, oP 6 (.len false (.t 5)), oP 7 (.mv (.c (.int .i64 (0))))]) [0, 5, 6, 7]
 (.block 0 (.loop [0, 5, 6, 7] f67l0))) [0]
 (.seq (.reg false [mV 45 0, oP 46 (.len false (.t 45)), oP 47 (.bin .leq .val (.t 46) (.c (.int .i64 (16)))), mV 2 47]) [2]
 (.ret)))) }
/- impl.FieldsOk -/
def f68l0 : ACode := (.seq (.reg false [oP 8 (.bin .lss .val (.t 7) (.t 6))]) [0, 5, 6, 7, 8]
 (.seq (.cond (.t 8) (.skip) (.exit 0)) [0, 5, 6, 7]
 (.seq (.block 1 (.seq (.reg false [mV 9 7, oP 10 (.iaddr 2 (.t 5) (.t 7)), oP 11 (.load true 2 (.t 10)), oP 4 (.alloc (.d (.agg [(.str []), (.str [])]))), mV 3 9, oN (.store 2 (.t 4) (.t 11))]) [0, 3, 4, 5, 6, 7]
 (.seq (.reg true [oF 12 0 4, oL 13 12, oP 14 (.len true (.t 13)), oP 15 (.bin .gtr .val (.t 14) (.c (.int .i64 (40)))), mV 16 15, oG 17 16 false (.faddr 1 (.t 4)), oG 18 16 false (.load false 1 (.t 17)), oG 19 16 false (.len true (.t 18)), oG 20 16 false (.bin .gtr .val (.t 19) (.c (.int .i64 (40)))), oP 21 (.pick (.t 16) (.c (.bool true)) (.t 20)), mV 22 21, oG 23 22 false (.mv (.t 3)), oG 24 22 false (.bin .gtr .val (.t 23) (.c (.int .i64 (0)))), oG 25 22 false (.mv (.t 24)), oG 26 25 true (.mv (.t 0)), oG 27 25 true (.mv (.t 3)), oG 28 25 true (.bin .sub .val (.t 27) (.c (.int .i64 (1)))), oG 29 25 true (.iaddr 2 (.t 26) (.t 28)), oG 30 25 true (.faddr 0 (.t 29)), oG 31 25 true (.load false 1 (.t 30)), oG 32 25 true (.faddr 0 (.t 4)), oG 33 25 true (.load false 1 (.t 32)), oG 34 25 true (.bin .geq .val (.t 31) (.t 33)), oG 35 22 false (.pick (.t 25) (.t 34) (.c (.bool false))), oP 36 (.pick (.t 22) (.c (.bool true)) (.t 35))]) [0, 5, 6, 7, 36]
 (.cond (.t 36) (.seq (.reg false [oP 2 (.mv (.c (.bool false)))]) [2]
 (.ret)) (.skip))))) [0, 5, 6, 7]
 (.reg false [oP 37 (.bin .add .val (.t 7) (.c (.int .i64 (1)))), mV 7 37]))))
def f68 : AFunc := { np := 1, nt := 41, res := [.tmp 2], own := false, body := (.seq (.reg false [oP 2 (.mv (.c (.bool false)))]) [0]
 (.seq (.seq (.reg false [mV 5 0, oP 6 (.len false (.t 5)), oP 7 (.mv (.c (.int .i64 (0))))]) [0, 5, 6, 7]
 (.block 0 (.loop [0, 5, 6, 7] f68l0))) [0]
 (.seq (.reg false [mV 38 0, oP 39 (.len false (.t 38)), oP 40 (.bin .leq .val (.t 39) (.c (.int .i64 (16)))), mV 2 40]) [2]
 (.ret)))) }
/- spec.l11Key -/
def f69 : AFunc := { np := 1, nt := 6, res := [.tmp 2], own := false, body := (.seq (.reg false [oP 2 (.mv (.c (.str [])))]) [0]
 (.seq (.reg false [mV 3 0, oP 4 (.lit false 1 [.c (.str [107]), .c (.str [108]), .c (.str [115]), .c (.str [122]), .c (.str [104]), .c (.str [107, 50]), .c (.str [108])]), oP 5 (.call (.f 29) [(false, .t 3), (false, .t 4)] false), mV 2 5]) [2]
 (.ret))) }
/- cmp.isNaN[string] -/
def f74 : AFunc := { np := 1, nt := 6, res := [.tmp 2], own := false, body := (.seq (.reg false [oP 2 (.mv (.c (.bool false)))]) [0]
 (.seq (.reg false [mV 3 0, mV 4 0, oP 5 (.bin .neq .val (.t 3) (.t 4)), mV 2 5]) [2]
 (.ret))) }
/- spec.l11Text -/
def f75 : AFunc := { np := 1, nt := 7, res := [.tmp 2], own := false, body := (.seq (.reg false [oP 2 (.mv (.c (.str [])))]) [0]
 (.seq (.reg false [mV 3 0, oP 4 (.pcall (.f 100) [.c (.str [120]), .c (.int .i64 (40))]), oP 5 (.lit false 1 [.c (.str []), .c (.str [97]), .c (.str [98]), .c (.str [99]), .c (.str [53]), .c (.str [45, 51]), .c (.str [104, 101, 108, 108, 111]), .c (.str [13, 10]), .c (.str [255]), .t 4, .c (.str [57, 57, 57, 57, 57, 57, 57, 57, 57])]), oP 6 (.call (.f 29) [(false, .t 3), (false, .t 5)] false), mV 2 6]) [2]
 (.ret))) }
/- spec.l4Empty -/
def f80 : AFunc := { np := 1, nt := 25, res := [.tmp 2], own := false, body := (.seq (.reg false [oP 1 (.box (.t 0)), oP 2 (.mv (.c (.bool false)))]) [1]
 (.seq (.reg false [oF 3 2 1, oL 4 3, oP 5 (.bin .neq .val (.t 4) (.c (.int .i64 (1)))), mV 6 5, oG 7 6 true (.faddr 3 (.t 1)), oG 8 6 true (.load false 1 (.t 7)), oG 9 6 true (.bin .eql .val (.t 8) (.c (.str []))), oP 10 (.pick (.t 6) (.t 9) (.c (.bool false))), mV 11 10, oG 12 11 true (.faddr 4 (.t 1)), oG 13 11 true (.load false 1 (.t 12)), oG 14 11 true (.len false (.t 13)), oG 15 11 true (.faddr 5 (.t 1)), oG 16 11 true (.load false 1 (.t 15)), oG 17 11 true (.len false (.t 16)), oG 18 11 true (.bin .add .val (.t 14) (.t 17)), oG 19 11 true (.faddr 6 (.t 1)), oG 20 11 true (.load false 1 (.t 19)), oG 21 11 true (.len false (.t 20)), oG 22 11 true (.bin .add .val (.t 18) (.t 21)), oG 23 11 true (.bin .eql .val (.t 22) (.c (.int .i64 (0)))), oP 24 (.pick (.t 11) (.t 23) (.c (.bool false))), mV 2 24]) [2]
 (.ret))) }
/- spec.l11Order -/
def f81 : AFunc := { np := 1, nt := 157, res := [.tmp 2], own := true, body := (.seq (.reg false [oP 2 (.mv (.nil 1))]) [0]
 (.seq (.reg false [mV 5 0, oP 6 (.call (.f 69) [(false, .t 5)] false), mV 3 6]) [0, 3]
 (.seq (.reg false [mV 7 0, oP 8 (.call (.f 75) [(false, .t 7)] false), mV 4 8]) [0, 3, 4]
 (.seq (.seq (.reg false [mV 9 0, oP 10 (.call (.f 54) [(false, .t 9), (false, .c (.int .i64 (12)))] false)]) [0, 3, 4, 10]
 (.block 0 (.seq (.reg false [oP 12 (.bin .eql .val (.t 10) (.c (.int .i64 (0)))), mV 11 12]) [0, 3, 4, 10, 11]
 (.cond (.t 11) (.seq (.reg false [mV 13 0, oP 14 (.lit false 1 [.c (.str [71, 69, 84]), .c (.str [83, 84, 82, 76, 69, 78]), .c (.str [73, 78, 67, 82]), .c (.str [76, 80, 79, 80]), .c (.str [82, 80, 79, 80]), .c (.str [76, 76, 69, 78]), .c (.str [83, 77, 69, 77, 66, 69, 82, 83]), .c (.str [83, 67, 65, 82, 68]), .c (.str [90, 67, 65, 82, 68]), .c (.str [72, 71, 69, 84, 65, 76, 76]), .c (.str [72, 76, 69, 78]), .c (.str [84, 89, 80, 69]), .c (.str [84, 84, 76]), .c (.str [80, 69, 82, 83, 73, 83, 84])]), oP 15 (.call (.f 29) [(false, .t 13), (false, .t 14)] false), mV 16 3, oP 17 (.lit true 1 [.t 15, .t 16]), mV 2 17]) [2]
 (.ret)) (.seq (.reg false [oP 19 (.bin .eql .val (.t 10) (.c (.int .i64 (1)))), mV 18 19]) [0, 3, 4, 10, 18]
 (.cond (.t 18) (.seq (.reg false [mV 20 0, oP 21 (.lit false 1 [.c (.str [107]), .c (.str [107, 50])]), oP 22 (.call (.f 29) [(false, .t 20), (false, .t 21)] false), mV 23 4, oP 24 (.lit true 1 [.c (.str [83, 69, 84]), .t 22, .t 23]), mV 2 24]) [2]
 (.ret)) (.seq (.reg false [oP 26 (.bin .eql .val (.t 10) (.c (.int .i64 (2)))), mV 25 26]) [0, 3, 4, 10, 25]
 (.cond (.t 25) (.seq (.reg false [mV 27 0, oP 28 (.lit false 1 [.c (.str [65, 80, 80, 69, 78, 68]), .c (.str [73, 78, 67, 82, 66, 89])]), oP 29 (.call (.f 29) [(false, .t 27), (false, .t 28)] false), mV 30 0, oP 31 (.lit false 1 [.c (.str [107]), .c (.str [107, 50])]), oP 32 (.call (.f 29) [(false, .t 30), (false, .t 31)] false), mV 33 0, mV 34 4, mV 35 0, oP 36 (.call (.f 106) [(false, .t 35)] false), oP 37 (.lit false 1 [.t 34, .t 36]), oP 38 (.call (.f 29) [(false, .t 33), (false, .t 37)] false), oP 39 (.lit true 1 [.t 29, .t 32, .t 38]), mV 2 39]) [2]
 (.ret)) (.seq (.reg false [oP 41 (.bin .eql .val (.t 10) (.c (.int .i64 (3)))), mV 40 41]) [0, 3, 4, 10, 40]
 (.cond (.t 40) (.seq (.reg false [mV 42 0, oP 43 (.lit false 1 [.c (.str [76, 80, 85, 83, 72]), .c (.str [82, 80, 85, 83, 72])]), oP 44 (.call (.f 29) [(false, .t 42), (false, .t 43)] false), mV 45 0, oP 46 (.lit false 1 [.c (.str [108]), .c (.str [108]), .c (.str [107])]), oP 47 (.call (.f 29) [(false, .t 45), (false, .t 46)] false), mV 48 4, oP 49 (.lit true 1 [.t 44, .t 47, .t 48]), mV 50 0, oP 51 (.call (.f 101) [(false, .t 50), (false, .c (.int .i64 (3)))] false), oP 52 (.append 1 16 (.t 49) (.t 51)), mV 2 52]) [2]
 (.ret)) (.seq (.reg false [oP 54 (.bin .eql .val (.t 10) (.c (.int .i64 (4)))), mV 53 54]) [0, 3, 4, 10, 53]
 (.cond (.t 53) (.seq (.reg false [mV 55 0, oP 56 (.lit false 1 [.c (.str [76, 82, 65, 78, 71, 69]), .c (.str [76, 84, 82, 73, 77]), .c (.str [76, 83, 69, 84]), .c (.str [76, 82, 69, 77]), .c (.str [71, 69, 84, 82, 65, 78, 71, 69])]), oP 57 (.call (.f 29) [(false, .t 55), (false, .t 56)] false), mV 58 0, oP 59 (.lit false 1 [.c (.str [108]), .c (.str [108]), .c (.str [107])]), oP 60 (.call (.f 29) [(false, .t 58), (false, .t 59)] false), mV 61 0, oP 62 (.call (.f 106) [(false, .t 61)] false), mV 63 0, mV 64 0, oP 65 (.call (.f 106) [(false, .t 64)] false), mV 66 4, oP 67 (.lit false 1 [.t 65, .t 66]), oP 68 (.call (.f 29) [(false, .t 63), (false, .t 67)] false), oP 69 (.lit true 1 [.t 57, .t 60, .t 62, .t 68]), mV 2 69]) [2]
 (.ret)) (.seq (.reg false [oP 71 (.bin .eql .val (.t 10) (.c (.int .i64 (5)))), mV 70 71]) [0, 3, 4, 10, 70]
 (.cond (.t 70) (.seq (.reg false [mV 72 0, oP 73 (.lit false 1 [.c (.str [83, 65, 68, 68]), .c (.str [83, 65, 68, 68]), .c (.str [83, 82, 69, 77])]), oP 74 (.call (.f 29) [(false, .t 72), (false, .t 73)] false), mV 75 0, oP 76 (.lit false 1 [.c (.str [115]), .c (.str [115, 50])]), oP 77 (.call (.f 29) [(false, .t 75), (false, .t 76)] false), mV 78 4, oP 79 (.lit true 1 [.t 74, .t 77, .t 78]), mV 80 0, oP 81 (.call (.f 101) [(false, .t 80), (false, .c (.int .i64 (2)))] false), oP 82 (.append 1 16 (.t 79) (.t 81)), mV 2 82]) [2]
 (.ret)) (.seq (.reg false [oP 84 (.bin .eql .val (.t 10) (.c (.int .i64 (6)))), mV 83 84]) [0, 3, 4, 10, 83]
 (.cond (.t 83) (.seq (.reg false [mV 85 0, oP 86 (.lit false 1 [.c (.str [83, 73, 83, 77, 69, 77, 66, 69, 82]), .c (.str [83, 73, 78, 84, 69, 82]), .c (.str [83, 85, 78, 73, 79, 78]), .c (.str [83, 68, 73, 70, 70])]), oP 87 (.call (.f 29) [(false, .t 85), (false, .t 86)] false), mV 88 0, oP 89 (.lit false 1 [.c (.str [115]), .c (.str [115, 50])]), oP 90 (.call (.f 29) [(false, .t 88), (false, .t 89)] false), mV 91 0, mV 92 4, oP 93 (.lit false 1 [.c (.str [115]), .c (.str [115, 50]), .t 92]), oP 94 (.call (.f 29) [(false, .t 91), (false, .t 93)] false), oP 95 (.lit true 1 [.t 87, .t 90, .t 94]), mV 2 95]) [2]
 (.ret)) (.seq (.reg false [oP 97 (.bin .eql .val (.t 10) (.c (.int .i64 (7)))), mV 96 97]) [0, 3, 4, 10, 96]
 (.cond (.t 96) (.seq (.reg false [mV 98 0, oP 99 (.lit false 1 [.c (.str [90, 65, 68, 68]), .c (.str [90, 65, 68, 68]), .c (.str [90, 73, 78, 67, 82, 66, 89]), .c (.str [90, 82, 65, 78, 71, 69]), .c (.str [90, 82, 65, 78, 71, 69, 66, 89, 83, 67, 79, 82, 69])]), oP 100 (.call (.f 29) [(false, .t 98), (false, .t 99)] false), mV 101 0, oP 102 (.call (.f 106) [(false, .t 101)] false), mV 103 0, mV 104 4, mV 105 0, oP 106 (.call (.f 106) [(false, .t 105)] false), oP 107 (.lit false 1 [.t 104, .t 106]), oP 108 (.call (.f 29) [(false, .t 103), (false, .t 107)] false), oP 109 (.lit true 1 [.t 100, .c (.str [122]), .t 102, .t 108]), mV 2 109]) [2]
 (.ret)) (.seq (.reg false [oP 111 (.bin .eql .val (.t 10) (.c (.int .i64 (8)))), mV 110 111]) [0, 3, 4, 10, 110]
 (.cond (.t 110) (.seq (.reg false [mV 112 0, oP 113 (.lit false 1 [.c (.str [90, 82, 69, 77]), .c (.str [90, 83, 67, 79, 82, 69]), .c (.str [90, 82, 65, 78, 75]), .c (.str [72, 71, 69, 84]), .c (.str [72, 68, 69, 76])]), oP 114 (.call (.f 29) [(false, .t 112), (false, .t 113)] false), mV 115 0, oP 116 (.lit false 1 [.c (.str [122]), .c (.str [104])]), oP 117 (.call (.f 29) [(false, .t 115), (false, .t 116)] false), mV 118 4, oP 119 (.lit true 1 [.t 114, .t 117, .t 118]), mV 2 119]) [2]
 (.ret)) (.seq (.reg false [oP 121 (.bin .eql .val (.t 10) (.c (.int .i64 (9)))), mV 120 121]) [0, 3, 4, 10, 120]
 (.cond (.t 120) (.seq (.reg false [mV 122 0, oP 123 (.lit false 1 [.c (.str [72, 83, 69, 84]), .c (.str [72, 83, 69, 84]), .c (.str [72, 73, 78, 67, 82, 66, 89])]), oP 124 (.call (.f 29) [(false, .t 122), (false, .t 123)] false), mV 125 0, mV 126 4, oP 127 (.lit false 1 [.c (.str [97]), .c (.str [98]), .t 126]), oP 128 (.call (.f 29) [(false, .t 125), (false, .t 127)] false), mV 129 0, mV 130 4, mV 131 0, oP 132 (.call (.f 106) [(false, .t 131)] false), oP 133 (.lit false 1 [.t 130, .t 132]), oP 134 (.call (.f 29) [(false, .t 129), (false, .t 133)] false), oP 135 (.lit true 1 [.t 124, .c (.str [104]), .t 128, .t 134]), mV 2 135]) [2]
 (.ret)) (.seq (.reg false [oP 137 (.bin .eql .val (.t 10) (.c (.int .i64 (10)))), mV 136 137]) [0, 3, 136]
 (.cond (.t 136) (.seq (.reg false [mV 138 0, oP 139 (.lit false 1 [.c (.str [69, 88, 80, 73, 82, 69]), .c (.str [69, 88, 80, 73, 82, 69, 65, 84]), .c (.str [82, 69, 78, 65, 77, 69])]), oP 140 (.call (.f 29) [(false, .t 138), (false, .t 139)] false), mV 141 3, mV 142 0, oP 143 (.lit false 1 [.c (.str [53]), .c (.str [49]), .c (.str [49, 48, 48]), .c (.str [107]), .c (.str [108]), .c (.str [107, 50]), .c (.str [45, 49]), .c (.str [49, 48, 48, 48, 48, 48, 49])]), oP 144 (.call (.f 29) [(false, .t 142), (false, .t 143)] false), oP 145 (.lit true 1 [.t 140, .t 141, .t 144]), mV 2 145]) [2]
 (.ret)) (.skip))))))))))))))))))))))))) [0, 3]
 (.seq (.reg false [mV 146 0, oP 147 (.lit false 1 [.c (.str [68, 69, 76]), .c (.str [69, 88, 73, 83, 84, 83]), .c (.str [75, 69, 89, 83]), .c (.str [68, 66, 83, 73, 90, 69]), .c (.str [70, 76, 85, 83, 72]), .c (.str [78, 79, 78, 69]), .c (.str [68, 69, 76])]), oP 148 (.call (.f 29) [(false, .t 146), (false, .t 147)] false), mV 149 0, mV 150 3, oP 151 (.lit false 1 [.t 150, .c (.str [42]), .c (.str [63]), .c (.str [107, 42]), .c (.str [])]), oP 152 (.call (.f 29) [(false, .t 149), (false, .t 151)] false), oP 153 (.lit true 1 [.t 148, .t 152]), mV 154 0, oP 155 (.call (.f 101) [(false, .t 154), (false, .c (.int .i64 (1)))] false), oP 156 (.append 1 16 (.t 153) (.t 155)), mV 2 156]) [2]
 (.ret)))))) }
/- spec.l5Do -/
def f82 : AFunc := { np := 2, nt := 77, res := [.cell 4 true 2, .cell 5 true 5], own := false, body := (.seq (.reg false [oP 2 (.box (.t 0)), oP 4 (.alloc (.agg [.d (.int .i64 (0)), .nils 7])), oP 5 (.alloc (.agg [.d (.int .i64 (0)), .d (.int .i64 (0)), .d (.str []), .nils 1, .nils 5]))]) [1, 2, 4, 5]
 (.seq (.reg false [oP 10 (.load true 2 (.t 2)), mV 11 1, oP 12 (.pcall (.f 107) [.t 10, .t 11]), mV 6 12]) [1, 2, 4, 5, 6]
 (.seq (.seq (.reg false [mV 13 6, oP 14 (.bin .neq .val (.t 13) (.c (.str [])))]) [1, 2, 4, 5, 6, 14]
 (.cond (.t 14) (.seq (.reg true [oP 15 (.load true 2 (.t 2)), mV 16 6, oP 17 (.pcall (.f 108) [.t 16]), oN (.store 2 (.t 4) (.t 15)), oN (.store 5 (.t 5) (.t 17))]) [4, 5]
 (.ret)) (.skip))) [1, 2, 4, 5]
 (.seq (.reg false [mV 19 1, oP 20 (.iaddr 1 (.t 19) (.c (.int .i64 (0)))), oL 21 20, oP 22 (.pcall (.f 109) [.t 21]), mV 18 22, oP 23 (.extract (.t 18) 0), oP 24 (.extract (.t 18) 1), oP 25 (.extract (.t 18) 2), mV 7 23, mV 8 24, mV 9 25]) [1, 2, 4, 5, 9]
 (.seq (.block 0 (.seq (.reg false [mV 27 9, oP 28 (.bin .eql .val (.t 27) (.c (.int .i64 (1)))), mV 29 28, oG 30 29 false (.mv (.t 1)), oG 31 29 false (.iaddr 1 (.t 30) (.c (.int .i64 (0)))), oG 32 29 false (.load false 1 (.t 31)), oG 33 29 false (.bin .eql .val (.t 32) (.c (.str [83, 69, 84]))), oP 34 (.pick (.t 29) (.c (.bool true)) (.t 33)), mV 26 34]) [1, 2, 4, 5, 9, 26]
 (.cond (.t 26) (.seq (.reg false [oP 35 (.load true 2 (.t 2)), mV 36 1, oP 37 (.pcall (.f 110) [.t 35, .t 36]), oP 38 (.extract (.t 37) 0), oP 39 (.extract (.t 37) 1), oN (.store 2 (.t 4) (.t 38)), oN (.store 5 (.t 5) (.t 39))]) [4, 5]
 (.ret)) (.seq (.reg false [mV 41 9, oP 42 (.bin .eql .val (.t 41) (.c (.int .i64 (2)))), mV 40 42]) [1, 2, 4, 5, 9, 40]
 (.cond (.t 40) (.seq (.reg false [oP 43 (.load true 2 (.t 2)), mV 44 1, oP 45 (.pcall (.f 111) [.t 43, .t 44]), oP 46 (.extract (.t 45) 0), oP 47 (.extract (.t 45) 1), oN (.store 2 (.t 4) (.t 46)), oN (.store 5 (.t 5) (.t 47))]) [4, 5]
 (.ret)) (.seq (.reg false [mV 49 9, oP 50 (.bin .eql .val (.t 49) (.c (.int .i64 (3)))), mV 48 50]) [1, 2, 4, 5, 9, 48]
 (.cond (.t 48) (.seq (.reg false [oP 51 (.load true 2 (.t 2)), mV 52 1, oP 53 (.pcall (.f 112) [.t 51, .t 52]), oP 54 (.extract (.t 53) 0), oP 55 (.extract (.t 53) 1), oN (.store 2 (.t 4) (.t 54)), oN (.store 5 (.t 5) (.t 55))]) [4, 5]
 (.ret)) (.seq (.reg false [mV 57 9, oP 58 (.bin .eql .val (.t 57) (.c (.int .i64 (4)))), mV 56 58]) [1, 2, 4, 5, 9, 56]
 (.cond (.t 56) (.seq (.reg false [oP 59 (.load true 2 (.t 2)), mV 60 1, oP 61 (.pcall (.f 113) [.t 59, .t 60]), oP 62 (.extract (.t 61) 0), oP 63 (.extract (.t 61) 1), oN (.store 2 (.t 4) (.t 62)), oN (.store 5 (.t 5) (.t 63))]) [4, 5]
 (.ret)) (.seq (.reg false [mV 65 9, oP 66 (.bin .eql .val (.t 65) (.c (.int .i64 (5)))), mV 64 66]) [1, 2, 4, 5, 64]
 (.cond (.t 64) (.seq (.reg false [oP 67 (.load true 2 (.t 2)), mV 68 1, oP 69 (.pcall (.f 114) [.t 67, .t 68]), oP 70 (.extract (.t 69) 0), oP 71 (.extract (.t 69) 1), oN (.store 2 (.t 4) (.t 70)), oN (.store 5 (.t 5) (.t 71))]) [4, 5]
 (.ret)) (.skip)))))))))))) [1, 2, 4, 5]
 (.seq (.reg false [oP 72 (.load true 2 (.t 2)), mV 73 1, oP 74 (.pcall (.f 115) [.t 72, .t 73]), oP 75 (.extract (.t 74) 0), oP 76 (.extract (.t 74) 1), oN (.store 2 (.t 4) (.t 75)), oN (.store 5 (.t 5) (.t 76))]) [4, 5]
 (.ret))))))) }
/- spec.l1Dec -/
def f83 : AFunc := { np := 1, nt := 28, res := [.tmp 2], own := false, body := (.seq (.reg false [oP 2 (.mv (.c (.str [])))]) [0]
 (.seq (.seq (.reg false [mV 3 0, oP 4 (.bin .lss .val (.t 3) (.c (.int .i64 (-9223372036854775807))))]) [0, 4]
 (.cond (.t 4) (.seq (.reg false [oP 2 (.mv (.c (.str [45, 57, 50, 50, 51, 51, 55, 50, 48, 51, 54, 56, 53, 52, 55, 55, 53, 56, 48, 56])))]) [2]
 (.ret)) (.skip))) [0]
 (.seq (.seq (.reg false [mV 5 0, oP 6 (.bin .lss .val (.t 5) (.c (.int .i64 (0))))]) [0, 6]
 (.cond (.t 6) (.seq (.reg false [mV 7 0, oP 8 (.un .neg (.t 7)), oP 9 (.pcall (.f 83) [.t 8]), oP 10 (.bin .add .val (.c (.str [45])) (.t 9)), mV 2 10]) [2]
 (.ret)) (.skip))) [0]
 (.seq (.seq (.reg false [mV 11 0, oP 12 (.bin .lss .val (.t 11) (.c (.int .i64 (10))))]) [0, 12]
 (.cond (.t 12) (.seq (.reg false [mV 13 0, oP 14 (.bin .add .val (.c (.int .i64 (48))) (.t 13)), oP 15 (.cvInt .u8 (.t 14)), oP 16 (.lit false 1 [.t 15]), oP 17 (.cvStr (.t 16)), mV 2 17]) [2]
 (.ret)) (.skip))) [0]
 (.seq (.reg true [mV 18 0, oP 19 (.bin .quo .val (.t 18) (.c (.int .i64 (10)))), oP 20 (.pcall (.f 83) [.t 19]), mV 21 0, oP 22 (.bin .rem .val (.t 21) (.c (.int .i64 (10)))), oP 23 (.bin .add .val (.c (.int .i64 (48))) (.t 22)), oP 24 (.cvInt .u8 (.t 23)), oP 25 (.lit false 1 [.t 24]), oP 26 (.cvStr (.t 25)), oP 27 (.bin .add .val (.t 20) (.t 26)), mV 2 27]) [2]
 (.ret)))))) }
/- spec.l3Ahead -/
def f84 : AFunc := { np := 2, nt := 24, res := [.tmp 4], own := false, body := (.seq (.reg false [oP 2 (.box (.t 0)), oP 3 (.box (.t 1)), oP 4 (.mv (.c (.bool false)))]) [2, 3]
 (.seq (.reg false [oF 5 1 2, oL 6 5, oF 7 1 3, oL 8 7, oP 9 (.bin .lss .val (.t 6) (.t 8)), mV 10 9, oG 11 10 false (.faddr 1 (.t 2)), oG 12 10 false (.load false 1 (.t 11)), oG 13 10 false (.faddr 1 (.t 3)), oG 14 10 false (.load false 1 (.t 13)), oG 15 10 false (.bin .eql .val (.t 12) (.t 14)), oG 16 10 false (.mv (.t 15)), oG 17 16 true (.faddr 0 (.t 2)), oG 18 16 true (.load false 1 (.t 17)), oG 19 16 true (.faddr 0 (.t 3)), oG 20 16 true (.load false 1 (.t 19)), oG 21 16 true (.bin .lss .val (.t 18) (.t 20)), oG 22 10 false (.pick (.t 16) (.t 21) (.c (.bool false))), oP 23 (.pick (.t 10) (.c (.bool true)) (.t 22)), mV 4 23]) [4]
 (.ret))) }
/- spec.l2Copy -/
def f85 : AFunc := { np := 1, nt := 6, res := [.tmp 2], own := true, body := (.seq (.reg false [oP 2 (.mv (.nil 1))]) [0]
 (.seq (.reg false [oP 3 (.lit true 1 []), mV 4 0, oP 5 (.append 1 16 (.t 3) (.t 4)), mV 2 5]) [2]
 (.ret))) }
/- impl.textsOk -/
def f86l0 : ACode := (.seq (.reg false [oP 10 (.bin .lss .val (.t 9) (.t 8))]) [0, 1, 7, 8, 9, 10]
 (.seq (.cond (.t 10) (.skip) (.exit 0)) [0, 1, 7, 8, 9]
 (.seq (.block 1 (.seq (.reg false [oP 11 (.iaddr 1 (.t 7) (.t 9)), oL 12 11, mV 6 12]) [0, 1, 6, 7, 8, 9]
 (.seq (.reg false [mV 13 6, oP 14 (.len true (.t 13)), oP 15 (.bin .gtr .val (.t 14) (.c (.int .i64 (40))))]) [0, 1, 7, 8, 9, 15]
 (.cond (.t 15) (.seq (.reg false [oP 4 (.mv (.c (.bool false)))]) [4]
 (.ret)) (.skip))))) [0, 1, 7, 8, 9]
 (.reg false [oP 16 (.bin .add .val (.t 9) (.c (.int .i64 (1)))), mV 9 16]))))
def f86 : AFunc := { np := 2, nt := 21, res := [.tmp 4], own := false, body := (.seq (.reg false [oP 4 (.mv (.c (.bool false)))]) [0, 1]
 (.seq (.seq (.reg false [mV 7 0, oP 8 (.len false (.t 7)), oP 9 (.mv (.c (.int .i64 (0))))]) [0, 1, 7, 8, 9]
 (.block 0 (.loop [0, 1, 7, 8, 9] f86l0))) [0, 1]
 (.seq (.reg false [mV 17 0, oP 18 (.len false (.t 17)), mV 19 1, oP 20 (.bin .leq .val (.t 18) (.t 19)), mV 4 20]) [4]
 (.ret)))) }
/- impl.position -/
def f87 : AFunc := { np := 1, nt := 5, res := [.tmp 2], own := false, body := (.seq (.reg false [oP 2 (.mv (.c (.bool false)))]) [0]
 (.seq (.reg false [mV 3 0, oP 4 (.pcall (.f 40) [.t 3, .c (.int .i64 (-1000000000)), .c (.int .i64 (1000000000))]), mV 2 4]) [2]
 (.ret))) }
/- impl.scoreOrder -/
def f88 : AFunc := { np := 2, nt := 17, res := [.tmp 4], own := false, body := (.seq (.reg false [oP 2 (.box (.t 0)), oP 3 (.box (.t 1)), oP 4 (.mv (.c (.int .i64 (0))))]) [2, 3]
 (.seq (.reg true [oF 5 1 2, oL 6 5, oF 7 1 3, oL 8 7, oP 9 (.pcall (.f 117) [.t 6, .t 8]), oF 10 0 2, oL 11 10, oF 12 0 3, oL 13 12, oP 14 (.pcall (.f 50) [.t 11, .t 13]), oP 15 (.lit false 1 [.t 9, .t 14]), oP 16 (.pcall (.f 116) [.t 15]), mV 4 16]) [4]
 (.ret))) }
/- impl.scoreAt -/
def f89 : AFunc := { np := 2, nt := 8, res := [.tmp 4], own := false, body := (.seq (.reg false [oP 3 (.box (.t 1)), oP 4 (.mv (.c (.int .i64 (0))))]) [0, 3]
 (.seq (.reg false [mV 5 0, oP 6 (.mkfn (.func 119) [.t 3]), oP 7 (.pcall (.f 118) [.t 5, .t 6]), mV 4 7]) [4]
 (.ret))) }
/- spec.l1Many -/
def f100l0 : ACode := (.seq (.seq (.reg false [mV 6 1, oP 7 (.bin .gtr .val (.t 6) (.c (.int .i64 (0))))]) [0, 1, 5, 7]
 (.cond (.t 7) (.skip) (.exit 0))) [0, 1, 5]
 (.block 1 (.seq (.seq (.reg false [mV 8 1, oP 9 (.bin .rem .val (.t 8) (.c (.int .i64 (2)))), oP 10 (.bin .eql .val (.t 9) (.c (.int .i64 (1))))]) [0, 1, 5, 10]
 (.cond (.t 10) (.reg false [mV 11 5, mV 12 0, oP 13 (.bin .add .val (.t 11) (.t 12)), mV 5 13]) (.skip))) [0, 1, 5]
 (.seq (.reg false [mV 14 0, mV 15 0, oP 16 (.bin .add .val (.t 14) (.t 15)), mV 0 16]) [0, 1, 5]
 (.reg false [mV 17 1, oP 18 (.bin .quo .val (.t 17) (.c (.int .i64 (2)))), mV 1 18])))))
def f100 : AFunc := { np := 2, nt := 20, res := [.tmp 4], own := false, body := (.seq (.reg false [oP 4 (.mv (.c (.str [])))]) [0, 1]
 (.seq (.reg false [oP 5 (.mv (.c (.str [])))]) [0, 1, 5]
 (.seq (.block 0 (.loop [0, 1, 5] f100l0)) [5]
 (.seq (.reg false [mV 19 5, mV 4 19]) [4]
 (.ret))))) }
/- spec.l11Texts -/
def f101l0 : ACode := (.seq (.seq (.reg false [mV 12 6, oP 13 (.bin .gtr .val (.t 12) (.c (.int .i64 (0))))]) [0, 5, 6, 13]
 (.cond (.t 13) (.skip) (.exit 0))) [0, 5, 6]
 (.seq (.block 1 (.reg false [mV 16 5, mV 17 0, oP 18 (.call (.f 75) [(false, .t 17)] false), oP 19 (.lit false 1 [.t 18]), oP 20 (.append 1 16 (.t 16) (.t 19)), mV 5 20])) [0, 5, 6]
 (.reg false [mV 14 6, oP 15 (.bin .sub .val (.t 14) (.c (.int .i64 (1)))), mV 6 15])))
def f101 : AFunc := { np := 2, nt := 22, res := [.tmp 4], own := true, body := (.seq (.reg false [oP 4 (.mv (.nil 1))]) [0, 1]
 (.seq (.reg false [oP 7 (.lit true 1 []), mV 5 7]) [0, 1, 5]
 (.seq (.seq (.reg false [mV 8 0, mV 9 1, oP 10 (.bin .add .val (.t 9) (.c (.int .i64 (1)))), oP 11 (.call (.f 54) [(false, .t 8), (false, .t 10)] false), mV 6 11]) [0, 5, 6]
 (.block 0 (.loop [0, 5, 6] f101l0))) [5]
 (.seq (.reg false [mV 21 5, mV 4 21]) [4]
 (.ret))))) }
/- spec.FieldsPut -/
def f105 : AFunc := { np := 2, nt := 50, res := [.tmp 4, .tmp 5, .tmp 6], own := false, body := (.seq (.reg false [oP 3 (.box (.t 1)), oP 4 (.mv (.nil 2)), oP 5 (.mv (.c (.bool false))), oP 6 (.mv (.c (.bool false)))]) [0, 3]
 (.seq (.seq (.reg false [mV 10 0, oP 11 (.pcall (.f 59) [.t 10]), oP 12 (.un .not (.t 11))]) [0, 3, 12]
 (.cond (.t 12) (.seq (.reg false [oP 13 (.lit false 2 []), mV 4 13, oP 5 (.mv (.c (.bool false))), oP 6 (.mv (.c (.bool false)))]) [4, 5, 6]
 (.ret)) (.skip))) [0, 3]
 (.seq (.reg false [mV 15 0, oF 16 0 3, oL 17 16, oP 18 (.pcall (.f 127) [.t 15, .t 17]), mV 14 18, oP 19 (.extract (.t 14) 0), oP 20 (.extract (.t 14) 1), mV 7 19, mV 8 20]) [0, 3, 7, 8]
 (.seq (.reg false [oP 21 (.lit true 2 []), mV 22 0, oP 23 (.append 2 32 (.t 21) (.t 22)), mV 9 23]) [0, 3, 7, 8, 9]
 (.seq (.seq (.reg false [mV 24 8]) [0, 3, 7, 8, 9, 24]
 (.cond (.t 24) (.reg false [mV 25 9, mV 26 7, oP 27 (.load true 2 (.t 3)), oP 28 (.iaddr 2 (.t 25) (.t 26)), oN (.store 2 (.t 28) (.t 27))]) (.regx [(true, mV 30 0), (true, mV 31 7), (true, oP 32 (.slice (some 2) (.t 30) none (some (.t 31)))), (true, oP 34 (.load true 2 (.t 3))), (true, oP 35 (.lit false 2 [.t 34])), (true, mV 37 0), (true, mV 38 7), (true, oP 39 (.slice (some 2) (.t 37) (some (.t 38)) none)), (true, oP 29 (.lit true 2 [])), (false, oP 32 (.slice (some 2) (.t 30) none (some (.t 31)))), (false, oP 34 (.load true 2 (.t 3))), (false, oP 39 (.slice (some 2) (.t 37) (some (.t 38)) none)), (true, oP 33 (.append 2 32 (.t 29) (.t 32))), (false, oP 34 (.load true 2 (.t 3))), (false, oP 39 (.slice (some 2) (.t 37) (some (.t 38)) none)), (true, oP 36 (.append 2 32 (.t 33) (.t 35))), (false, oP 39 (.slice (some 2) (.t 37) (some (.t 38)) none)), (true, oP 40 (.append 2 32 (.t 36) (.t 39))), (true, mV 9 40)]))) [0, 8, 9]
 (.seq (.seq (.reg false [mV 41 9, oP 42 (.pcall (.f 59) [.t 41]), oP 43 (.un .not (.t 42))]) [0, 8, 9, 43]
 (.cond (.t 43) (.seq (.reg false [oP 44 (.lit true 2 []), mV 45 0, oP 46 (.append 2 32 (.t 44) (.t 45)), mV 4 46, oP 5 (.mv (.c (.bool false))), oP 6 (.mv (.c (.bool false)))]) [4, 5, 6]
 (.ret)) (.skip))) [8, 9]
 (.seq (.reg false [mV 47 9, mV 48 8, oP 49 (.un .not (.t 48)), mV 4 47, mV 5 49, oP 6 (.mv (.c (.bool true)))]) [4, 5, 6]
 (.ret)))))))) }
/- spec.l11Int -/
def f106 : AFunc := { np := 1, nt := 6, res := [.tmp 2], own := false, body := (.seq (.reg false [oP 2 (.mv (.c (.str [])))]) [0]
 (.seq (.reg false [mV 3 0, oP 4 (.lit false 1 [.c (.str [48]), .c (.str [49]), .c (.str [45, 49]), .c (.str [50]), .c (.str [45, 50]), .c (.str [53]), .c (.str [49, 48, 48]), .c (.str [45, 49, 48, 48]), .c (.str [49, 48, 48, 48, 48, 48, 48, 48, 48, 48]), .c (.str [120])]), oP 5 (.call (.f 29) [(false, .t 3), (false, .t 4)] false), mV 2 5]) [2]
 (.ret))) }
/- spec.l5Ready -/
def f107l0 : ACode := (.trim [2, 7, 8, 9] (.seq (.seq (.reg false [mV 31 9, mV 32 8, oP 33 (.len false (.t 32)), oP 34 (.bin .lss .val (.t 31) (.t 33))]) [2, 7, 8, 9, 34]
 (.cond (.t 34) (.skip) (.exit 1))) [2, 7, 8, 9]
 (.seq (.block 2 (.seq (.seq (.reg false [mV 37 8, mV 38 9, oP 39 (.iaddr 1 (.t 37) (.t 38)), oL 40 39, oP 41 (.pcall (.f 55) [.t 40]), oP 42 (.un .not (.t 41))]) [2, 7, 8, 9, 42]
 (.cond (.t 42) (.seq (.reg false [oP 4 (.mv (.c (.str [107, 101, 121])))]) [4]
 (.ret)) (.skip))) [2, 7, 8, 9]
 (.seq (.reg true [oP 43 (.load true 2 (.t 2)), mV 44 8, mV 45 9, oP 46 (.iaddr 1 (.t 44) (.t 45)), oL 47 46, oP 48 (.pcall (.f 47) [.t 43, .t 47]), oP 10 (.alloc (.agg [.d (.str []), .d (.int .i64 (0)), .d (.int .i64 (0)), .d (.str []), .nils 1, .nils 2, .nils 2])), oN (.store 7 (.t 10) (.t 48))]) [2, 7, 8, 9, 10]
 (.seq (.reg false [mV 49 7, oP 50 (.bin .neq .val (.t 49) (.c (.int .i64 (0)))), mV 51 50, oG 52 51 true (.faddr 2 (.t 10)), oG 53 51 true (.load false 1 (.t 52)), oG 54 51 true (.bin .neq .val (.t 53) (.c (.int .i64 (0)))), oP 55 (.pick (.t 51) (.t 54) (.c (.bool false))), mV 56 55, oG 57 56 true (.faddr 2 (.t 10)), oG 58 56 true (.load false 1 (.t 57)), oG 59 56 true (.mv (.t 7)), oG 60 56 true (.bin .neq .val (.t 58) (.t 59)), oP 61 (.pick (.t 56) (.t 60) (.c (.bool false)))]) [2, 7, 8, 9, 61]
 (.cond (.t 61) (.seq (.reg false [oP 4 (.mv (.c (.str [107, 105, 110, 100])))]) [4]
 (.ret)) (.skip)))))) [2, 7, 8, 9]
 (.reg false [mV 35 9, oP 36 (.bin .add .val (.t 35) (.c (.int .i64 (1)))), mV 9 36]))))
def f107 : AFunc := { np := 2, nt := 62, res := [.tmp 4], own := false, body := (.seq (.reg false [oP 2 (.box (.t 0)), oP 4 (.mv (.c (.str [])))]) [1, 2]
 (.seq (.reg false [mV 12 1, oP 13 (.iaddr 1 (.t 12) (.c (.int .i64 (0)))), oL 14 13, oP 15 (.pcall (.f 109) [.t 14]), mV 11 15, oP 16 (.extract (.t 11) 0), oP 17 (.extract (.t 11) 1), oP 18 (.extract (.t 11) 2), mV 5 16, mV 6 17, mV 7 18]) [1, 2, 5, 6, 7]
 (.seq (.block 0 (.seq (.reg false [mV 20 5, oP 21 (.bin .eql .val (.t 20) (.c (.int .i64 (0)))), mV 19 21]) [1, 2, 5, 6, 7, 19]
 (.cond (.t 19) (.seq (.reg false [oP 4 (.mv (.c (.str [117, 110, 107, 110, 111, 119, 110])))]) [4]
 (.ret)) (.seq (.reg false [mV 23 1, oP 24 (.len false (.t 23)), mV 25 5, mV 26 6, oP 27 (.pcall (.f 32) [.t 24, .t 25, .t 26]), oP 28 (.un .not (.t 27)), mV 22 28]) [1, 2, 7, 22]
 (.cond (.t 22) (.seq (.reg false [oP 4 (.mv (.c (.str [119, 111, 114, 100, 115])))]) [4]
 (.ret)) (.skip)))))) [1, 2, 7]
 (.seq (.reg false [mV 29 1, oP 30 (.pcall (.f 128) [.t 29]), mV 8 30]) [2, 7, 8]
 (.seq (.seq (.reg false [oP 9 (.mv (.c (.int .i64 (0))))]) [2, 7, 8, 9]
 (.block 1 (.loop [2, 7, 8, 9] f107l0))) []
 (.seq (.reg false [oP 4 (.mv (.c (.str [])))]) [4]
 (.ret))))))) }
/- spec.l5Err -/
def f108 : AFunc := { np := 1, nt := 5, res := [.cell 2 true 5], own := false, body := (.seq (.reg false [oP 2 (.alloc (.agg [.d (.int .i64 (0)), .d (.int .i64 (0)), .d (.str []), .nils 1, .nils 5]))]) [0, 2]
 (.seq (.reg false [mV 3 0, oP 4 (.build [.d (.int .i64 (0)), .d (.int .i64 (0)), .d (.str []), .nils 1, .nils 5] [(0, 1, .c (.int .i64 (1))), (2, 1, .t 3)]), oN (.store 5 (.t 2) (.t 4))]) [2]
 (.ret))) }
/- spec.l5Word -/
def f109 : AFunc := { np := 1, nt := 77, res := [.tmp 2, .tmp 3, .tmp 4], own := false, body := (.seq (.reg false [oP 2 (.mv (.c (.int .i64 (0)))), oP 3 (.mv (.c (.int .i64 (0)))), oP 4 (.mv (.c (.int .i64 (0))))]) [0]
 (.seq (.seq (.reg false [mV 5 0]) [5]
 (.block 0 (.seq (.seq (.reg false [oP 7 (.bin .eql .val (.t 5) (.c (.str [71, 69, 84]))), mV 6 7]) [5, 6]
 (.cond (.t 6) (.skip) (.seq (.reg false [oP 8 (.bin .eql .val (.t 5) (.c (.str [83, 84, 82, 76, 69, 78]))), mV 6 8]) [5, 6]
 (.cond (.t 6) (.skip) (.reg false [oP 9 (.bin .eql .val (.t 5) (.c (.str [73, 78, 67, 82]))), mV 6 9]))))) [5, 6]
 (.cond (.t 6) (.seq (.reg false [oP 2 (.mv (.c (.int .i64 (2)))), oP 3 (.mv (.c (.int .i64 (2)))), oP 4 (.mv (.c (.int .i64 (1))))]) [2, 3, 4]
 (.ret)) (.seq (.reg false [oP 11 (.bin .eql .val (.t 5) (.c (.str [83, 69, 84]))), mV 10 11]) [5, 10]
 (.cond (.t 10) (.seq (.reg false [oP 2 (.mv (.c (.int .i64 (3)))), oP 3 (.mv (.c (.int .i64 (3)))), oP 4 (.mv (.c (.int .i64 (0))))]) [2, 3, 4]
 (.ret)) (.seq (.seq (.reg false [oP 13 (.bin .eql .val (.t 5) (.c (.str [65, 80, 80, 69, 78, 68]))), mV 12 13]) [5, 12]
 (.cond (.t 12) (.skip) (.reg false [oP 14 (.bin .eql .val (.t 5) (.c (.str [73, 78, 67, 82, 66, 89]))), mV 12 14]))) [5, 12]
 (.cond (.t 12) (.seq (.reg false [oP 2 (.mv (.c (.int .i64 (3)))), oP 3 (.mv (.c (.int .i64 (3)))), oP 4 (.mv (.c (.int .i64 (1))))]) [2, 3, 4]
 (.ret)) (.seq (.reg false [oP 16 (.bin .eql .val (.t 5) (.c (.str [71, 69, 84, 82, 65, 78, 71, 69]))), mV 15 16]) [5, 15]
 (.cond (.t 15) (.seq (.reg false [oP 2 (.mv (.c (.int .i64 (4)))), oP 3 (.mv (.c (.int .i64 (4)))), oP 4 (.mv (.c (.int .i64 (1))))]) [2, 3, 4]
 (.ret)) (.seq (.seq (.reg false [oP 18 (.bin .eql .val (.t 5) (.c (.str [76, 80, 85, 83, 72]))), mV 17 18]) [5, 17]
 (.cond (.t 17) (.skip) (.reg false [oP 19 (.bin .eql .val (.t 5) (.c (.str [82, 80, 85, 83, 72]))), mV 17 19]))) [5, 17]
 (.cond (.t 17) (.seq (.reg false [oP 2 (.mv (.c (.int .i64 (3)))), oP 3 (.mv (.c (.int .i64 (8)))), oP 4 (.mv (.c (.int .i64 (2))))]) [2, 3, 4]
 (.ret)) (.seq (.seq (.reg false [oP 21 (.bin .eql .val (.t 5) (.c (.str [76, 80, 79, 80]))), mV 20 21]) [5, 20]
 (.cond (.t 20) (.skip) (.seq (.reg false [oP 22 (.bin .eql .val (.t 5) (.c (.str [82, 80, 79, 80]))), mV 20 22]) [5, 20]
 (.cond (.t 20) (.skip) (.reg false [oP 23 (.bin .eql .val (.t 5) (.c (.str [76, 76, 69, 78]))), mV 20 23]))))) [5, 20]
 (.cond (.t 20) (.seq (.reg false [oP 2 (.mv (.c (.int .i64 (2)))), oP 3 (.mv (.c (.int .i64 (2)))), oP 4 (.mv (.c (.int .i64 (2))))]) [2, 3, 4]
 (.ret)) (.seq (.seq (.reg false [oP 25 (.bin .eql .val (.t 5) (.c (.str [76, 82, 65, 78, 71, 69]))), mV 24 25]) [5, 24]
 (.cond (.t 24) (.skip) (.seq (.reg false [oP 26 (.bin .eql .val (.t 5) (.c (.str [76, 84, 82, 73, 77]))), mV 24 26]) [5, 24]
 (.cond (.t 24) (.skip) (.seq (.reg false [oP 27 (.bin .eql .val (.t 5) (.c (.str [76, 83, 69, 84]))), mV 24 27]) [5, 24]
 (.cond (.t 24) (.skip) (.reg false [oP 28 (.bin .eql .val (.t 5) (.c (.str [76, 82, 69, 77]))), mV 24 28]))))))) [5, 24]
 (.cond (.t 24) (.seq (.reg false [oP 2 (.mv (.c (.int .i64 (4)))), oP 3 (.mv (.c (.int .i64 (4)))), oP 4 (.mv (.c (.int .i64 (2))))]) [2, 3, 4]
 (.ret)) (.seq (.seq (.reg false [oP 30 (.bin .eql .val (.t 5) (.c (.str [83, 65, 68, 68]))), mV 29 30]) [5, 29]
 (.cond (.t 29) (.skip) (.reg false [oP 31 (.bin .eql .val (.t 5) (.c (.str [83, 82, 69, 77]))), mV 29 31]))) [5, 29]
 (.cond (.t 29) (.seq (.reg false [oP 2 (.mv (.c (.int .i64 (3)))), oP 3 (.mv (.c (.int .i64 (8)))), oP 4 (.mv (.c (.int .i64 (3))))]) [2, 3, 4]
 (.ret)) (.seq (.seq (.reg false [oP 33 (.bin .eql .val (.t 5) (.c (.str [83, 77, 69, 77, 66, 69, 82, 83]))), mV 32 33]) [5, 32]
 (.cond (.t 32) (.skip) (.reg false [oP 34 (.bin .eql .val (.t 5) (.c (.str [83, 67, 65, 82, 68]))), mV 32 34]))) [5, 32]
 (.cond (.t 32) (.seq (.reg false [oP 2 (.mv (.c (.int .i64 (2)))), oP 3 (.mv (.c (.int .i64 (2)))), oP 4 (.mv (.c (.int .i64 (3))))]) [2, 3, 4]
 (.ret)) (.seq (.seq (.reg false [oP 36 (.bin .eql .val (.t 5) (.c (.str [83, 73, 83, 77, 69, 77, 66, 69, 82]))), mV 35 36]) [5, 35]
 (.cond (.t 35) (.skip) (.seq (.reg false [oP 37 (.bin .eql .val (.t 5) (.c (.str [83, 73, 78, 84, 69, 82]))), mV 35 37]) [5, 35]
 (.cond (.t 35) (.skip) (.seq (.reg false [oP 38 (.bin .eql .val (.t 5) (.c (.str [83, 85, 78, 73, 79, 78]))), mV 35 38]) [5, 35]
 (.cond (.t 35) (.skip) (.reg false [oP 39 (.bin .eql .val (.t 5) (.c (.str [83, 68, 73, 70, 70]))), mV 35 39]))))))) [5, 35]
 (.cond (.t 35) (.seq (.reg false [oP 2 (.mv (.c (.int .i64 (3)))), oP 3 (.mv (.c (.int .i64 (3)))), oP 4 (.mv (.c (.int .i64 (3))))]) [2, 3, 4]
 (.ret)) (.seq (.seq (.reg false [oP 41 (.bin .eql .val (.t 5) (.c (.str [90, 65, 68, 68]))), mV 40 41]) [5, 40]
 (.cond (.t 40) (.skip) (.seq (.reg false [oP 42 (.bin .eql .val (.t 5) (.c (.str [90, 73, 78, 67, 82, 66, 89]))), mV 40 42]) [5, 40]
 (.cond (.t 40) (.skip) (.seq (.reg false [oP 43 (.bin .eql .val (.t 5) (.c (.str [90, 82, 65, 78, 71, 69]))), mV 40 43]) [5, 40]
 (.cond (.t 40) (.skip) (.reg false [oP 44 (.bin .eql .val (.t 5) (.c (.str [90, 82, 65, 78, 71, 69, 66, 89, 83, 67, 79, 82, 69]))), mV 40 44]))))))) [5, 40]
 (.cond (.t 40) (.seq (.reg false [oP 2 (.mv (.c (.int .i64 (4)))), oP 3 (.mv (.c (.int .i64 (4)))), oP 4 (.mv (.c (.int .i64 (4))))]) [2, 3, 4]
 (.ret)) (.seq (.seq (.reg false [oP 46 (.bin .eql .val (.t 5) (.c (.str [90, 82, 69, 77]))), mV 45 46]) [5, 45]
 (.cond (.t 45) (.skip) (.seq (.reg false [oP 47 (.bin .eql .val (.t 5) (.c (.str [90, 83, 67, 79, 82, 69]))), mV 45 47]) [5, 45]
 (.cond (.t 45) (.skip) (.reg false [oP 48 (.bin .eql .val (.t 5) (.c (.str [90, 82, 65, 78, 75]))), mV 45 48]))))) [5, 45]
 (.cond (.t 45) (.seq (.reg false [oP 2 (.mv (.c (.int .i64 (3)))), oP 3 (.mv (.c (.int .i64 (3)))), oP 4 (.mv (.c (.int .i64 (4))))]) [2, 3, 4]
 (.ret)) (.seq (.reg false [oP 50 (.bin .eql .val (.t 5) (.c (.str [90, 67, 65, 82, 68]))), mV 49 50]) [5, 49]
 (.cond (.t 49) (.seq (.reg false [oP 2 (.mv (.c (.int .i64 (2)))), oP 3 (.mv (.c (.int .i64 (2)))), oP 4 (.mv (.c (.int .i64 (4))))]) [2, 3, 4]
 (.ret)) (.seq (.reg false [oP 52 (.bin .eql .val (.t 5) (.c (.str [72, 83, 69, 84]))), mV 51 52]) [5, 51]
 (.cond (.t 51) (.seq (.reg false [oP 2 (.mv (.c (.int .i64 (4)))), oP 3 (.mv (.c (.int .i64 (4)))), oP 4 (.mv (.c (.int .i64 (5))))]) [2, 3, 4]
 (.ret)) (.seq (.seq (.reg false [oP 54 (.bin .eql .val (.t 5) (.c (.str [72, 71, 69, 84]))), mV 53 54]) [5, 53]
 (.cond (.t 53) (.skip) (.reg false [oP 55 (.bin .eql .val (.t 5) (.c (.str [72, 68, 69, 76]))), mV 53 55]))) [5, 53]
 (.cond (.t 53) (.seq (.reg false [oP 2 (.mv (.c (.int .i64 (3)))), oP 3 (.mv (.c (.int .i64 (3)))), oP 4 (.mv (.c (.int .i64 (5))))]) [2, 3, 4]
 (.ret)) (.seq (.seq (.reg false [oP 57 (.bin .eql .val (.t 5) (.c (.str [72, 71, 69, 84, 65, 76, 76]))), mV 56 57]) [5, 56]
 (.cond (.t 56) (.skip) (.reg false [oP 58 (.bin .eql .val (.t 5) (.c (.str [72, 76, 69, 78]))), mV 56 58]))) [5, 56]
 (.cond (.t 56) (.seq (.reg false [oP 2 (.mv (.c (.int .i64 (2)))), oP 3 (.mv (.c (.int .i64 (2)))), oP 4 (.mv (.c (.int .i64 (5))))]) [2, 3, 4]
 (.ret)) (.seq (.reg false [oP 60 (.bin .eql .val (.t 5) (.c (.str [72, 73, 78, 67, 82, 66, 89]))), mV 59 60]) [5, 59]
 (.cond (.t 59) (.seq (.reg false [oP 2 (.mv (.c (.int .i64 (4)))), oP 3 (.mv (.c (.int .i64 (4)))), oP 4 (.mv (.c (.int .i64 (5))))]) [2, 3, 4]
 (.ret)) (.seq (.seq (.reg false [oP 62 (.bin .eql .val (.t 5) (.c (.str [68, 69, 76]))), mV 61 62]) [5, 61]
 (.cond (.t 61) (.skip) (.reg false [oP 63 (.bin .eql .val (.t 5) (.c (.str [69, 88, 73, 83, 84, 83]))), mV 61 63]))) [5, 61]
 (.cond (.t 61) (.seq (.reg false [oP 2 (.mv (.c (.int .i64 (2)))), oP 3 (.mv (.c (.int .i64 (8)))), oP 4 (.mv (.c (.int .i64 (0))))]) [2, 3, 4]
 (.ret)) (.seq (.seq (.reg false [oP 65 (.bin .eql .val (.t 5) (.c (.str [84, 89, 80, 69]))), mV 64 65]) [5, 64]
 (.cond (.t 64) (.skip) (.seq (.reg false [oP 66 (.bin .eql .val (.t 5) (.c (.str [84, 84, 76]))), mV 64 66]) [5, 64]
 (.cond (.t 64) (.skip) (.reg false [oP 67 (.bin .eql .val (.t 5) (.c (.str [80, 69, 82, 83, 73, 83, 84]))), mV 64 67]))))) [5, 64]
 (.cond (.t 64) (.seq (.reg false [oP 2 (.mv (.c (.int .i64 (2)))), oP 3 (.mv (.c (.int .i64 (2)))), oP 4 (.mv (.c (.int .i64 (0))))]) [2, 3, 4]
 (.ret)) (.seq (.seq (.reg false [oP 69 (.bin .eql .val (.t 5) (.c (.str [69, 88, 80, 73, 82, 69]))), mV 68 69]) [5, 68]
 (.cond (.t 68) (.skip) (.seq (.reg false [oP 70 (.bin .eql .val (.t 5) (.c (.str [69, 88, 80, 73, 82, 69, 65, 84]))), mV 68 70]) [5, 68]
 (.cond (.t 68) (.skip) (.reg false [oP 71 (.bin .eql .val (.t 5) (.c (.str [82, 69, 78, 65, 77, 69]))), mV 68 71]))))) [5, 68]
 (.cond (.t 68) (.seq (.reg false [oP 2 (.mv (.c (.int .i64 (3)))), oP 3 (.mv (.c (.int .i64 (3)))), oP 4 (.mv (.c (.int .i64 (0))))]) [2, 3, 4]
 (.ret)) (.seq (.reg false [oP 73 (.bin .eql .val (.t 5) (.c (.str [75, 69, 89, 83]))), mV 72 73]) [5, 72]
 (.cond (.t 72) (.seq (.reg false [oP 2 (.mv (.c (.int .i64 (2)))), oP 3 (.mv (.c (.int .i64 (2)))), oP 4 (.mv (.c (.int .i64 (0))))]) [2, 3, 4]
 (.ret)) (.seq (.seq (.reg false [oP 75 (.bin .eql .val (.t 5) (.c (.str [68, 66, 83, 73, 90, 69]))), mV 74 75]) [5, 74]
 (.cond (.t 74) (.skip) (.reg false [oP 76 (.bin .eql .val (.t 5) (.c (.str [70, 76, 85, 83, 72]))), mV 74 76]))) [74]
 (.cond (.t 74) (.seq (.reg false [oP 2 (.mv (.c (.int .i64 (1)))), oP 3 (.mv (.c (.int .i64 (1)))), oP 4 (.mv (.c (.int .i64 (0))))]) [2, 3, 4]
 (.ret)) (.skip))))))))))))))))))))))))))))))))))))))))))))))) []
 (.seq (.reg false [oP 2 (.mv (.c (.int .i64 (0)))), oP 3 (.mv (.c (.int .i64 (0)))), oP 4 (.mv (.c (.int .i64 (0))))]) [2, 3, 4]
 (.ret)))) }
/- spec.l5Strings -/
def f110 : AFunc := { np := 2, nt := 154, res := [.cell 4 true 2, .cell 5 true 5], own := false, body := (.seq (.reg false [oP 2 (.box (.t 0)), oP 4 (.alloc (.agg [.d (.int .i64 (0)), .nils 7])), oP 5 (.alloc (.agg [.d (.int .i64 (0)), .d (.int .i64 (0)), .d (.str []), .nils 1, .nils 5]))]) [1, 2, 4, 5]
 (.seq (.reg true [oP 17 (.load true 2 (.t 2)), mV 18 1, oP 19 (.iaddr 1 (.t 18) (.c (.int .i64 (1)))), oL 20 19, oP 21 (.pcall (.f 47) [.t 17, .t 20]), oP 6 (.alloc (.agg [.d (.str []), .d (.int .i64 (0)), .d (.int .i64 (0)), .d (.str []), .nils 1, .nils 2, .nils 2])), oN (.store 7 (.t 6) (.t 21))]) [1, 2, 4, 5, 6]
 (.seq (.reg false [oF 22 2 6, oL 23 22, oP 24 (.bin .eql .val (.t 23) (.c (.int .i64 (1)))), mV 7 24]) [1, 2, 4, 5, 6, 7]
 (.seq (.seq (.reg false [mV 25 1, oP 26 (.iaddr 1 (.t 25) (.c (.int .i64 (0)))), oL 27 26]) [1, 2, 4, 5, 6, 7, 27]
 (.block 0 (.seq (.reg false [oP 29 (.bin .eql .val (.t 27) (.c (.str [71, 69, 84]))), mV 28 29]) [1, 2, 4, 5, 6, 7, 27, 28]
 (.cond (.t 28) (.seq (.seq (.reg false [mV 30 7, oP 31 (.un .not (.t 30))]) [2, 4, 5, 6, 31]
 (.cond (.t 31) (.seq (.reg true [oP 32 (.load true 2 (.t 2)), oP 33 (.pcall (.f 129) []), oN (.store 2 (.t 4) (.t 32)), oN (.store 5 (.t 5) (.t 33))]) [4, 5]
 (.ret)) (.skip))) [2, 4, 5, 6]
 (.seq (.reg true [oP 34 (.load true 2 (.t 2)), oF 35 3 6, oL 36 35, oP 37 (.pcall (.f 130) [.t 36]), oN (.store 2 (.t 4) (.t 34)), oN (.store 5 (.t 5) (.t 37))]) [4, 5]
 (.ret))) (.seq (.reg false [oP 39 (.bin .eql .val (.t 27) (.c (.str [83, 84, 82, 76, 69, 78]))), mV 38 39]) [1, 2, 4, 5, 6, 7, 27, 38]
 (.cond (.t 38) (.seq (.reg true [oP 40 (.load true 2 (.t 2)), oF 41 3 6, oL 42 41, oP 43 (.len true (.t 42)), oP 44 (.pcall (.f 131) [.t 43]), oN (.store 2 (.t 4) (.t 40)), oN (.store 5 (.t 5) (.t 44))]) [4, 5]
 (.ret)) (.seq (.reg false [oP 46 (.bin .eql .val (.t 27) (.c (.str [83, 69, 84]))), mV 45 46]) [1, 2, 4, 5, 6, 7, 27, 45]
 (.cond (.t 45) (.seq (.reg true [oP 47 (.load true 2 (.t 2)), mV 48 1, oP 49 (.iaddr 1 (.t 48) (.c (.int .i64 (1)))), oL 50 49, mV 51 1, oP 52 (.iaddr 1 (.t 51) (.c (.int .i64 (2)))), oL 53 52, oP 54 (.build [.d (.str []), .d (.int .i64 (0)), .d (.int .i64 (0)), .d (.str []), .nils 1, .nils 2, .nils 2] [(0, 1, .t 50), (2, 1, .c (.int .i64 (1))), (3, 1, .t 53)]), oP 55 (.build [.d (.int .i64 (0)), .d (.int .i64 (0)), .d (.str []), .nils 1, .nils 5] []), oP 56 (.pcall (.f 132) [.t 47, .t 54, .t 55]), oP 57 (.extract (.t 56) 0), oP 58 (.extract (.t 56) 1), oN (.store 2 (.t 4) (.t 57)), oN (.store 5 (.t 5) (.t 58))]) [4, 5]
 (.ret)) (.seq (.reg false [oP 60 (.bin .eql .val (.t 27) (.c (.str [65, 80, 80, 69, 78, 68]))), mV 59 60]) [1, 2, 4, 5, 6, 7, 27, 59]
 (.cond (.t 59) (.seq (.reg false [oF 61 2 6, oN (.store 1 (.t 61) (.c (.int .i64 (1))))]) [1, 2, 4, 5, 6]
 (.seq (.reg true [oF 62 3 6, oL 63 62, mV 64 1, oP 65 (.iaddr 1 (.t 64) (.c (.int .i64 (2)))), oL 66 65, oP 67 (.bin .add .val (.t 63) (.t 66)), oF 68 3 6, oN (.store 1 (.t 68) (.t 67))]) [2, 4, 5, 6]
 (.seq (.seq (.reg false [oF 69 3 6, oL 70 69, oP 71 (.len true (.t 70)), oP 72 (.bin .gtr .val (.t 71) (.c (.int .i64 (40))))]) [2, 4, 5, 6, 72]
 (.cond (.t 72) (.seq (.reg true [oP 73 (.load true 2 (.t 2)), oP 74 (.pcall (.f 108) [.c (.str [108, 111, 110, 103])]), oN (.store 2 (.t 4) (.t 73)), oN (.store 5 (.t 5) (.t 74))]) [4, 5]
 (.ret)) (.skip))) [2, 4, 5, 6]
 (.seq (.reg true [oP 75 (.load true 2 (.t 2)), oP 76 (.load true 7 (.t 6)), oF 77 3 6, oL 78 77, oP 79 (.len true (.t 78)), oP 80 (.pcall (.f 131) [.t 79]), oP 81 (.pcall (.f 132) [.t 75, .t 76, .t 80]), oP 82 (.extract (.t 81) 0), oP 83 (.extract (.t 81) 1), oN (.store 2 (.t 4) (.t 82)), oN (.store 5 (.t 5) (.t 83))]) [4, 5]
 (.ret))))) (.seq (.reg false [oP 85 (.bin .eql .val (.t 27) (.c (.str [71, 69, 84, 82, 65, 78, 71, 69]))), mV 84 85]) [1, 2, 4, 5, 6, 7, 84]
 (.cond (.t 84) (.seq (.reg false [mV 87 1, oP 88 (.iaddr 1 (.t 87) (.c (.int .i64 (2)))), oL 89 88, oP 90 (.pcall (.f 133) [.t 89]), mV 86 90, oP 91 (.extract (.t 86) 0), oP 92 (.extract (.t 86) 1), mV 8 91, mV 9 92]) [1, 2, 4, 5, 6, 8, 9]
 (.seq (.reg false [mV 94 1, oP 95 (.iaddr 1 (.t 94) (.c (.int .i64 (3)))), oL 96 95, oP 97 (.pcall (.f 133) [.t 96]), mV 93 97, oP 98 (.extract (.t 93) 0), oP 99 (.extract (.t 93) 1), mV 10 98, mV 11 99]) [2, 4, 5, 6, 8, 9, 10, 11]
 (.seq (.seq (.reg false [mV 100 9, oP 101 (.un .not (.t 100)), mV 102 101, oG 103 102 false (.mv (.t 11)), oG 104 102 false (.un .not (.t 103)), oP 105 (.pick (.t 102) (.c (.bool true)) (.t 104))]) [2, 4, 5, 6, 8, 10, 105]
 (.cond (.t 105) (.seq (.reg true [oP 106 (.load true 2 (.t 2)), oP 107 (.pcall (.f 108) [.c (.str [110, 117, 109, 98, 101, 114])]), oN (.store 2 (.t 4) (.t 106)), oN (.store 5 (.t 5) (.t 107))]) [4, 5]
 (.ret)) (.skip))) [2, 4, 5, 6, 8, 10]
 (.seq (.reg false [oF 109 3 6, oL 110 109, oP 111 (.len true (.t 110)), mV 112 8, mV 113 10, oP 114 (.pcall (.f 134) [.t 111, .t 112, .t 113]), mV 108 114, oP 115 (.extract (.t 108) 0), oP 116 (.extract (.t 108) 1), mV 12 115, mV 13 116]) [2, 4, 5, 6, 12, 13]
 (.seq (.reg true [oP 117 (.load true 2 (.t 2)), oF 118 3 6, oL 119 118, mV 120 12, mV 121 13, oP 122 (.slice none (.t 119) (some (.t 120)) (some (.t 121))), oP 123 (.pcall (.f 130) [.t 122]), oN (.store 2 (.t 4) (.t 117)), oN (.store 5 (.t 5) (.t 123))]) [4, 5]
 (.ret)))))) (.skip))))))))))))) [1, 2, 4, 5, 6, 7]
 (.seq (.reg false [oP 14 (.mv (.c (.str [49])))]) [1, 2, 4, 5, 6, 7, 14]
 (.seq (.seq (.reg false [mV 124 1, oP 125 (.iaddr 1 (.t 124) (.c (.int .i64 (0)))), oL 126 125, oP 127 (.bin .eql .val (.t 126) (.c (.str [73, 78, 67, 82, 66, 89])))]) [1, 2, 4, 5, 6, 7, 14, 127]
 (.cond (.t 127) (.reg false [mV 128 1, oP 129 (.iaddr 1 (.t 128) (.c (.int .i64 (2)))), oL 130 129, mV 14 130]) (.skip))) [2, 4, 5, 6, 7, 14]
 (.seq (.reg false [oF 132 3 6, oL 133 132, mV 134 7, mV 135 14, oP 136 (.pcall (.f 135) [.t 133, .t 134, .t 135]), mV 131 136, oP 137 (.extract (.t 131) 0), oP 138 (.extract (.t 131) 1), mV 15 137, mV 16 138]) [2, 4, 5, 6, 15, 16]
 (.seq (.seq (.reg false [mV 139 16, oP 140 (.un .not (.t 139))]) [2, 4, 5, 6, 15, 140]
 (.cond (.t 140) (.seq (.reg true [oP 141 (.load true 2 (.t 2)), oP 142 (.pcall (.f 108) [.c (.str [110, 117, 109, 98, 101, 114])]), oN (.store 2 (.t 4) (.t 141)), oN (.store 5 (.t 5) (.t 142))]) [4, 5]
 (.ret)) (.skip))) [2, 4, 5, 6, 15]
 (.seq (.reg false [oF 143 2 6, oN (.store 1 (.t 143) (.c (.int .i64 (1))))]) [2, 4, 5, 6, 15]
 (.seq (.reg false [mV 144 15, oP 145 (.pcall (.f 83) [.t 144]), oF 146 3 6, oN (.store 1 (.t 146) (.t 145))]) [2, 4, 5, 6, 15]
 (.seq (.reg true [oP 147 (.load true 2 (.t 2)), oP 148 (.load true 7 (.t 6)), mV 149 15, oP 150 (.pcall (.f 131) [.t 149]), oP 151 (.pcall (.f 132) [.t 147, .t 148, .t 150]), oP 152 (.extract (.t 151) 0), oP 153 (.extract (.t 151) 1), oN (.store 2 (.t 4) (.t 152)), oN (.store 5 (.t 5) (.t 153))]) [4, 5]
 (.ret)))))))))))) }
/- spec.l5Lists -/
def f111 : AFunc := { np := 2, nt := 184, res := [.cell 4 true 2, .cell 5 true 5], own := false, body := (.seq (.reg false [oP 2 (.box (.t 0)), oP 4 (.alloc (.agg [.d (.int .i64 (0)), .nils 7])), oP 5 (.alloc (.agg [.d (.int .i64 (0)), .d (.int .i64 (0)), .d (.str []), .nils 1, .nils 5]))]) [1, 2, 4, 5]
 (.seq (.reg true [oP 21 (.load true 2 (.t 2)), mV 22 1, oP 23 (.iaddr 1 (.t 22) (.c (.int .i64 (1)))), oL 24 23, oP 25 (.pcall (.f 47) [.t 21, .t 24]), oP 6 (.alloc (.agg [.d (.str []), .d (.int .i64 (0)), .d (.int .i64 (0)), .d (.str []), .nils 1, .nils 2, .nils 2])), oN (.store 7 (.t 6) (.t 25))]) [1, 2, 4, 5, 6]
 (.seq (.seq (.reg false [mV 26 1, oP 27 (.iaddr 1 (.t 26) (.c (.int .i64 (0)))), oL 28 27]) [1, 2, 4, 5, 6, 28]
 (.block 0 (.seq (.seq (.reg false [oP 30 (.bin .eql .val (.t 28) (.c (.str [76, 80, 85, 83, 72]))), mV 29 30]) [1, 2, 4, 5, 6, 28, 29]
 (.cond (.t 29) (.skip) (.reg false [oP 31 (.bin .eql .val (.t 28) (.c (.str [82, 80, 85, 83, 72]))), mV 29 31]))) [1, 2, 4, 5, 6, 28, 29]
 (.cond (.t 29) (.seq (.reg true [oF 33 4 6, oL 34 33, mV 35 1, oP 36 (.iaddr 1 (.t 35) (.c (.int .i64 (0)))), oL 37 36, oP 38 (.bin .eql .val (.t 37) (.c (.str [76, 80, 85, 83, 72]))), mV 39 1, oP 40 (.slice (some 1) (.t 39) (some (.c (.int .i64 (2)))) none), oP 41 (.pcall (.f 136) [.t 34, .t 38, .t 40]), mV 32 41, oP 42 (.extract (.t 32) 0), oP 43 (.extract (.t 32) 1), mV 7 42, mV 8 43]) [2, 4, 5, 6, 7, 8]
 (.seq (.seq (.reg false [mV 44 8, oP 45 (.un .not (.t 44))]) [2, 4, 5, 6, 7, 45]
 (.cond (.t 45) (.seq (.reg true [oP 46 (.load true 2 (.t 2)), oP 47 (.pcall (.f 108) [.c (.str [108, 111, 110, 103])]), oN (.store 2 (.t 4) (.t 46)), oN (.store 5 (.t 5) (.t 47))]) [4, 5]
 (.ret)) (.skip))) [2, 4, 5, 6, 7]
 (.seq (.reg false [oF 48 2 6, oN (.store 1 (.t 48) (.c (.int .i64 (2))))]) [2, 4, 5, 6, 7]
 (.seq (.reg false [mV 49 7, oF 50 4 6, oN (.store 1 (.t 50) (.t 49))]) [2, 4, 5, 6, 7]
 (.seq (.reg true [oP 51 (.load true 2 (.t 2)), oP 52 (.load true 7 (.t 6)), mV 53 7, oP 54 (.len false (.t 53)), oP 55 (.pcall (.f 131) [.t 54]), oP 56 (.pcall (.f 132) [.t 51, .t 52, .t 55]), oP 57 (.extract (.t 56) 0), oP 58 (.extract (.t 56) 1), oN (.store 2 (.t 4) (.t 57)), oN (.store 5 (.t 5) (.t 58))]) [4, 5]
 (.ret)))))) (.seq (.seq (.reg false [oP 60 (.bin .eql .val (.t 28) (.c (.str [76, 80, 79, 80]))), mV 59 60]) [1, 2, 4, 5, 6, 28, 59]
 (.cond (.t 59) (.skip) (.reg false [oP 61 (.bin .eql .val (.t 28) (.c (.str [82, 80, 79, 80]))), mV 59 61]))) [1, 2, 4, 5, 6, 28, 59]
 (.cond (.t 59) (.seq (.reg true [oF 63 4 6, oL 64 63, mV 65 1, oP 66 (.iaddr 1 (.t 65) (.c (.int .i64 (0)))), oL 67 66, oP 68 (.bin .eql .val (.t 67) (.c (.str [76, 80, 79, 80]))), oP 69 (.pcall (.f 137) [.t 64, .t 68]), mV 62 69, oP 70 (.extract (.t 62) 0), oP 71 (.extract (.t 62) 1), oP 72 (.extract (.t 62) 2), mV 9 70, mV 10 71, mV 11 72]) [2, 4, 5, 6, 9, 10, 11]
 (.seq (.seq (.reg false [mV 73 11, oP 74 (.un .not (.t 73))]) [2, 4, 5, 6, 9, 10, 74]
 (.cond (.t 74) (.seq (.reg true [oP 75 (.load true 2 (.t 2)), oP 76 (.pcall (.f 129) []), oN (.store 2 (.t 4) (.t 75)), oN (.store 5 (.t 5) (.t 76))]) [4, 5]
 (.ret)) (.skip))) [2, 4, 5, 6, 9, 10]
 (.seq (.reg false [mV 77 9, oF 78 4 6, oN (.store 1 (.t 78) (.t 77))]) [2, 4, 5, 6, 10]
 (.seq (.reg true [oP 79 (.load true 2 (.t 2)), oP 80 (.load true 7 (.t 6)), mV 81 10, oP 82 (.pcall (.f 130) [.t 81]), oP 83 (.pcall (.f 132) [.t 79, .t 80, .t 82]), oP 84 (.extract (.t 83) 0), oP 85 (.extract (.t 83) 1), oN (.store 2 (.t 4) (.t 84)), oN (.store 5 (.t 5) (.t 85))]) [4, 5]
 (.ret))))) (.seq (.reg false [oP 87 (.bin .eql .val (.t 28) (.c (.str [76, 76, 69, 78]))), mV 86 87]) [1, 2, 4, 5, 6, 86]
 (.cond (.t 86) (.seq (.reg true [oP 88 (.load true 2 (.t 2)), oF 89 4 6, oL 90 89, oP 91 (.len false (.t 90)), oP 92 (.pcall (.f 131) [.t 91]), oN (.store 2 (.t 4) (.t 88)), oN (.store 5 (.t 5) (.t 92))]) [4, 5]
 (.ret)) (.skip))))))))) [1, 2, 4, 5, 6]
 (.seq (.reg false [mV 94 1, oP 95 (.iaddr 1 (.t 94) (.c (.int .i64 (2)))), oL 96 95, oP 97 (.pcall (.f 133) [.t 96]), mV 93 97, oP 98 (.extract (.t 93) 0), oP 99 (.extract (.t 93) 1), mV 12 98, mV 13 99]) [1, 2, 4, 5, 6, 12, 13]
 (.seq (.seq (.reg false [mV 100 13, oP 101 (.un .not (.t 100))]) [1, 2, 4, 5, 6, 12, 101]
 (.cond (.t 101) (.seq (.reg true [oP 102 (.load true 2 (.t 2)), oP 103 (.pcall (.f 108) [.c (.str [110, 117, 109, 98, 101, 114])]), oN (.store 2 (.t 4) (.t 102)), oN (.store 5 (.t 5) (.t 103))]) [4, 5]
 (.ret)) (.skip))) [1, 2, 4, 5, 6, 12]
 (.seq (.seq (.reg false [mV 104 1, oP 105 (.iaddr 1 (.t 104) (.c (.int .i64 (0)))), oL 106 105, oP 107 (.bin .eql .val (.t 106) (.c (.str [76, 83, 69, 84])))]) [1, 2, 4, 5, 6, 12, 107]
 (.cond (.t 107) (.seq (.reg true [oF 109 4 6, oL 110 109, mV 111 12, mV 112 1, oP 113 (.iaddr 1 (.t 112) (.c (.int .i64 (3)))), oL 114 113, oP 115 (.pcall (.f 138) [.t 110, .t 111, .t 114]), mV 108 115, oP 116 (.extract (.t 108) 0), oP 117 (.extract (.t 108) 1), mV 14 116, mV 15 117]) [2, 4, 5, 6, 14, 15]
 (.seq (.seq (.reg false [mV 118 15, oP 119 (.un .not (.t 118))]) [2, 4, 5, 6, 14, 119]
 (.cond (.t 119) (.seq (.reg true [oP 120 (.load true 2 (.t 2)), oP 121 (.pcall (.f 108) [.c (.str [112, 108, 97, 99, 101])]), oN (.store 2 (.t 4) (.t 120)), oN (.store 5 (.t 5) (.t 121))]) [4, 5]
 (.ret)) (.skip))) [2, 4, 5, 6, 14]
 (.seq (.reg false [mV 122 14, oF 123 4 6, oN (.store 1 (.t 123) (.t 122))]) [2, 4, 5, 6]
 (.seq (.reg false [oP 124 (.load true 2 (.t 2)), oP 125 (.load true 7 (.t 6)), oP 126 (.build [.d (.int .i64 (0)), .d (.int .i64 (0)), .d (.str []), .nils 1, .nils 5] []), oP 127 (.pcall (.f 132) [.t 124, .t 125, .t 126]), oP 128 (.extract (.t 127) 0), oP 129 (.extract (.t 127) 1), oN (.store 2 (.t 4) (.t 128)), oN (.store 5 (.t 5) (.t 129))]) [4, 5]
 (.ret))))) (.skip))) [1, 2, 4, 5, 6, 12]
 (.seq (.seq (.reg false [mV 130 1, oP 131 (.iaddr 1 (.t 130) (.c (.int .i64 (0)))), oL 132 131, oP 133 (.bin .eql .val (.t 132) (.c (.str [76, 82, 69, 77])))]) [1, 2, 4, 5, 6, 12, 133]
 (.cond (.t 133) (.seq (.reg true [oF 135 4 6, oL 136 135, mV 137 12, mV 138 1, oP 139 (.iaddr 1 (.t 138) (.c (.int .i64 (3)))), oL 140 139, oP 141 (.pcall (.f 139) [.t 136, .t 137, .t 140]), mV 134 141, oP 142 (.extract (.t 134) 0), oP 143 (.extract (.t 134) 1), mV 16 142, mV 17 143]) [2, 4, 5, 6, 16, 17]
 (.seq (.reg false [mV 144 16, oF 145 4 6, oN (.store 1 (.t 145) (.t 144))]) [2, 4, 5, 6, 17]
 (.seq (.reg true [oP 146 (.load true 2 (.t 2)), oP 147 (.load true 7 (.t 6)), mV 148 17, oP 149 (.pcall (.f 131) [.t 148]), oP 150 (.pcall (.f 132) [.t 146, .t 147, .t 149]), oP 151 (.extract (.t 150) 0), oP 152 (.extract (.t 150) 1), oN (.store 2 (.t 4) (.t 151)), oN (.store 5 (.t 5) (.t 152))]) [4, 5]
 (.ret)))) (.skip))) [1, 2, 4, 5, 6, 12]
 (.seq (.reg false [mV 154 1, oP 155 (.iaddr 1 (.t 154) (.c (.int .i64 (3)))), oL 156 155, oP 157 (.pcall (.f 133) [.t 156]), mV 153 157, oP 158 (.extract (.t 153) 0), oP 159 (.extract (.t 153) 1), mV 18 158, mV 19 159]) [1, 2, 4, 5, 6, 12, 18, 19]
 (.seq (.seq (.reg false [mV 160 19, oP 161 (.un .not (.t 160))]) [1, 2, 4, 5, 6, 12, 18, 161]
 (.cond (.t 161) (.seq (.reg true [oP 162 (.load true 2 (.t 2)), oP 163 (.pcall (.f 108) [.c (.str [110, 117, 109, 98, 101, 114])]), oN (.store 2 (.t 4) (.t 162)), oN (.store 5 (.t 5) (.t 163))]) [4, 5]
 (.ret)) (.skip))) [1, 2, 4, 5, 6, 12, 18]
 (.seq (.reg false [oF 164 4 6, oL 165 164, mV 166 12, mV 167 18, oP 168 (.pcall (.f 140) [.t 165, .t 166, .t 167]), mV 20 168]) [1, 2, 4, 5, 6, 20]
 (.seq (.seq (.reg false [mV 169 1, oP 170 (.iaddr 1 (.t 169) (.c (.int .i64 (0)))), oL 171 170, oP 172 (.bin .eql .val (.t 171) (.c (.str [76, 82, 65, 78, 71, 69])))]) [2, 4, 5, 6, 20, 172]
 (.cond (.t 172) (.seq (.reg true [oP 173 (.load true 2 (.t 2)), mV 174 20, oP 175 (.pcall (.f 141) [.t 174]), oN (.store 2 (.t 4) (.t 173)), oN (.store 5 (.t 5) (.t 175))]) [4, 5]
 (.ret)) (.skip))) [2, 4, 5, 6, 20]
 (.seq (.reg false [mV 176 20, oF 177 4 6, oN (.store 1 (.t 177) (.t 176))]) [2, 4, 5, 6]
 (.seq (.reg false [oP 178 (.load true 2 (.t 2)), oP 179 (.load true 7 (.t 6)), oP 180 (.build [.d (.int .i64 (0)), .d (.int .i64 (0)), .d (.str []), .nils 1, .nils 5] []), oP 181 (.pcall (.f 132) [.t 178, .t 179, .t 180]), oP 182 (.extract (.t 181) 0), oP 183 (.extract (.t 181) 1), oN (.store 2 (.t 4) (.t 182)), oN (.store 5 (.t 5) (.t 183))]) [4, 5]
 (.ret)))))))))))))) }
/- spec.l5Sets -/
def f112 : AFunc := { np := 2, nt := 121, res := [.cell 4 true 2, .cell 5 true 5], own := false, body := (.seq (.reg false [oP 2 (.box (.t 0)), oP 4 (.alloc (.agg [.d (.int .i64 (0)), .nils 7])), oP 5 (.alloc (.agg [.d (.int .i64 (0)), .d (.int .i64 (0)), .d (.str []), .nils 1, .nils 5]))]) [1, 2, 4, 5]
 (.seq (.reg true [oP 13 (.load true 2 (.t 2)), mV 14 1, oP 15 (.iaddr 1 (.t 14) (.c (.int .i64 (1)))), oL 16 15, oP 17 (.pcall (.f 47) [.t 13, .t 16]), oP 6 (.alloc (.agg [.d (.str []), .d (.int .i64 (0)), .d (.int .i64 (0)), .d (.str []), .nils 1, .nils 2, .nils 2])), oN (.store 7 (.t 6) (.t 17))]) [1, 2, 4, 5, 6]
 (.seq (.seq (.reg false [mV 18 1, oP 19 (.iaddr 1 (.t 18) (.c (.int .i64 (0)))), oL 20 19]) [1, 2, 4, 5, 6, 20]
 (.block 0 (.seq (.reg false [oP 22 (.bin .eql .val (.t 20) (.c (.str [83, 65, 68, 68]))), mV 21 22]) [1, 2, 4, 5, 6, 20, 21]
 (.cond (.t 21) (.seq (.reg true [oF 24 4 6, oL 25 24, mV 26 1, oP 27 (.slice (some 1) (.t 26) (some (.c (.int .i64 (2)))) none), oP 28 (.pcall (.f 142) [.t 25, .t 27]), mV 23 28, oP 29 (.extract (.t 23) 0), oP 30 (.extract (.t 23) 1), oP 31 (.extract (.t 23) 2), mV 7 29, mV 8 30, mV 9 31]) [2, 4, 5, 6, 7, 8, 9]
 (.seq (.seq (.reg false [mV 32 9, oP 33 (.un .not (.t 32))]) [2, 4, 5, 6, 7, 8, 33]
 (.cond (.t 33) (.seq (.reg true [oP 34 (.load true 2 (.t 2)), oP 35 (.pcall (.f 108) [.c (.str [108, 111, 110, 103])]), oN (.store 2 (.t 4) (.t 34)), oN (.store 5 (.t 5) (.t 35))]) [4, 5]
 (.ret)) (.skip))) [2, 4, 5, 6, 7, 8]
 (.seq (.reg false [oF 36 2 6, oN (.store 1 (.t 36) (.c (.int .i64 (3))))]) [2, 4, 5, 6, 7, 8]
 (.seq (.reg false [mV 37 7, oF 38 4 6, oN (.store 1 (.t 38) (.t 37))]) [2, 4, 5, 6, 8]
 (.seq (.reg true [oP 39 (.load true 2 (.t 2)), oP 40 (.load true 7 (.t 6)), mV 41 8, oP 42 (.pcall (.f 131) [.t 41]), oP 43 (.pcall (.f 132) [.t 39, .t 40, .t 42]), oP 44 (.extract (.t 43) 0), oP 45 (.extract (.t 43) 1), oN (.store 2 (.t 4) (.t 44)), oN (.store 5 (.t 5) (.t 45))]) [4, 5]
 (.ret)))))) (.seq (.reg false [oP 47 (.bin .eql .val (.t 20) (.c (.str [83, 82, 69, 77]))), mV 46 47]) [1, 2, 4, 5, 6, 20, 46]
 (.cond (.t 46) (.seq (.reg true [oF 49 4 6, oL 50 49, mV 51 1, oP 52 (.slice (some 1) (.t 51) (some (.c (.int .i64 (2)))) none), oP 53 (.pcall (.f 143) [.t 50, .t 52]), mV 48 53, oP 54 (.extract (.t 48) 0), oP 55 (.extract (.t 48) 1), mV 10 54, mV 11 55]) [2, 4, 5, 6, 10, 11]
 (.seq (.reg false [mV 56 10, oF 57 4 6, oN (.store 1 (.t 57) (.t 56))]) [2, 4, 5, 6, 11]
 (.seq (.reg true [oP 58 (.load true 2 (.t 2)), oP 59 (.load true 7 (.t 6)), mV 60 11, oP 61 (.pcall (.f 131) [.t 60]), oP 62 (.pcall (.f 132) [.t 58, .t 59, .t 61]), oP 63 (.extract (.t 62) 0), oP 64 (.extract (.t 62) 1), oN (.store 2 (.t 4) (.t 63)), oN (.store 5 (.t 5) (.t 64))]) [4, 5]
 (.ret)))) (.seq (.reg false [oP 66 (.bin .eql .val (.t 20) (.c (.str [83, 77, 69, 77, 66, 69, 82, 83]))), mV 65 66]) [1, 2, 4, 5, 6, 20, 65]
 (.cond (.t 65) (.seq (.reg true [oP 67 (.load true 2 (.t 2)), oF 68 4 6, oL 69 68, oP 70 (.pcall (.f 141) [.t 69]), oN (.store 2 (.t 4) (.t 67)), oN (.store 5 (.t 5) (.t 70))]) [4, 5]
 (.ret)) (.seq (.reg false [oP 72 (.bin .eql .val (.t 20) (.c (.str [83, 67, 65, 82, 68]))), mV 71 72]) [1, 2, 4, 5, 6, 20, 71]
 (.cond (.t 71) (.seq (.reg true [oP 73 (.load true 2 (.t 2)), oF 74 4 6, oL 75 74, oP 76 (.len false (.t 75)), oP 77 (.pcall (.f 131) [.t 76]), oN (.store 2 (.t 4) (.t 73)), oN (.store 5 (.t 5) (.t 77))]) [4, 5]
 (.ret)) (.seq (.reg false [oP 79 (.bin .eql .val (.t 20) (.c (.str [83, 73, 83, 77, 69, 77, 66, 69, 82]))), mV 78 79]) [1, 2, 4, 5, 6, 78]
 (.cond (.t 78) (.seq (.reg true [oP 80 (.load true 2 (.t 2)), oF 81 4 6, oL 82 81, mV 83 1, oP 84 (.iaddr 1 (.t 83) (.c (.int .i64 (2)))), oL 85 84, oP 86 (.pcall (.f 145) [.t 82, .t 85]), oP 87 (.pcall (.f 144) [.t 86]), oN (.store 2 (.t 4) (.t 80)), oN (.store 5 (.t 5) (.t 87))]) [4, 5]
 (.ret)) (.skip))))))))))))) [1, 2, 4, 5, 6]
 (.seq (.reg true [oP 88 (.load true 2 (.t 2)), mV 89 1, oP 90 (.iaddr 1 (.t 89) (.c (.int .i64 (2)))), oL 91 90, oP 92 (.pcall (.f 47) [.t 88, .t 91]), oP 12 (.alloc (.agg [.d (.str []), .d (.int .i64 (0)), .d (.int .i64 (0)), .d (.str []), .nils 1, .nils 2, .nils 2])), oN (.store 7 (.t 12) (.t 92))]) [1, 2, 4, 5, 6, 12]
 (.seq (.seq (.reg false [mV 93 1, oP 94 (.iaddr 1 (.t 93) (.c (.int .i64 (0)))), oL 95 94]) [2, 4, 5, 6, 12, 95]
 (.block 1 (.seq (.reg false [oP 97 (.bin .eql .val (.t 95) (.c (.str [83, 73, 78, 84, 69, 82]))), mV 96 97]) [2, 4, 5, 6, 12, 95, 96]
 (.cond (.t 96) (.seq (.reg true [oP 98 (.load true 2 (.t 2)), oF 99 4 6, oL 100 99, oF 101 4 12, oL 102 101, oP 103 (.pcall (.f 146) [.t 100, .t 102]), oP 104 (.pcall (.f 141) [.t 103]), oN (.store 2 (.t 4) (.t 98)), oN (.store 5 (.t 5) (.t 104))]) [4, 5]
 (.ret)) (.seq (.reg false [oP 106 (.bin .eql .val (.t 95) (.c (.str [83, 85, 78, 73, 79, 78]))), mV 105 106]) [2, 4, 5, 6, 12, 105]
 (.cond (.t 105) (.seq (.reg true [oP 107 (.load true 2 (.t 2)), oF 108 4 6, oL 109 108, oF 110 4 12, oL 111 110, oP 112 (.pcall (.f 147) [.t 109, .t 111]), oP 113 (.pcall (.f 141) [.t 112]), oN (.store 2 (.t 4) (.t 107)), oN (.store 5 (.t 5) (.t 113))]) [4, 5]
 (.ret)) (.skip))))))) [2, 4, 5, 6, 12]
 (.seq (.reg true [oP 114 (.load true 2 (.t 2)), oF 115 4 6, oL 116 115, oF 117 4 12, oL 118 117, oP 119 (.pcall (.f 148) [.t 116, .t 118]), oP 120 (.pcall (.f 141) [.t 119]), oN (.store 2 (.t 4) (.t 114)), oN (.store 5 (.t 5) (.t 120))]) [4, 5]
 (.ret))))))) }
/- spec.l5Scores -/
def f113 : AFunc := { np := 2, nt := 192, res := [.cell 4 true 2, .cell 5 true 5], own := false, body := (.seq (.reg false [oP 2 (.box (.t 0)), oP 4 (.alloc (.agg [.d (.int .i64 (0)), .nils 7])), oP 5 (.alloc (.agg [.d (.int .i64 (0)), .d (.int .i64 (0)), .d (.str []), .nils 1, .nils 5]))]) [1, 2, 4, 5]
 (.seq (.reg true [oP 18 (.load true 2 (.t 2)), mV 19 1, oP 20 (.iaddr 1 (.t 19) (.c (.int .i64 (1)))), oL 21 20, oP 22 (.pcall (.f 47) [.t 18, .t 21]), oP 6 (.alloc (.agg [.d (.str []), .d (.int .i64 (0)), .d (.int .i64 (0)), .d (.str []), .nils 1, .nils 2, .nils 2])), oN (.store 7 (.t 6) (.t 22))]) [1, 2, 4, 5, 6]
 (.seq (.seq (.reg false [mV 23 1, oP 24 (.iaddr 1 (.t 23) (.c (.int .i64 (0)))), oL 25 24]) [1, 2, 4, 5, 6, 25]
 (.block 0 (.seq (.reg false [oP 27 (.bin .eql .val (.t 25) (.c (.str [90, 67, 65, 82, 68]))), mV 26 27]) [1, 2, 4, 5, 6, 25, 26]
 (.cond (.t 26) (.seq (.reg true [oP 28 (.load true 2 (.t 2)), oF 29 5 6, oL 30 29, oP 31 (.len false (.t 30)), oP 32 (.pcall (.f 131) [.t 31]), oN (.store 2 (.t 4) (.t 28)), oN (.store 5 (.t 5) (.t 32))]) [4, 5]
 (.ret)) (.seq (.reg false [oP 34 (.bin .eql .val (.t 25) (.c (.str [90, 82, 69, 77]))), mV 33 34]) [1, 2, 4, 5, 6, 25, 33]
 (.cond (.t 33) (.seq (.reg true [oF 36 5 6, oL 37 36, mV 38 1, oP 39 (.iaddr 1 (.t 38) (.c (.int .i64 (2)))), oL 40 39, oP 41 (.pcall (.f 149) [.t 37, .t 40]), mV 35 41, oP 42 (.extract (.t 35) 0), oP 43 (.extract (.t 35) 1), mV 7 42, mV 8 43]) [2, 4, 5, 6, 7, 8]
 (.seq (.reg false [mV 44 7, oF 45 5 6, oN (.store 1 (.t 45) (.t 44))]) [2, 4, 5, 6, 8]
 (.seq (.reg true [oP 46 (.load true 2 (.t 2)), oP 47 (.load true 7 (.t 6)), mV 48 8, oP 49 (.pcall (.f 144) [.t 48]), oP 50 (.pcall (.f 132) [.t 46, .t 47, .t 49]), oP 51 (.extract (.t 50) 0), oP 52 (.extract (.t 50) 1), oN (.store 2 (.t 4) (.t 51)), oN (.store 5 (.t 5) (.t 52))]) [4, 5]
 (.ret)))) (.seq (.seq (.reg false [oP 54 (.bin .eql .val (.t 25) (.c (.str [90, 83, 67, 79, 82, 69]))), mV 53 54]) [1, 2, 4, 5, 6, 25, 53]
 (.cond (.t 53) (.skip) (.reg false [oP 55 (.bin .eql .val (.t 25) (.c (.str [90, 82, 65, 78, 75]))), mV 53 55]))) [1, 2, 4, 5, 6, 53]
 (.cond (.t 53) (.seq (.reg true [oF 56 5 6, oL 57 56, mV 58 1, oP 59 (.iaddr 1 (.t 58) (.c (.int .i64 (2)))), oL 60 59, oP 61 (.pcall (.f 150) [.t 57, .t 60]), mV 9 61]) [1, 2, 4, 5, 6, 9]
 (.seq (.seq (.reg false [mV 62 9, oP 63 (.bin .lss .val (.t 62) (.c (.int .i64 (0))))]) [1, 2, 4, 5, 6, 9, 63]
 (.cond (.t 63) (.seq (.reg true [oP 64 (.load true 2 (.t 2)), oP 65 (.pcall (.f 129) []), oN (.store 2 (.t 4) (.t 64)), oN (.store 5 (.t 5) (.t 65))]) [4, 5]
 (.ret)) (.skip))) [1, 2, 4, 5, 6, 9]
 (.seq (.seq (.reg false [mV 66 1, oP 67 (.iaddr 1 (.t 66) (.c (.int .i64 (0)))), oL 68 67, oP 69 (.bin .eql .val (.t 68) (.c (.str [90, 82, 65, 78, 75])))]) [2, 4, 5, 6, 9, 69]
 (.cond (.t 69) (.seq (.reg true [oP 70 (.load true 2 (.t 2)), mV 71 9, oP 72 (.pcall (.f 131) [.t 71]), oN (.store 2 (.t 4) (.t 70)), oN (.store 5 (.t 5) (.t 72))]) [4, 5]
 (.ret)) (.skip))) [2, 4, 5, 6, 9]
 (.seq (.reg true [oP 73 (.load true 2 (.t 2)), oF 74 5 6, oL 75 74, mV 76 9, oP 77 (.iaddr 2 (.t 75) (.t 76)), oF 78 1 77, oL 79 78, oP 80 (.pcall (.f 131) [.t 79]), oN (.store 2 (.t 4) (.t 73)), oN (.store 5 (.t 5) (.t 80))]) [4, 5]
 (.ret))))) (.skip))))))))) [1, 2, 4, 5, 6]
 (.seq (.reg false [mV 82 1, oP 83 (.iaddr 1 (.t 82) (.c (.int .i64 (2)))), oL 84 83, oP 85 (.pcall (.f 133) [.t 84]), mV 81 85, oP 86 (.extract (.t 81) 0), oP 87 (.extract (.t 81) 1), mV 10 86, mV 11 87]) [1, 2, 4, 5, 6, 10, 11]
 (.seq (.seq (.reg false [mV 88 11, oP 89 (.un .not (.t 88))]) [1, 2, 4, 5, 6, 10, 89]
 (.cond (.t 89) (.seq (.reg true [oP 90 (.load true 2 (.t 2)), oP 91 (.pcall (.f 108) [.c (.str [110, 117, 109, 98, 101, 114])]), oN (.store 2 (.t 4) (.t 90)), oN (.store 5 (.t 5) (.t 91))]) [4, 5]
 (.ret)) (.skip))) [1, 2, 4, 5, 6, 10]
 (.seq (.seq (.reg false [mV 92 1, oP 93 (.iaddr 1 (.t 92) (.c (.int .i64 (0)))), oL 94 93, oP 95 (.bin .eql .val (.t 94) (.c (.str [90, 65, 68, 68]))), mV 96 95, oG 97 96 false (.mv (.t 1)), oG 98 96 false (.iaddr 1 (.t 97) (.c (.int .i64 (0)))), oG 99 96 false (.load false 1 (.t 98)), oG 100 96 false (.bin .eql .val (.t 99) (.c (.str [90, 73, 78, 67, 82, 66, 89]))), oP 101 (.pick (.t 96) (.c (.bool true)) (.t 100))]) [1, 2, 4, 5, 6, 10, 101]
 (.cond (.t 101) (.seq (.reg true [oF 102 5 6, oL 103 102, mV 104 1, oP 105 (.iaddr 1 (.t 104) (.c (.int .i64 (3)))), oL 106 105, oP 107 (.pcall (.f 150) [.t 103, .t 106]), mV 12 107]) [1, 2, 4, 5, 6, 10, 12]
 (.seq (.seq (.reg false [mV 108 1, oP 109 (.iaddr 1 (.t 108) (.c (.int .i64 (0)))), oL 110 109, oP 111 (.bin .eql .val (.t 110) (.c (.str [90, 73, 78, 67, 82, 66, 89]))), mV 112 111, oG 113 112 true (.mv (.t 12)), oG 114 112 true (.bin .geq .val (.t 113) (.c (.int .i64 (0)))), oP 115 (.pick (.t 112) (.t 114) (.c (.bool false)))]) [1, 2, 4, 5, 6, 10, 12, 115]
 (.cond (.t 115) (.reg false [mV 116 10, oF 117 5 6, oL 118 117, mV 119 12, oP 120 (.iaddr 2 (.t 118) (.t 119)), oF 121 1 120, oL 122 121, oP 123 (.bin .add .val (.t 116) (.t 122)), mV 10 123]) (.skip))) [1, 2, 4, 5, 6, 10]
 (.seq (.reg true [oF 125 5 6, oL 126 125, mV 127 1, oP 128 (.iaddr 1 (.t 127) (.c (.int .i64 (3)))), oL 129 128, mV 130 10, oP 131 (.build [.d (.str []), .d (.int .i64 (0))] [(0, 1, .t 129), (1, 1, .t 130)]), oP 132 (.pcall (.f 126) [.t 126, .t 131]), mV 124 132, oP 133 (.extract (.t 124) 0), oP 134 (.extract (.t 124) 1), oP 135 (.extract (.t 124) 2), mV 13 133, mV 14 134, mV 15 135]) [1, 2, 4, 5, 6, 10, 13, 14, 15]
 (.seq (.seq (.reg false [mV 136 15, oP 137 (.un .not (.t 136))]) [1, 2, 4, 5, 6, 10, 13, 14, 137]
 (.cond (.t 137) (.seq (.reg true [oP 138 (.load true 2 (.t 2)), oP 139 (.pcall (.f 108) [.c (.str [108, 111, 110, 103])]), oN (.store 2 (.t 4) (.t 138)), oN (.store 5 (.t 5) (.t 139))]) [4, 5]
 (.ret)) (.skip))) [1, 2, 4, 5, 6, 10, 13, 14]
 (.seq (.reg false [oF 140 2 6, oN (.store 1 (.t 140) (.c (.int .i64 (4))))]) [1, 2, 4, 5, 6, 10, 13, 14]
 (.seq (.reg false [mV 141 13, oF 142 5 6, oN (.store 1 (.t 142) (.t 141))]) [1, 2, 4, 5, 6, 10, 14]
 (.seq (.seq (.reg false [mV 143 1, oP 144 (.iaddr 1 (.t 143) (.c (.int .i64 (0)))), oL 145 144, oP 146 (.bin .eql .val (.t 145) (.c (.str [90, 73, 78, 67, 82, 66, 89])))]) [2, 4, 5, 6, 10, 14, 146]
 (.cond (.t 146) (.seq (.reg true [oP 147 (.load true 2 (.t 2)), oP 148 (.load true 7 (.t 6)), mV 149 10, oP 150 (.pcall (.f 131) [.t 149]), oP 151 (.pcall (.f 132) [.t 147, .t 148, .t 150]), oP 152 (.extract (.t 151) 0), oP 153 (.extract (.t 151) 1), oN (.store 2 (.t 4) (.t 152)), oN (.store 5 (.t 5) (.t 153))]) [4, 5]
 (.ret)) (.skip))) [2, 4, 5, 6, 14]
 (.seq (.reg true [oP 154 (.load true 2 (.t 2)), oP 155 (.load true 7 (.t 6)), mV 156 14, oP 157 (.pcall (.f 144) [.t 156]), oP 158 (.pcall (.f 132) [.t 154, .t 155, .t 157]), oP 159 (.extract (.t 158) 0), oP 160 (.extract (.t 158) 1), oN (.store 2 (.t 4) (.t 159)), oN (.store 5 (.t 5) (.t 160))]) [4, 5]
 (.ret))))))))) (.skip))) [1, 2, 4, 5, 6, 10]
 (.seq (.reg false [mV 162 1, oP 163 (.iaddr 1 (.t 162) (.c (.int .i64 (3)))), oL 164 163, oP 165 (.pcall (.f 133) [.t 164]), mV 161 165, oP 166 (.extract (.t 161) 0), oP 167 (.extract (.t 161) 1), mV 16 166, mV 17 167]) [1, 2, 4, 5, 6, 10, 16, 17]
 (.seq (.seq (.reg false [mV 168 17, oP 169 (.un .not (.t 168))]) [1, 2, 4, 5, 6, 10, 16, 169]
 (.cond (.t 169) (.seq (.reg true [oP 170 (.load true 2 (.t 2)), oP 171 (.pcall (.f 108) [.c (.str [110, 117, 109, 98, 101, 114])]), oN (.store 2 (.t 4) (.t 170)), oN (.store 5 (.t 5) (.t 171))]) [4, 5]
 (.ret)) (.skip))) [1, 2, 4, 5, 6, 10, 16]
 (.seq (.seq (.reg false [mV 172 1, oP 173 (.iaddr 1 (.t 172) (.c (.int .i64 (0)))), oL 174 173, oP 175 (.bin .eql .val (.t 174) (.c (.str [90, 82, 65, 78, 71, 69])))]) [2, 4, 5, 6, 10, 16, 175]
 (.cond (.t 175) (.seq (.reg true [oP 176 (.load true 2 (.t 2)), oF 177 5 6, oL 178 177, mV 179 10, mV 180 16, oP 181 (.pcall (.f 152) [.t 178, .t 179, .t 180]), oP 182 (.pcall (.f 151) [.t 181]), oP 183 (.pcall (.f 141) [.t 182]), oN (.store 2 (.t 4) (.t 176)), oN (.store 5 (.t 5) (.t 183))]) [4, 5]
 (.ret)) (.skip))) [2, 4, 5, 6, 10, 16]
 (.seq (.reg true [oP 184 (.load true 2 (.t 2)), oF 185 5 6, oL 186 185, mV 187 10, mV 188 16, oP 189 (.pcall (.f 153) [.t 186, .t 187, .t 188]), oP 190 (.pcall (.f 151) [.t 189]), oP 191 (.pcall (.f 141) [.t 190]), oN (.store 2 (.t 4) (.t 184)), oN (.store 5 (.t 5) (.t 191))]) [4, 5]
 (.ret))))))))))) }
/- spec.l5Fields -/
def f114l0 : ACode := (.seq (.seq (.reg false [mV 40 8, oF 41 6 6, oL 42 41, oP 43 (.len false (.t 42)), oP 44 (.bin .lss .val (.t 40) (.t 43))]) [2, 4, 5, 6, 7, 8, 44]
 (.cond (.t 44) (.skip) (.exit 1))) [2, 4, 5, 6, 7, 8]
 (.seq (.block 2 (.reg true [mV 47 7, oF 48 6 6, oL 49 48, mV 50 8, oP 51 (.iaddr 2 (.t 49) (.t 50)), oF 52 0 51, oL 53 52, oF 54 6 6, oL 55 54, mV 56 8, oP 57 (.iaddr 2 (.t 55) (.t 56)), oF 58 1 57, oL 59 58, oP 60 (.lit false 1 [.t 53, .t 59]), oP 61 (.append 1 16 (.t 47) (.t 60)), mV 7 61])) [2, 4, 5, 6, 7, 8]
 (.reg false [mV 45 8, oP 46 (.bin .add .val (.t 45) (.c (.int .i64 (1)))), mV 8 46])))
def f114 : AFunc := { np := 2, nt := 172, res := [.cell 4 true 2, .cell 5 true 5], own := false, body := (.seq (.reg false [oP 2 (.box (.t 0)), oP 4 (.alloc (.agg [.d (.int .i64 (0)), .nils 7])), oP 5 (.alloc (.agg [.d (.int .i64 (0)), .d (.int .i64 (0)), .d (.str []), .nils 1, .nils 5]))]) [1, 2, 4, 5]
 (.seq (.reg true [oP 22 (.load true 2 (.t 2)), mV 23 1, oP 24 (.iaddr 1 (.t 23) (.c (.int .i64 (1)))), oL 25 24, oP 26 (.pcall (.f 47) [.t 22, .t 25]), oP 6 (.alloc (.agg [.d (.str []), .d (.int .i64 (0)), .d (.int .i64 (0)), .d (.str []), .nils 1, .nils 2, .nils 2])), oN (.store 7 (.t 6) (.t 26))]) [1, 2, 4, 5, 6]
 (.seq (.seq (.reg false [mV 27 1, oP 28 (.iaddr 1 (.t 27) (.c (.int .i64 (0)))), oL 29 28]) [1, 2, 4, 5, 6, 29]
 (.block 0 (.seq (.reg false [oP 31 (.bin .eql .val (.t 29) (.c (.str [72, 76, 69, 78]))), mV 30 31]) [1, 2, 4, 5, 6, 29, 30]
 (.cond (.t 30) (.seq (.reg true [oP 32 (.load true 2 (.t 2)), oF 33 6 6, oL 34 33, oP 35 (.len false (.t 34)), oP 36 (.pcall (.f 131) [.t 35]), oN (.store 2 (.t 4) (.t 32)), oN (.store 5 (.t 5) (.t 36))]) [4, 5]
 (.ret)) (.seq (.reg false [oP 38 (.bin .eql .val (.t 29) (.c (.str [72, 71, 69, 84, 65, 76, 76]))), mV 37 38]) [1, 2, 4, 5, 6, 29, 37]
 (.cond (.t 37) (.seq (.reg false [oP 39 (.lit true 1 []), mV 7 39]) [2, 4, 5, 6, 7]
 (.seq (.seq (.reg false [oP 8 (.mv (.c (.int .i64 (0))))]) [2, 4, 5, 6, 7, 8]
 (.block 1 (.loop [2, 4, 5, 6, 7, 8] f114l0))) [2, 4, 5, 7]
 (.seq (.regx [(true, oP 62 (.load true 2 (.t 2))), (true, mV 63 7), (true, oP 64 (.call (.f 141) [(true, .t 63)] false)), (false, oP 62 (.load true 2 (.t 2))), (true, oN (.store 2 (.t 4) (.t 62))), (true, oN (.store 5 (.t 5) (.t 64)))]) [4, 5]
 (.ret)))) (.seq (.reg false [oP 66 (.bin .eql .val (.t 29) (.c (.str [72, 71, 69, 84]))), mV 65 66]) [1, 2, 4, 5, 6, 29, 65]
 (.cond (.t 65) (.seq (.reg true [oF 68 6 6, oL 69 68, mV 70 1, oP 71 (.iaddr 1 (.t 70) (.c (.int .i64 (2)))), oL 72 71, oP 73 (.pcall (.f 154) [.t 69, .t 72]), mV 67 73, oP 74 (.extract (.t 67) 0), oP 75 (.extract (.t 67) 1), mV 9 74, mV 10 75]) [2, 4, 5, 9, 10]
 (.seq (.seq (.reg false [mV 76 10, oP 77 (.un .not (.t 76))]) [2, 4, 5, 9, 77]
 (.cond (.t 77) (.seq (.reg true [oP 78 (.load true 2 (.t 2)), oP 79 (.pcall (.f 129) []), oN (.store 2 (.t 4) (.t 78)), oN (.store 5 (.t 5) (.t 79))]) [4, 5]
 (.ret)) (.skip))) [2, 4, 5, 9]
 (.seq (.reg true [oP 80 (.load true 2 (.t 2)), mV 81 9, oP 82 (.pcall (.f 130) [.t 81]), oN (.store 2 (.t 4) (.t 80)), oN (.store 5 (.t 5) (.t 82))]) [4, 5]
 (.ret)))) (.seq (.reg false [oP 84 (.bin .eql .val (.t 29) (.c (.str [72, 68, 69, 76]))), mV 83 84]) [1, 2, 4, 5, 6, 83]
 (.cond (.t 83) (.seq (.reg true [oF 86 6 6, oL 87 86, mV 88 1, oP 89 (.iaddr 1 (.t 88) (.c (.int .i64 (2)))), oL 90 89, oP 91 (.pcall (.f 155) [.t 87, .t 90]), mV 85 91, oP 92 (.extract (.t 85) 0), oP 93 (.extract (.t 85) 1), mV 11 92, mV 12 93]) [2, 4, 5, 6, 11, 12]
 (.seq (.reg false [mV 94 11, oF 95 6 6, oN (.store 1 (.t 95) (.t 94))]) [2, 4, 5, 6, 12]
 (.seq (.reg true [oP 96 (.load true 2 (.t 2)), oP 97 (.load true 7 (.t 6)), mV 98 12, oP 99 (.pcall (.f 144) [.t 98]), oP 100 (.pcall (.f 132) [.t 96, .t 97, .t 99]), oP 101 (.extract (.t 100) 0), oP 102 (.extract (.t 100) 1), oN (.store 2 (.t 4) (.t 101)), oN (.store 5 (.t 5) (.t 102))]) [4, 5]
 (.ret)))) (.skip))))))))))) [1, 2, 4, 5, 6]
 (.seq (.reg false [mV 103 1, oP 104 (.iaddr 1 (.t 103) (.c (.int .i64 (3)))), oL 105 104, mV 13 105]) [1, 2, 4, 5, 6, 13]
 (.seq (.reg false [oP 14 (.mv (.c (.int .i64 (0))))]) [1, 2, 4, 5, 6, 13, 14]
 (.seq (.seq (.reg false [mV 106 1, oP 107 (.iaddr 1 (.t 106) (.c (.int .i64 (0)))), oL 108 107, oP 109 (.bin .eql .val (.t 108) (.c (.str [72, 73, 78, 67, 82, 66, 89])))]) [1, 2, 4, 5, 6, 13, 14, 109]
 (.cond (.t 109) (.seq (.reg true [oF 111 6 6, oL 112 111, mV 113 1, oP 114 (.iaddr 1 (.t 113) (.c (.int .i64 (2)))), oL 115 114, oP 116 (.pcall (.f 154) [.t 112, .t 115]), mV 110 116, oP 117 (.extract (.t 110) 0), oP 118 (.extract (.t 110) 1), mV 15 117, mV 16 118]) [1, 2, 4, 5, 6, 15, 16]
 (.seq (.reg false [mV 120 15, mV 121 16, mV 122 1, oP 123 (.iaddr 1 (.t 122) (.c (.int .i64 (3)))), oL 124 123, oP 125 (.pcall (.f 135) [.t 120, .t 121, .t 124]), mV 119 125, oP 126 (.extract (.t 119) 0), oP 127 (.extract (.t 119) 1), mV 17 126, mV 18 127]) [1, 2, 4, 5, 6, 17, 18]
 (.seq (.seq (.reg false [mV 128 18, oP 129 (.un .not (.t 128))]) [1, 2, 4, 5, 6, 17, 129]
 (.cond (.t 129) (.seq (.reg true [oP 130 (.load true 2 (.t 2)), oP 131 (.pcall (.f 108) [.c (.str [110, 117, 109, 98, 101, 114])]), oN (.store 2 (.t 4) (.t 130)), oN (.store 5 (.t 5) (.t 131))]) [4, 5]
 (.ret)) (.skip))) [1, 2, 4, 5, 6, 17]
 (.seq (.reg false [mV 132 17, mV 14 132]) [1, 2, 4, 5, 6, 14, 17]
 (.reg false [mV 133 17, oP 134 (.pcall (.f 83) [.t 133]), mV 13 134]))))) (.skip))) [1, 2, 4, 5, 6, 13, 14]
 (.seq (.reg true [oF 136 6 6, oL 137 136, mV 138 1, oP 139 (.iaddr 1 (.t 138) (.c (.int .i64 (2)))), oL 140 139, mV 141 13, oP 142 (.build [.d (.str []), .d (.str [])] [(0, 1, .t 140), (1, 1, .t 141)]), oP 143 (.pcall (.f 105) [.t 137, .t 142]), mV 135 143, oP 144 (.extract (.t 135) 0), oP 145 (.extract (.t 135) 1), oP 146 (.extract (.t 135) 2), mV 19 144, mV 20 145, mV 21 146]) [1, 2, 4, 5, 6, 14, 19, 20, 21]
 (.seq (.seq (.reg false [mV 147 21, oP 148 (.un .not (.t 147))]) [1, 2, 4, 5, 6, 14, 19, 20, 148]
 (.cond (.t 148) (.seq (.reg true [oP 149 (.load true 2 (.t 2)), oP 150 (.pcall (.f 108) [.c (.str [108, 111, 110, 103])]), oN (.store 2 (.t 4) (.t 149)), oN (.store 5 (.t 5) (.t 150))]) [4, 5]
 (.ret)) (.skip))) [1, 2, 4, 5, 6, 14, 19, 20]
 (.seq (.reg false [oF 151 2 6, oN (.store 1 (.t 151) (.c (.int .i64 (5))))]) [1, 2, 4, 5, 6, 14, 19, 20]
 (.seq (.reg false [mV 152 19, oF 153 6 6, oN (.store 1 (.t 153) (.t 152))]) [1, 2, 4, 5, 6, 14, 20]
 (.seq (.seq (.reg false [mV 154 1, oP 155 (.iaddr 1 (.t 154) (.c (.int .i64 (0)))), oL 156 155, oP 157 (.bin .eql .val (.t 156) (.c (.str [72, 73, 78, 67, 82, 66, 89])))]) [2, 4, 5, 6, 14, 20, 157]
 (.cond (.t 157) (.seq (.reg true [oP 158 (.load true 2 (.t 2)), oP 159 (.load true 7 (.t 6)), mV 160 14, oP 161 (.pcall (.f 131) [.t 160]), oP 162 (.pcall (.f 132) [.t 158, .t 159, .t 161]), oP 163 (.extract (.t 162) 0), oP 164 (.extract (.t 162) 1), oN (.store 2 (.t 4) (.t 163)), oN (.store 5 (.t 5) (.t 164))]) [4, 5]
 (.ret)) (.skip))) [2, 4, 5, 6, 20]
 (.seq (.reg true [oP 165 (.load true 2 (.t 2)), oP 166 (.load true 7 (.t 6)), mV 167 20, oP 168 (.pcall (.f 144) [.t 167]), oP 169 (.pcall (.f 132) [.t 165, .t 166, .t 168]), oP 170 (.extract (.t 169) 0), oP 171 (.extract (.t 169) 1), oN (.store 2 (.t 4) (.t 170)), oN (.store 5 (.t 5) (.t 171))]) [4, 5]
 (.ret))))))))))))) }
/- spec.l5Any -/
def f115l0 : ACode := (.seq (.seq (.reg false [mV 44 8, mV 45 1, oP 46 (.len false (.t 45)), oP 47 (.bin .lss .val (.t 44) (.t 46))]) [1, 4, 5, 6, 7, 8, 47]
 (.cond (.t 47) (.skip) (.exit 1))) [1, 4, 5, 6, 7, 8]
 (.seq (.block 2 (.seq (.reg true [oP 51 (.load true 2 (.t 7)), mV 52 1, mV 53 8, oP 54 (.iaddr 1 (.t 52) (.t 53)), oL 55 54, oP 56 (.pcall (.f 45) [.t 51, .t 55]), mV 50 56, oP 57 (.extract (.t 50) 0), oP 58 (.extract (.t 50) 1), mV 9 57, mV 10 58]) [1, 4, 5, 6, 7, 8, 10]
 (.seq (.seq (.reg false [mV 59 10]) [1, 4, 5, 6, 7, 8, 59]
 (.cond (.t 59) (.reg false [mV 60 6, oP 61 (.bin .add .val (.t 60) (.c (.int .i64 (1)))), mV 6 61]) (.skip))) [1, 4, 5, 6, 7, 8]
 (.seq (.reg false [mV 62 1, oP 63 (.iaddr 1 (.t 62) (.c (.int .i64 (0)))), oL 64 63, oP 65 (.bin .eql .val (.t 64) (.c (.str [68, 69, 76])))]) [1, 4, 5, 6, 7, 8, 65]
 (.cond (.t 65) (.reg true [oP 66 (.load true 2 (.t 7)), mV 67 1, mV 68 8, oP 69 (.iaddr 1 (.t 67) (.t 68)), oL 70 69, oP 71 (.pcall (.f 46) [.t 66, .t 70]), oN (.store 2 (.t 7) (.t 71))]) (.skip)))))) [1, 4, 5, 6, 7, 8]
 (.reg false [mV 48 8, oP 49 (.bin .add .val (.t 48) (.c (.int .i64 (1)))), mV 8 49])))
def f115 : AFunc := { np := 2, nt := 203, res := [.cell 4 true 2, .cell 5 true 5], own := false, body := (.seq (.reg false [oP 2 (.box (.t 0)), oP 4 (.alloc (.agg [.d (.int .i64 (0)), .nils 7])), oP 5 (.alloc (.agg [.d (.int .i64 (0)), .d (.int .i64 (0)), .d (.str []), .nils 1, .nils 5]))]) [1, 2, 4, 5]
 (.seq (.seq (.reg false [mV 15 1, oP 16 (.iaddr 1 (.t 15) (.c (.int .i64 (0)))), oL 17 16]) [1, 2, 4, 5, 17]
 (.block 0 (.seq (.reg false [oP 19 (.bin .eql .val (.t 17) (.c (.str [68, 66, 83, 73, 90, 69]))), mV 18 19]) [1, 2, 4, 5, 17, 18]
 (.cond (.t 18) (.seq (.reg true [oP 20 (.load true 2 (.t 2)), oF 21 1 2, oL 22 21, oP 23 (.len false (.t 22)), oP 24 (.pcall (.f 131) [.t 23]), oN (.store 2 (.t 4) (.t 20)), oN (.store 5 (.t 5) (.t 24))]) [4, 5]
 (.ret)) (.seq (.reg false [oP 26 (.bin .eql .val (.t 17) (.c (.str [70, 76, 85, 83, 72]))), mV 25 26]) [1, 2, 4, 5, 17, 25]
 (.cond (.t 25) (.seq (.reg false [oF 27 0 2, oL 28 27, oP 29 (.build [.d (.int .i64 (0)), .nils 7] [(0, 1, .t 28)]), oP 30 (.build [.d (.int .i64 (0)), .d (.int .i64 (0)), .d (.str []), .nils 1, .nils 5] []), oN (.store 2 (.t 4) (.t 29)), oN (.store 5 (.t 5) (.t 30))]) [4, 5]
 (.ret)) (.seq (.reg false [oP 32 (.bin .eql .val (.t 17) (.c (.str [75, 69, 89, 83]))), mV 31 32]) [1, 2, 4, 5, 17, 31]
 (.cond (.t 31) (.seq (.reg true [oP 33 (.load true 2 (.t 2)), oP 34 (.load true 2 (.t 2)), mV 35 1, oP 36 (.iaddr 1 (.t 35) (.c (.int .i64 (1)))), oL 37 36, oP 38 (.pcall (.f 10) [.t 34, .t 37]), oP 39 (.pcall (.f 141) [.t 38]), oN (.store 2 (.t 4) (.t 33)), oN (.store 5 (.t 5) (.t 39))]) [4, 5]
 (.ret)) (.seq (.seq (.reg false [oP 41 (.bin .eql .val (.t 17) (.c (.str [68, 69, 76]))), mV 40 41]) [1, 2, 4, 5, 17, 40]
 (.cond (.t 40) (.skip) (.reg false [oP 42 (.bin .eql .val (.t 17) (.c (.str [69, 88, 73, 83, 84, 83]))), mV 40 42]))) [1, 2, 4, 5, 40]
 (.cond (.t 40) (.seq (.reg false [oP 6 (.mv (.c (.int .i64 (0))))]) [1, 2, 4, 5, 6]
 (.seq (.reg false [oP 43 (.load true 2 (.t 2)), oP 7 (.alloc (.agg [.d (.int .i64 (0)), .nils 7])), oN (.store 2 (.t 7) (.t 43))]) [1, 4, 5, 6, 7]
 (.seq (.seq (.reg false [oP 8 (.mv (.c (.int .i64 (1))))]) [1, 4, 5, 6, 7, 8]
 (.block 1 (.loop [1, 4, 5, 6, 7, 8] f115l0))) [4, 5, 6, 7]
 (.seq (.reg true [oP 72 (.load true 2 (.t 7)), mV 73 6, oP 74 (.pcall (.f 131) [.t 73]), oN (.store 2 (.t 4) (.t 72)), oN (.store 5 (.t 5) (.t 74))]) [4, 5]
 (.ret))))) (.skip))))))))))) [1, 2, 4, 5]
 (.seq (.reg true [oP 75 (.load true 2 (.t 2)), mV 76 1, oP 77 (.iaddr 1 (.t 76) (.c (.int .i64 (1)))), oL 78 77, oP 79 (.pcall (.f 47) [.t 75, .t 78]), oP 11 (.alloc (.agg [.d (.str []), .d (.int .i64 (0)), .d (.int .i64 (0)), .d (.str []), .nils 1, .nils 2, .nils 2])), oN (.store 7 (.t 11) (.t 79))]) [1, 2, 4, 5, 11]
 (.seq (.seq (.reg false [mV 80 1, oP 81 (.iaddr 1 (.t 80) (.c (.int .i64 (0)))), oL 82 81]) [1, 2, 4, 5, 11, 82]
 (.block 3 (.seq (.reg false [oP 84 (.bin .eql .val (.t 82) (.c (.str [84, 89, 80, 69]))), mV 83 84]) [1, 2, 4, 5, 11, 82, 83]
 (.cond (.t 83) (.seq (.reg true [oP 85 (.load true 2 (.t 2)), oF 86 2 11, oL 87 86, oP 88 (.pcall (.f 156) [.t 87]), oP 89 (.pcall (.f 130) [.t 88]), oN (.store 2 (.t 4) (.t 85)), oN (.store 5 (.t 5) (.t 89))]) [4, 5]
 (.ret)) (.seq (.reg false [oP 91 (.bin .eql .val (.t 82) (.c (.str [84, 84, 76]))), mV 90 91]) [1, 2, 4, 5, 11, 82, 90]
 (.cond (.t 90) (.seq (.block 4 (.seq (.reg false [oF 93 2 11, oL 94 93, oP 95 (.bin .eql .val (.t 94) (.c (.int .i64 (0)))), mV 92 95]) [2, 4, 5, 11, 92]
 (.cond (.t 92) (.seq (.reg true [oP 96 (.load true 2 (.t 2)), oP 97 (.pcall (.f 131) [.c (.int .i64 (-2))]), oN (.store 2 (.t 4) (.t 96)), oN (.store 5 (.t 5) (.t 97))]) [4, 5]
 (.ret)) (.seq (.reg false [oF 99 1 11, oL 100 99, oP 101 (.bin .eql .val (.t 100) (.c (.int .i64 (0)))), mV 98 101]) [2, 4, 5, 11, 98]
 (.cond (.t 98) (.seq (.reg true [oP 102 (.load true 2 (.t 2)), oP 103 (.pcall (.f 131) [.c (.int .i64 (-1))]), oN (.store 2 (.t 4) (.t 102)), oN (.store 5 (.t 5) (.t 103))]) [4, 5]
 (.ret)) (.skip)))))) [2, 4, 5, 11]
 (.seq (.reg true [oP 104 (.load true 2 (.t 2)), oF 105 1 11, oL 106 105, oF 107 0 2, oL 108 107, oP 109 (.bin .sub .val (.t 106) (.t 108)), oP 110 (.pcall (.f 131) [.t 109]), oN (.store 2 (.t 4) (.t 104)), oN (.store 5 (.t 5) (.t 110))]) [4, 5]
 (.ret))) (.seq (.reg false [oP 112 (.bin .eql .val (.t 82) (.c (.str [80, 69, 82, 83, 73, 83, 84]))), mV 111 112]) [1, 2, 4, 5, 11, 82, 111]
 (.cond (.t 111) (.seq (.reg false [oF 113 1 11, oL 114 113, oP 115 (.bin .neq .val (.t 114) (.c (.int .i64 (0)))), mV 12 115]) [2, 4, 5, 11, 12]
 (.seq (.reg false [oF 116 1 11, oN (.store 1 (.t 116) (.c (.int .i64 (0))))]) [2, 4, 5, 11, 12]
 (.seq (.reg true [oP 117 (.load true 2 (.t 2)), oP 118 (.load true 7 (.t 11)), mV 119 12, oP 120 (.pcall (.f 144) [.t 119]), oP 121 (.pcall (.f 132) [.t 117, .t 118, .t 120]), oP 122 (.extract (.t 121) 0), oP 123 (.extract (.t 121) 1), oN (.store 2 (.t 4) (.t 122)), oN (.store 5 (.t 5) (.t 123))]) [4, 5]
 (.ret)))) (.seq (.reg false [oP 125 (.bin .eql .val (.t 82) (.c (.str [82, 69, 78, 65, 77, 69]))), mV 124 125]) [1, 2, 4, 5, 11, 124]
 (.cond (.t 124) (.seq (.seq (.reg false [oF 126 2 11, oL 127 126, oP 128 (.bin .eql .val (.t 127) (.c (.int .i64 (0))))]) [1, 2, 4, 5, 11, 128]
 (.cond (.t 128) (.seq (.reg true [oP 129 (.load true 2 (.t 2)), oP 130 (.pcall (.f 108) [.c (.str [110, 111, 110, 101])]), oN (.store 2 (.t 4) (.t 129)), oN (.store 5 (.t 5) (.t 130))]) [4, 5]
 (.ret)) (.skip))) [1, 2, 4, 5, 11]
 (.seq (.reg false [mV 131 1, oP 132 (.iaddr 1 (.t 131) (.c (.int .i64 (2)))), oL 133 132, oF 134 0 11, oN (.store 1 (.t 134) (.t 133))]) [1, 2, 4, 5, 11]
 (.seq (.reg true [oP 135 (.load true 2 (.t 2)), mV 136 1, oP 137 (.iaddr 1 (.t 136) (.c (.int .i64 (1)))), oL 138 137, oP 139 (.pcall (.f 46) [.t 135, .t 138]), oP 140 (.load true 7 (.t 11)), oP 141 (.build [.d (.int .i64 (0)), .d (.int .i64 (0)), .d (.str []), .nils 1, .nils 5] []), oP 142 (.pcall (.f 132) [.t 139, .t 140, .t 141]), oP 143 (.extract (.t 142) 0), oP 144 (.extract (.t 142) 1), oN (.store 2 (.t 4) (.t 143)), oN (.store 5 (.t 5) (.t 144))]) [4, 5]
 (.ret)))) (.skip))))))))))) [1, 2, 4, 5, 11]
 (.seq (.reg false [mV 146 1, oP 147 (.iaddr 1 (.t 146) (.c (.int .i64 (2)))), oL 148 147, oP 149 (.pcall (.f 133) [.t 148]), mV 145 149, oP 150 (.extract (.t 145) 0), oP 151 (.extract (.t 145) 1), mV 13 150, mV 14 151]) [1, 2, 4, 5, 11, 13, 14]
 (.seq (.seq (.reg false [mV 152 14, oP 153 (.un .not (.t 152)), mV 154 153, oG 155 154 false (.mv (.t 13)), oG 156 154 false (.bin .gtr .val (.t 155) (.c (.int .i64 (1000000)))), oG 157 154 false (.mv (.t 156)), oG 158 157 true (.mv (.t 1)), oG 159 157 true (.iaddr 1 (.t 158) (.c (.int .i64 (0)))), oG 160 157 true (.load false 1 (.t 159)), oG 161 157 true (.bin .eql .val (.t 160) (.c (.str [69, 88, 80, 73, 82, 69]))), oG 162 154 false (.pick (.t 157) (.t 161) (.c (.bool false))), oP 163 (.pick (.t 154) (.c (.bool true)) (.t 162)), mV 164 163, oG 165 164 false (.mv (.t 13)), oG 166 164 false (.bin .gtr .val (.t 165) (.c (.int .i64 (2000000)))), oP 167 (.pick (.t 164) (.c (.bool true)) (.t 166))]) [1, 2, 4, 5, 11, 13, 167]
 (.cond (.t 167) (.seq (.reg true [oP 168 (.load true 2 (.t 2)), oP 169 (.pcall (.f 108) [.c (.str [110, 117, 109, 98, 101, 114])]), oN (.store 2 (.t 4) (.t 168)), oN (.store 5 (.t 5) (.t 169))]) [4, 5]
 (.ret)) (.skip))) [1, 2, 4, 5, 11, 13]
 (.seq (.seq (.reg false [mV 170 1, oP 171 (.iaddr 1 (.t 170) (.c (.int .i64 (0)))), oL 172 171, oP 173 (.bin .eql .val (.t 172) (.c (.str [69, 88, 80, 73, 82, 69])))]) [1, 2, 4, 5, 11, 13, 173]
 (.cond (.t 173) (.reg false [oF 174 0 2, oL 175 174, mV 176 13, oP 177 (.bin .add .val (.t 175) (.t 176)), mV 13 177]) (.skip))) [1, 2, 4, 5, 11, 13]
 (.seq (.block 5 (.seq (.reg false [oF 179 2 11, oL 180 179, oP 181 (.bin .eql .val (.t 180) (.c (.int .i64 (0)))), mV 178 181]) [1, 2, 4, 5, 11, 13, 178]
 (.cond (.t 178) (.seq (.reg true [oP 182 (.load true 2 (.t 2)), oP 183 (.pcall (.f 131) [.c (.int .i64 (0))]), oN (.store 2 (.t 4) (.t 182)), oN (.store 5 (.t 5) (.t 183))]) [4, 5]
 (.ret)) (.seq (.reg false [mV 185 13, oF 186 0 2, oL 187 186, oP 188 (.bin .leq .val (.t 185) (.t 187)), mV 184 188]) [1, 2, 4, 5, 11, 13, 184]
 (.cond (.t 184) (.seq (.reg true [oP 189 (.load true 2 (.t 2)), mV 190 1, oP 191 (.iaddr 1 (.t 190) (.c (.int .i64 (1)))), oL 192 191, oP 193 (.pcall (.f 46) [.t 189, .t 192]), oP 194 (.pcall (.f 131) [.c (.int .i64 (1))]), oN (.store 2 (.t 4) (.t 193)), oN (.store 5 (.t 5) (.t 194))]) [4, 5]
 (.ret)) (.skip)))))) [2, 4, 5, 11, 13]
 (.seq (.reg false [mV 195 13, oF 196 1 11, oN (.store 1 (.t 196) (.t 195))]) [2, 4, 5, 11]
 (.seq (.reg true [oP 197 (.load true 2 (.t 2)), oP 198 (.load true 7 (.t 11)), oP 199 (.pcall (.f 131) [.c (.int .i64 (1))]), oP 200 (.pcall (.f 132) [.t 197, .t 198, .t 199]), oP 201 (.extract (.t 200) 0), oP 202 (.extract (.t 200) 1), oN (.store 2 (.t 4) (.t 201)), oN (.store 5 (.t 5) (.t 202))]) [4, 5]
 (.ret))))))))))) }
/- cmp.Or[int] -/
def f116l0 : ACode := (.seq (.reg false [oP 9 (.bin .lss .val (.t 8) (.t 7))]) [3, 6, 7, 8, 9]
 (.seq (.cond (.t 9) (.skip) (.exit 0)) [3, 6, 7, 8]
 (.seq (.block 1 (.seq (.reg false [oP 10 (.iaddr 1 (.t 6) (.t 8)), oL 11 10, mV 5 11]) [3, 5, 6, 7, 8]
 (.seq (.reg false [mV 12 5, mV 13 3, oP 14 (.bin .neq .val (.t 12) (.t 13))]) [3, 5, 6, 7, 8, 14]
 (.cond (.t 14) (.seq (.reg false [mV 15 5, mV 2 15]) [2]
 (.ret)) (.skip))))) [3, 6, 7, 8]
 (.reg false [oP 16 (.bin .add .val (.t 8) (.c (.int .i64 (1)))), mV 8 16]))))
def f116 : AFunc := { np := 1, nt := 18, res := [.tmp 2], own := false, body := (.seq (.reg false [oP 2 (.mv (.c (.int .i64 (0))))]) [0]
 (.seq (.reg false [oP 3 (.mv (.c (.int .i64 (0))))]) [0, 3]
 (.seq (.seq (.reg false [mV 6 0, oP 7 (.len false (.t 6)), oP 8 (.mv (.c (.int .i64 (0))))]) [3, 6, 7, 8]
 (.block 0 (.loop [3, 6, 7, 8] f116l0))) [3]
 (.seq (.reg false [mV 17 3, mV 2 17]) [2]
 (.ret))))) }
/- cmp.Compare[int] -/
def f117 : AFunc := { np := 2, nt := 20, res := [.tmp 4], own := false, body := (.seq (.reg false [oP 4 (.mv (.c (.int .i64 (0))))]) [0, 1]
 (.seq (.reg false [mV 7 0, oP 8 (.pcall (.f 157) [.t 7]), mV 5 8]) [0, 1, 5]
 (.seq (.reg false [mV 9 1, oP 10 (.pcall (.f 157) [.t 9]), mV 6 10]) [0, 1, 5, 6]
 (.seq (.seq (.reg false [mV 11 5]) [0, 1, 6, 11]
 (.cond (.t 11) (.seq (.seq (.reg false [mV 12 6]) [12]
 (.cond (.t 12) (.seq (.reg false [oP 4 (.mv (.c (.int .i64 (0))))]) [4]
 (.ret)) (.skip))) []
 (.seq (.reg false [oP 4 (.mv (.c (.int .i64 (-1))))]) [4]
 (.ret))) (.skip))) [0, 1, 6]
 (.seq (.seq (.reg false [mV 13 6]) [0, 1, 13]
 (.cond (.t 13) (.seq (.reg false [oP 4 (.mv (.c (.int .i64 (1))))]) [4]
 (.ret)) (.skip))) [0, 1]
 (.seq (.seq (.reg false [mV 14 0, mV 15 1, oP 16 (.bin .lss .val (.t 14) (.t 15))]) [0, 1, 16]
 (.cond (.t 16) (.seq (.reg false [oP 4 (.mv (.c (.int .i64 (-1))))]) [4]
 (.ret)) (.skip))) [0, 1]
 (.seq (.seq (.reg false [mV 17 0, mV 18 1, oP 19 (.bin .gtr .val (.t 17) (.t 18))]) [19]
 (.cond (.t 19) (.seq (.reg false [oP 4 (.mv (.c (.int .i64 (1))))]) [4]
 (.ret)) (.skip))) []
 (.seq (.reg false [oP 4 (.mv (.c (.int .i64 (0))))]) [4]
 (.ret))))))))) }
/- impl.Score] -/
def f118l0 : ACode := (.seq (.reg false [oP 9 (.bin .lss .val (.t 8) (.t 7))]) [0, 1, 7, 8, 9]
 (.seq (.cond (.t 9) (.skip) (.exit 0)) [0, 1, 7, 8]
 (.seq (.block 1 (.seq (.reg false [mV 10 8, mV 5 10]) [0, 1, 5, 7, 8]
 (.seq (.reg false [mV 11 1, mV 12 0, mV 13 5, oP 14 (.iaddr 2 (.t 12) (.t 13)), oP 15 (.load true 2 (.t 14)), oP 16 (.pcall (.t 11) [.t 15])]) [0, 1, 5, 7, 8, 16]
 (.cond (.t 16) (.seq (.reg false [mV 17 5, mV 4 17]) [4]
 (.ret)) (.skip))))) [0, 1, 7, 8]
 (.reg false [oP 18 (.bin .add .val (.t 8) (.c (.int .i64 (1)))), mV 8 18]))))
def f118 : AFunc := { np := 2, nt := 19, res := [.tmp 4], own := false, body := (.seq (.reg false [oP 4 (.mv (.c (.int .i64 (0))))]) [0, 1]
 (.seq (.seq (.reg false [mV 6 0, oP 7 (.len false (.t 6)), oP 8 (.mv (.c (.int .i64 (0))))]) [0, 1, 7, 8]
 (.block 0 (.loop [0, 1, 7, 8] f118l0))) []
 (.seq (.reg false [oP 4 (.mv (.c (.int .i64 (-1))))]) [4]
 (.ret)))) }
/- impl.scoreAt$1 -/
def f119 : AFunc := { np := 2, nt := 8, res := [.tmp 3], own := false, body := (.seq (.reg false [oP 2 (.box (.t 0)), oP 3 (.mv (.c (.bool false)))]) [1, 2]
 (.seq (.reg false [oF 4 0 2, oL 5 4, oL 6 1, oP 7 (.bin .eql .val (.t 5) (.t 6)), mV 3 7]) [3]
 (.ret))) }
/- spec.l2Put -/
def f125l0 : ACode := (.seq (.seq (.reg false [mV 6 5, mV 7 0, oP 8 (.len false (.t 7)), oP 9 (.bin .lss .val (.t 6) (.t 8)), mV 10 9, oG 11 10 true (.mv (.t 0)), oG 12 10 true (.mv (.t 5)), oG 13 10 true (.iaddr 1 (.t 11) (.t 12)), oG 14 10 true (.load false 1 (.t 13)), oG 15 10 true (.mv (.t 1)), oG 16 10 true (.bin .lss .val (.t 14) (.t 15)), oP 17 (.pick (.t 10) (.t 16) (.c (.bool false)))]) [0, 1, 5, 17]
 (.cond (.t 17) (.skip) (.exit 0))) [0, 1, 5]
 (.block 1 (.reg false [mV 18 5, oP 19 (.bin .add .val (.t 18) (.c (.int .i64 (1)))), mV 5 19])))
def f125 : AFunc := { np := 2, nt := 45, res := [.tmp 4], own := false, body := (.seq (.reg false [oP 4 (.mv (.nil 1))]) [0, 1]
 (.seq (.reg false [oP 5 (.mv (.c (.int .i64 (0))))]) [0, 1, 5]
 (.seq (.block 0 (.loop [0, 1, 5] f125l0)) [0, 1, 5]
 (.seq (.seq (.reg false [mV 20 5, mV 21 0, oP 22 (.len false (.t 21)), oP 23 (.bin .lss .val (.t 20) (.t 22)), mV 24 23, oG 25 24 true (.mv (.t 0)), oG 26 24 true (.mv (.t 5)), oG 27 24 true (.iaddr 1 (.t 25) (.t 26)), oG 28 24 true (.load false 1 (.t 27)), oG 29 24 true (.mv (.t 1)), oG 30 24 true (.bin .eql .val (.t 28) (.t 29)), oP 31 (.pick (.t 24) (.t 30) (.c (.bool false)))]) [0, 1, 5, 31]
 (.cond (.t 31) (.seq (.reg false [mV 32 0, mV 4 32]) [4]
 (.ret)) (.skip))) [0, 1, 5]
 (.seq (.regx [(true, mV 34 0), (true, mV 35 5), (true, oP 36 (.slice (some 1) (.t 34) none (some (.t 35)))), (true, mV 38 1), (true, oP 39 (.lit false 1 [.t 38])), (true, mV 41 0), (true, mV 42 5), (true, oP 43 (.slice (some 1) (.t 41) (some (.t 42)) none)), (true, oP 33 (.lit true 1 [])), (false, oP 36 (.slice (some 1) (.t 34) none (some (.t 35)))), (false, oP 43 (.slice (some 1) (.t 41) (some (.t 42)) none)), (true, oP 37 (.append 1 16 (.t 33) (.t 36))), (false, oP 43 (.slice (some 1) (.t 41) (some (.t 42)) none)), (true, oP 40 (.append 1 16 (.t 37) (.t 39))), (false, oP 43 (.slice (some 1) (.t 41) (some (.t 42)) none)), (true, oP 44 (.append 1 16 (.t 40) (.t 43))), (true, mV 4 44)]) [4]
 (.ret)))))) }
/- spec.ScoresPut -/
def f126l0 : ACode := (.seq (.seq (.reg true [mV 18 8, mV 19 7, oP 20 (.len false (.t 19)), oP 21 (.bin .lss .val (.t 18) (.t 20)), mV 22 21, oG 23 22 true (.mv (.t 7)), oG 24 22 true (.mv (.t 8)), oG 25 22 true (.iaddr 2 (.t 23) (.t 24)), oG 26 22 true (.load true 2 (.t 25)), oG 27 22 true (.load true 2 (.t 3)), oG 28 22 true (.pcall (.f 84) [.t 26, .t 27]), oP 29 (.pick (.t 22) (.t 28) (.c (.bool false)))]) [0, 3, 7, 8, 29]
 (.cond (.t 29) (.skip) (.exit 0))) [0, 3, 7, 8]
 (.block 1 (.reg false [mV 30 8, oP 31 (.bin .add .val (.t 30) (.c (.int .i64 (1)))), mV 8 31])))
def f126 : AFunc := { np := 2, nt := 56, res := [.tmp 4, .tmp 5, .tmp 6], own := false, body := (.seq (.reg false [oP 3 (.box (.t 1)), oP 4 (.mv (.nil 2)), oP 5 (.mv (.c (.bool false))), oP 6 (.mv (.c (.bool false)))]) [0, 3]
 (.seq (.seq (.reg false [mV 10 0, oP 11 (.pcall (.f 58) [.t 10]), oP 12 (.un .not (.t 11))]) [0, 3, 12]
 (.cond (.t 12) (.seq (.reg false [oP 13 (.lit false 2 []), mV 4 13, oP 5 (.mv (.c (.bool false))), oP 6 (.mv (.c (.bool false)))]) [4, 5, 6]
 (.ret)) (.skip))) [0, 3]
 (.seq (.reg false [mV 14 0, oF 15 0 3, oL 16 15, oP 17 (.pcall (.f 159) [.t 14, .t 16]), mV 7 17]) [0, 3, 7]
 (.seq (.reg false [oP 8 (.mv (.c (.int .i64 (0))))]) [0, 3, 7, 8]
 (.seq (.block 0 (.loop [0, 3, 7, 8] f126l0)) [0, 3, 7, 8]
 (.seq (.regx [(true, mV 33 7), (true, mV 34 8), (true, oP 35 (.slice (some 2) (.t 33) none (some (.t 34)))), (true, oP 37 (.load true 2 (.t 3))), (true, oP 38 (.lit false 2 [.t 37])), (true, mV 40 7), (true, mV 41 8), (true, oP 42 (.slice (some 2) (.t 40) (some (.t 41)) none)), (true, oP 32 (.lit true 2 [])), (false, oP 35 (.slice (some 2) (.t 33) none (some (.t 34)))), (false, oP 37 (.load true 2 (.t 3))), (false, oP 42 (.slice (some 2) (.t 40) (some (.t 41)) none)), (true, oP 36 (.append 2 24 (.t 32) (.t 35))), (false, oP 37 (.load true 2 (.t 3))), (false, oP 42 (.slice (some 2) (.t 40) (some (.t 41)) none)), (true, oP 39 (.append 2 24 (.t 36) (.t 38))), (false, oP 42 (.slice (some 2) (.t 40) (some (.t 41)) none)), (true, oP 43 (.append 2 24 (.t 39) (.t 42))), (true, mV 9 43)]) [0, 7, 9]
 (.seq (.seq (.reg false [mV 44 9, oP 45 (.pcall (.f 58) [.t 44]), oP 46 (.un .not (.t 45))]) [0, 7, 9, 46]
 (.cond (.t 46) (.seq (.reg false [oP 47 (.lit true 2 []), mV 48 0, oP 49 (.append 2 24 (.t 47) (.t 48)), mV 4 49, oP 5 (.mv (.c (.bool false))), oP 6 (.mv (.c (.bool false)))]) [4, 5, 6]
 (.ret)) (.skip))) [0, 7, 9]
 (.seq (.reg false [mV 50 9, mV 51 7, oP 52 (.len false (.t 51)), mV 53 0, oP 54 (.len false (.t 53)), oP 55 (.bin .eql .val (.t 52) (.t 54)), mV 4 50, mV 5 55, oP 6 (.mv (.c (.bool true)))]) [4, 5, 6]
 (.ret))))))))) }
/- spec.l3At -/
def f127l0 : ACode := (.seq (.seq (.reg false [mV 7 6, mV 8 0, oP 9 (.len false (.t 8)), oP 10 (.bin .lss .val (.t 7) (.t 9)), mV 11 10, oG 12 11 true (.mv (.t 0)), oG 13 11 true (.mv (.t 6)), oG 14 11 true (.iaddr 2 (.t 12) (.t 13)), oG 15 11 true (.faddr 0 (.t 14)), oG 16 11 true (.load false 1 (.t 15)), oG 17 11 true (.mv (.t 1)), oG 18 11 true (.bin .lss .val (.t 16) (.t 17)), oP 19 (.pick (.t 11) (.t 18) (.c (.bool false)))]) [0, 1, 6, 19]
 (.cond (.t 19) (.skip) (.exit 0))) [0, 1, 6]
 (.block 1 (.reg false [mV 20 6, oP 21 (.bin .add .val (.t 20) (.c (.int .i64 (1)))), mV 6 21])))
def f127 : AFunc := { np := 2, nt := 36, res := [.tmp 4, .tmp 5], own := false, body := (.seq (.reg false [oP 4 (.mv (.c (.int .i64 (0)))), oP 5 (.mv (.c (.bool false)))]) [0, 1]
 (.seq (.reg false [oP 6 (.mv (.c (.int .i64 (0))))]) [0, 1, 6]
 (.seq (.block 0 (.loop [0, 1, 6] f127l0)) [0, 1, 6]
 (.seq (.reg true [mV 22 6, mV 23 6, mV 24 0, oP 25 (.len false (.t 24)), oP 26 (.bin .lss .val (.t 23) (.t 25)), mV 27 26, oG 28 27 true (.mv (.t 0)), oG 29 27 true (.mv (.t 6)), oG 30 27 true (.iaddr 2 (.t 28) (.t 29)), oG 31 27 true (.faddr 0 (.t 30)), oG 32 27 true (.load false 1 (.t 31)), oG 33 27 true (.mv (.t 1)), oG 34 27 true (.bin .eql .val (.t 32) (.t 33)), oP 35 (.pick (.t 27) (.t 34) (.c (.bool false))), mV 4 22, mV 5 35]) [4, 5]
 (.ret))))) }
/- spec.Keys -/
def f128 : AFunc := { np := 1, nt := 67, res := [.tmp 2], own := false, body := (.seq (.reg false [oP 2 (.mv (.nil 1))]) [0]
 (.seq (.seq (.reg false [mV 6 0, oP 7 (.pcall (.f 160) [.t 6]), oP 8 (.un .not (.t 7))]) [0, 8]
 (.cond (.t 8) (.seq (.reg false [oP 9 (.lit false 1 []), mV 2 9]) [2]
 (.ret)) (.skip))) [0]
 (.seq (.reg false [mV 11 0, oP 12 (.iaddr 1 (.t 11) (.c (.int .i64 (0)))), oL 13 12, oP 14 (.pcall (.f 109) [.t 13]), mV 10 14, oP 15 (.extract (.t 10) 0), oP 16 (.extract (.t 10) 1), oP 17 (.extract (.t 10) 2), mV 3 15, mV 4 16, mV 5 17]) [0, 3, 4]
 (.seq (.block 0 (.seq (.reg false [mV 19 3, oP 20 (.bin .eql .val (.t 19) (.c (.int .i64 (0)))), mV 21 20, oG 22 21 false (.mv (.t 0)), oG 23 21 false (.len false (.t 22)), oG 24 21 false (.mv (.t 3)), oG 25 21 false (.mv (.t 4)), oG 26 21 false (.pcall (.f 32) [.t 23, .t 24, .t 25]), oG 27 21 false (.un .not (.t 26)), oP 28 (.pick (.t 21) (.c (.bool true)) (.t 27)), mV 29 28, oG 30 29 false (.mv (.t 3)), oG 31 29 false (.bin .eql .val (.t 30) (.c (.int .i64 (1)))), oP 32 (.pick (.t 29) (.c (.bool true)) (.t 31)), mV 33 32, oG 34 33 false (.mv (.t 0)), oG 35 33 false (.iaddr 1 (.t 34) (.c (.int .i64 (0)))), oG 36 33 false (.load false 1 (.t 35)), oG 37 33 false (.bin .eql .val (.t 36) (.c (.str [75, 69, 89, 83]))), oP 38 (.pick (.t 33) (.c (.bool true)) (.t 37)), mV 18 38]) [0, 18]
 (.cond (.t 18) (.seq (.reg false [oP 39 (.lit false 1 []), mV 2 39]) [2]
 (.ret)) (.seq (.reg false [mV 41 0, oP 42 (.iaddr 1 (.t 41) (.c (.int .i64 (0)))), oL 43 42, oP 44 (.bin .eql .val (.t 43) (.c (.str [68, 69, 76]))), mV 45 44, oG 46 45 false (.mv (.t 0)), oG 47 45 false (.iaddr 1 (.t 46) (.c (.int .i64 (0)))), oG 48 45 false (.load false 1 (.t 47)), oG 49 45 false (.bin .eql .val (.t 48) (.c (.str [69, 88, 73, 83, 84, 83]))), oP 50 (.pick (.t 45) (.c (.bool true)) (.t 49)), mV 40 50]) [0, 40]
 (.cond (.t 40) (.seq (.reg false [mV 51 0, oP 52 (.slice (some 1) (.t 51) (some (.c (.int .i64 (1)))) none), oP 53 (.pcall (.f 85) [.t 52]), mV 2 53]) [2]
 (.ret)) (.seq (.reg false [oP 55 (.lit false 1 [.c (.str [83, 73, 78, 84, 69, 82]), .c (.str [83, 85, 78, 73, 79, 78]), .c (.str [83, 68, 73, 70, 70]), .c (.str [82, 69, 78, 65, 77, 69])]), mV 56 0, oP 57 (.iaddr 1 (.t 56) (.c (.int .i64 (0)))), oL 58 57, oP 59 (.pcall (.f 145) [.t 55, .t 58]), mV 54 59]) [0, 54]
 (.cond (.t 54) (.seq (.reg false [mV 60 0, oP 61 (.slice (some 1) (.t 60) (some (.c (.int .i64 (1)))) (some (.c (.int .i64 (3))))), oP 62 (.pcall (.f 85) [.t 61]), mV 2 62]) [2]
 (.ret)) (.skip)))))))) [0]
 (.seq (.reg false [mV 63 0, oP 64 (.iaddr 1 (.t 63) (.c (.int .i64 (1)))), oL 65 64, oP 66 (.lit false 1 [.t 65]), mV 2 66]) [2]
 (.ret)))))) }
/- spec.l5None -/
def f129 : AFunc := { np := 0, nt := 2, res := [.cell 0 true 5], own := false, body := (.seq (.reg false [oP 0 (.alloc (.agg [.d (.int .i64 (0)), .d (.int .i64 (0)), .d (.str []), .nils 1, .nils 5]))]) [0]
 (.seq (.reg false [oP 1 (.build [.d (.int .i64 (0)), .d (.int .i64 (0)), .d (.str []), .nils 1, .nils 5] [(0, 1, .c (.int .i64 (4)))]), oN (.store 5 (.t 0) (.t 1))]) [0]
 (.ret))) }
/- spec.l5Text -/
def f130 : AFunc := { np := 1, nt := 5, res := [.cell 2 true 5], own := false, body := (.seq (.reg false [oP 2 (.alloc (.agg [.d (.int .i64 (0)), .d (.int .i64 (0)), .d (.str []), .nils 1, .nils 5]))]) [0, 2]
 (.seq (.reg false [mV 3 0, oP 4 (.build [.d (.int .i64 (0)), .d (.int .i64 (0)), .d (.str []), .nils 1, .nils 5] [(0, 1, .c (.int .i64 (3))), (2, 1, .t 3)]), oN (.store 5 (.t 2) (.t 4))]) [2]
 (.ret))) }
/- spec.l5Int -/
def f131 : AFunc := { np := 1, nt := 5, res := [.cell 2 true 5], own := false, body := (.seq (.reg false [oP 2 (.alloc (.agg [.d (.int .i64 (0)), .d (.int .i64 (0)), .d (.str []), .nils 1, .nils 5]))]) [0, 2]
 (.seq (.reg false [mV 3 0, oP 4 (.build [.d (.int .i64 (0)), .d (.int .i64 (0)), .d (.str []), .nils 1, .nils 5] [(0, 1, .c (.int .i64 (2))), (1, 1, .t 3)]), oN (.store 5 (.t 2) (.t 4))]) [2]
 (.ret))) }
/- spec.l5Keep -/
def f132 : AFunc := { np := 3, nt := 23, res := [.cell 6 true 2, .cell 7 true 5], own := false, body := (.seq (.reg false [oP 3 (.box (.t 0)), oP 4 (.box (.t 1)), oP 5 (.box (.t 2)), oP 6 (.alloc (.agg [.d (.int .i64 (0)), .nils 7])), oP 7 (.alloc (.agg [.d (.int .i64 (0)), .d (.int .i64 (0)), .d (.str []), .nils 1, .nils 5]))]) [3, 4, 5, 6, 7]
 (.seq (.reg false [oP 11 (.load true 2 (.t 3)), oP 12 (.load true 7 (.t 4)), oP 13 (.pcall (.f 52) [.t 11, .t 12]), mV 10 13, oP 14 (.extract (.t 10) 0), oP 15 (.extract (.t 10) 1), oP 8 (.alloc (.agg [.d (.int .i64 (0)), .nils 7])), oN (.store 2 (.t 8) (.t 14)), mV 9 15]) [3, 5, 6, 7, 8, 9]
 (.seq (.seq (.reg false [mV 16 9, oP 17 (.un .not (.t 16))]) [3, 5, 6, 7, 8, 17]
 (.cond (.t 17) (.seq (.reg false [oP 18 (.load true 2 (.t 3)), oP 19 (.call (.f 36) [(false, .t 18)] true), oP 20 (.pcall (.f 108) [.c (.str [102, 117, 108, 108])]), oN (.store 2 (.t 6) (.t 19)), oN (.store 5 (.t 7) (.t 20))]) [6, 7]
 (.ret)) (.skip))) [5, 6, 7, 8]
 (.seq (.regx [(true, oP 21 (.load true 2 (.t 8))), (true, oP 22 (.load true 5 (.t 5))), (true, oN (.store 2 (.t 6) (.t 21))), (false, oP 22 (.load true 5 (.t 5))), (true, oN (.store 5 (.t 7) (.t 22)))]) [6, 7]
 (.ret))))) }
/- spec.IntGet -/
def f133 : AFunc := { np := 1, nt := 28, res := [.tmp 2, .tmp 3], own := false, body := (.seq (.reg false [oP 2 (.mv (.c (.int .i64 (0)))), oP 3 (.mv (.c (.bool false)))]) [0]
 (.seq (.seq (.reg false [mV 6 0, oP 7 (.len true (.t 6)), oP 8 (.bin .gtr .val (.t 7) (.c (.int .i64 (1)))), mV 9 8, oG 10 9 true (.mv (.t 0)), oG 11 9 true (.idx (.t 10) (.c (.int .i64 (0)))), oG 12 9 true (.bin .eql .val (.t 11) (.c (.int .u8 (45)))), oP 13 (.pick (.t 9) (.t 12) (.c (.bool false)))]) [0, 13]
 (.cond (.t 13) (.seq (.reg false [mV 14 0, oP 15 (.slice none (.t 14) (some (.c (.int .i64 (1)))) none), oP 16 (.pcall (.f 161) [.t 15]), mV 4 16]) [4]
 (.seq (.seq (.reg false [mV 17 4, oP 18 (.pcall (.f 32) [.t 17, .c (.int .i64 (1)), .c (.int .i64 (1000000000))]), oP 19 (.un .not (.t 18))]) [4, 19]
 (.cond (.t 19) (.seq (.reg false [oP 2 (.mv (.c (.int .i64 (0)))), oP 3 (.mv (.c (.bool false)))]) [2, 3]
 (.ret)) (.skip))) [4]
 (.seq (.reg false [mV 20 4, oP 21 (.un .neg (.t 20)), mV 2 21, oP 3 (.mv (.c (.bool true)))]) [2, 3]
 (.ret)))) (.skip))) [0]
 (.seq (.reg false [mV 22 0, oP 23 (.pcall (.f 161) [.t 22]), mV 5 23]) [5]
 (.seq (.seq (.reg false [mV 24 5, oP 25 (.pcall (.f 32) [.t 24, .c (.int .i64 (0)), .c (.int .i64 (1000000000))]), oP 26 (.un .not (.t 25))]) [5, 26]
 (.cond (.t 26) (.seq (.reg false [oP 2 (.mv (.c (.int .i64 (0)))), oP 3 (.mv (.c (.bool false)))]) [2, 3]
 (.ret)) (.skip))) [5]
 (.seq (.reg false [mV 27 5, mV 2 27, oP 3 (.mv (.c (.bool true)))]) [2, 3]
 (.ret)))))) }
/- spec.l2Ends -/
def f134 : AFunc := { np := 3, nt := 31, res := [.tmp 6, .tmp 7], own := false, body := (.seq (.reg false [oP 6 (.mv (.c (.int .i64 (0)))), oP 7 (.mv (.c (.int .i64 (0))))]) [0, 1, 2]
 (.seq (.seq (.reg false [mV 8 1, oP 9 (.bin .lss .val (.t 8) (.c (.int .i64 (0))))]) [0, 1, 2, 9]
 (.cond (.t 9) (.reg false [mV 10 1, mV 11 0, oP 12 (.bin .add .val (.t 10) (.t 11)), mV 1 12]) (.skip))) [0, 1, 2]
 (.seq (.seq (.reg false [mV 13 2, oP 14 (.bin .lss .val (.t 13) (.c (.int .i64 (0))))]) [0, 1, 2, 14]
 (.cond (.t 14) (.reg false [mV 15 2, mV 16 0, oP 17 (.bin .add .val (.t 15) (.t 16)), mV 2 17]) (.skip))) [0, 1, 2]
 (.seq (.seq (.reg false [mV 18 1, oP 19 (.bin .lss .val (.t 18) (.c (.int .i64 (0))))]) [0, 1, 2, 19]
 (.cond (.t 19) (.reg false [oP 1 (.mv (.c (.int .i64 (0))))]) (.skip))) [0, 1, 2]
 (.seq (.seq (.reg false [mV 20 2, mV 21 0, oP 22 (.bin .geq .val (.t 20) (.t 21))]) [0, 1, 2, 22]
 (.cond (.t 22) (.reg false [mV 23 0, oP 24 (.bin .sub .val (.t 23) (.c (.int .i64 (1)))), mV 2 24]) (.skip))) [1, 2]
 (.seq (.seq (.reg false [mV 25 1, mV 26 2, oP 27 (.bin .gtr .val (.t 25) (.t 26))]) [1, 2, 27]
 (.cond (.t 27) (.seq (.reg false [oP 6 (.mv (.c (.int .i64 (0)))), oP 7 (.mv (.c (.int .i64 (0))))]) [6, 7]
 (.ret)) (.skip))) [1, 2]
 (.seq (.reg false [mV 28 1, mV 29 2, oP 30 (.bin .add .val (.t 29) (.c (.int .i64 (1)))), mV 6 28, mV 7 30]) [6, 7]
 (.ret)))))))) }
/- spec.l5Add -/
def f135 : AFunc := { np := 3, nt := 39, res := [.tmp 6, .tmp 7], own := false, body := (.seq (.reg false [oP 6 (.mv (.c (.int .i64 (0)))), oP 7 (.mv (.c (.bool false)))]) [0, 1, 2]
 (.seq (.reg false [oP 8 (.mv (.c (.int .i64 (0))))]) [0, 1, 2, 8]
 (.seq (.seq (.reg false [mV 13 1]) [0, 2, 8, 13]
 (.cond (.t 13) (.seq (.reg false [mV 15 0, oP 16 (.pcall (.f 133) [.t 15]), mV 14 16, oP 17 (.extract (.t 14) 0), oP 18 (.extract (.t 14) 1), mV 9 17, mV 10 18]) [2, 9, 10]
 (.seq (.seq (.reg false [mV 19 10, oP 20 (.un .not (.t 19))]) [2, 9, 20]
 (.cond (.t 20) (.seq (.reg false [oP 6 (.mv (.c (.int .i64 (0)))), oP 7 (.mv (.c (.bool false)))]) [6, 7]
 (.ret)) (.skip))) [2, 9]
 (.reg false [mV 21 9, mV 8 21]))) (.skip))) [2, 8]
 (.seq (.reg false [mV 23 2, oP 24 (.pcall (.f 133) [.t 23]), mV 22 24, oP 25 (.extract (.t 22) 0), oP 26 (.extract (.t 22) 1), mV 11 25, mV 12 26]) [8, 11, 12]
 (.seq (.seq (.reg false [mV 27 12, oP 28 (.un .not (.t 27)), mV 29 28, oG 30 29 false (.mv (.t 8)), oG 31 29 false (.mv (.t 11)), oG 32 29 false (.bin .add .val (.t 30) (.t 31)), oG 33 29 false (.pcall (.f 32) [.t 32, .c (.int .i64 (-1000000000)), .c (.int .i64 (1000000000))]), oG 34 29 false (.un .not (.t 33)), oP 35 (.pick (.t 29) (.c (.bool true)) (.t 34))]) [8, 11, 35]
 (.cond (.t 35) (.seq (.reg false [oP 6 (.mv (.c (.int .i64 (0)))), oP 7 (.mv (.c (.bool false)))]) [6, 7]
 (.ret)) (.skip))) [8, 11]
 (.seq (.reg false [mV 36 8, mV 37 11, oP 38 (.bin .add .val (.t 36) (.t 37)), mV 6 38, oP 7 (.mv (.c (.bool true)))]) [6, 7]
 (.ret))))))) }
/- spec.ListPush -/
def f136 : AFunc := { np := 3, nt := 29, res := [.tmp 6, .tmp 7], own := false, body := (.seq (.reg false [oP 6 (.mv (.nil 1)), oP 7 (.mv (.c (.bool false)))]) [0, 1, 2]
 (.seq (.seq (.reg false [mV 8 0, oP 9 (.pcall (.f 56) [.t 8]), oP 10 (.un .not (.t 9))]) [0, 1, 2, 10]
 (.cond (.t 10) (.seq (.reg false [oP 11 (.lit false 1 []), mV 6 11, oP 7 (.mv (.c (.bool false)))]) [6, 7]
 (.ret)) (.skip))) [0, 1, 2]
 (.seq (.seq (.reg false [mV 12 2, oP 13 (.pcall (.f 56) [.t 12]), oP 14 (.un .not (.t 13)), mV 15 14, oG 16 15 false (.mv (.t 0)), oG 17 15 false (.len false (.t 16)), oG 18 15 false (.mv (.t 2)), oG 19 15 false (.len false (.t 18)), oG 20 15 false (.bin .add .val (.t 17) (.t 19)), oG 21 15 false (.bin .gtr .val (.t 20) (.c (.int .i64 (16)))), oP 22 (.pick (.t 15) (.c (.bool true)) (.t 21))]) [0, 1, 2, 22]
 (.cond (.t 22) (.seq (.reg false [mV 23 0, oP 24 (.pcall (.f 85) [.t 23]), mV 6 24, oP 7 (.mv (.c (.bool false)))]) [6, 7]
 (.ret)) (.skip))) [0, 1, 2]
 (.seq (.reg false [mV 25 0, mV 26 1, mV 27 2, oP 28 (.pcall (.f 162) [.t 25, .t 26, .t 27]), mV 6 28, oP 7 (.mv (.c (.bool true)))]) [6, 7]
 (.ret))))) }
/- spec.ListPop -/
def f137 : AFunc := { np := 2, nt := 37, res := [.tmp 4, .tmp 5, .tmp 6], own := false, body := (.seq (.reg false [oP 4 (.mv (.nil 1)), oP 5 (.mv (.c (.str []))), oP 6 (.mv (.c (.bool false)))]) [0, 1]
 (.seq (.reg false [mV 8 0, oP 9 (.len false (.t 8)), mV 7 9]) [0, 1, 7]
 (.seq (.block 0 (.seq (.reg false [mV 11 0, oP 12 (.pcall (.f 56) [.t 11]), oP 13 (.un .not (.t 12)), mV 14 13, oG 15 14 false (.mv (.t 7)), oG 16 14 false (.bin .eql .val (.t 15) (.c (.int .i64 (0)))), oP 17 (.pick (.t 14) (.c (.bool true)) (.t 16)), mV 10 17]) [0, 1, 7, 10]
 (.cond (.t 10) (.seq (.reg false [oP 18 (.lit false 1 []), mV 4 18, oP 5 (.mv (.c (.str []))), oP 6 (.mv (.c (.bool false)))]) [4, 5, 6]
 (.ret)) (.seq (.reg false [mV 20 1, mV 19 20]) [0, 7, 19]
 (.cond (.t 19) (.seq (.reg true [mV 21 0, oP 22 (.slice (some 1) (.t 21) (some (.c (.int .i64 (1)))) none), oP 23 (.pcall (.f 85) [.t 22]), mV 24 0, oP 25 (.iaddr 1 (.t 24) (.c (.int .i64 (0)))), oL 26 25, mV 4 23, mV 5 26, oP 6 (.mv (.c (.bool true)))]) [4, 5, 6]
 (.ret)) (.skip)))))) [0, 7]
 (.seq (.reg true [mV 27 0, mV 28 7, oP 29 (.bin .sub .val (.t 28) (.c (.int .i64 (1)))), oP 30 (.slice (some 1) (.t 27) none (some (.t 29))), oP 31 (.pcall (.f 85) [.t 30]), mV 32 0, mV 33 7, oP 34 (.bin .sub .val (.t 33) (.c (.int .i64 (1)))), oP 35 (.iaddr 1 (.t 32) (.t 34)), oL 36 35, mV 4 31, mV 5 36, oP 6 (.mv (.c (.bool true)))]) [4, 5, 6]
 (.ret))))) }
/- spec.ListSet -/
def f138 : AFunc := { np := 3, nt := 42, res := [.tmp 6, .tmp 7], own := false, body := (.seq (.reg false [oP 6 (.mv (.nil 1)), oP 7 (.mv (.c (.bool false)))]) [0, 1, 2]
 (.seq (.seq (.reg false [mV 9 0, oP 10 (.pcall (.f 56) [.t 9]), oP 11 (.un .not (.t 10))]) [0, 1, 2, 11]
 (.cond (.t 11) (.seq (.reg false [oP 12 (.lit false 1 []), mV 6 12, oP 7 (.mv (.c (.bool false)))]) [6, 7]
 (.ret)) (.skip))) [0, 1, 2]
 (.seq (.reg false [mV 13 0, oP 14 (.call (.f 85) [(false, .t 13)] false), mV 8 14]) [0, 1, 2, 8]
 (.seq (.seq (.reg false [mV 15 1, oP 16 (.pcall (.f 163) [.t 15]), oP 17 (.un .not (.t 16)), mV 18 17, oG 19 18 false (.mv (.t 2)), oG 20 18 false (.len true (.t 19)), oG 21 18 false (.bin .gtr .val (.t 20) (.c (.int .i64 (40)))), oP 22 (.pick (.t 18) (.c (.bool true)) (.t 21))]) [0, 1, 2, 8, 22]
 (.cond (.t 22) (.seq (.reg false [mV 23 8, mV 6 23, oP 7 (.mv (.c (.bool false)))]) [6, 7]
 (.ret)) (.skip))) [0, 1, 2, 8]
 (.seq (.seq (.reg false [mV 24 1, oP 25 (.bin .lss .val (.t 24) (.c (.int .i64 (0))))]) [0, 1, 2, 8, 25]
 (.cond (.t 25) (.reg false [mV 26 1, mV 27 0, oP 28 (.len false (.t 27)), oP 29 (.bin .add .val (.t 26) (.t 28)), mV 1 29]) (.skip))) [0, 1, 2, 8]
 (.seq (.seq (.reg false [mV 30 1, mV 31 0, oP 32 (.len false (.t 31)), oP 33 (.bin .sub .val (.t 32) (.c (.int .i64 (1)))), oP 34 (.pcall (.f 32) [.t 30, .c (.int .i64 (0)), .t 33]), oP 35 (.un .not (.t 34))]) [1, 2, 8, 35]
 (.cond (.t 35) (.seq (.reg false [mV 36 8, mV 6 36, oP 7 (.mv (.c (.bool false)))]) [6, 7]
 (.ret)) (.skip))) [1, 2, 8]
 (.seq (.reg false [mV 37 8, mV 38 1, mV 39 2, oP 40 (.iaddr 1 (.t 37) (.t 38)), oN (.store 1 (.t 40) (.t 39))]) [8]
 (.seq (.reg false [mV 41 8, mV 6 41, oP 7 (.mv (.c (.bool true)))]) [6, 7]
 (.ret))))))))) }
/- spec.ListDrop -/
def f139l0 : ACode := (.seq (.seq (.reg false [mV 32 12, mV 33 8, oP 34 (.len false (.t 33)), oP 35 (.bin .lss .val (.t 32) (.t 34))]) [1, 2, 8, 9, 10, 11, 12, 35]
 (.cond (.t 35) (.skip) (.exit 0))) [1, 2, 8, 9, 10, 11, 12]
 (.seq (.block 1 (.seq (.seq (.reg false [mV 38 8, mV 39 12, oP 40 (.iaddr 1 (.t 38) (.t 39)), oL 41 40, mV 42 2, oP 43 (.bin .eql .val (.t 41) (.t 42)), mV 44 43, oG 45 44 true (.mv (.t 1)), oG 46 44 true (.bin .eql .val (.t 45) (.c (.int .i64 (0)))), oG 47 44 true (.mv (.t 46)), oG 48 47 false (.mv (.t 11)), oG 49 47 false (.mv (.t 9)), oG 50 47 false (.bin .lss .val (.t 48) (.t 49)), oG 51 44 true (.pick (.t 47) (.c (.bool true)) (.t 50)), oP 52 (.pick (.t 44) (.t 51) (.c (.bool false)))]) [1, 2, 8, 9, 10, 11, 12, 52]
 (.cond (.t 52) (.seq (.reg false [mV 53 11, oP 54 (.bin .add .val (.t 53) (.c (.int .i64 (1)))), mV 11 54]) [1, 2, 8, 9, 10, 11, 12]
 (.exit 1)) (.skip))) [1, 2, 8, 9, 10, 11, 12]
 (.reg false [mV 55 10, mV 56 8, mV 57 12, oP 58 (.iaddr 1 (.t 56) (.t 57)), oL 59 58, oP 60 (.lit false 1 [.t 59]), oP 61 (.append 1 16 (.t 55) (.t 60)), mV 10 61]))) [1, 2, 8, 9, 10, 11, 12]
 (.reg false [mV 36 12, oP 37 (.bin .add .val (.t 36) (.c (.int .i64 (1)))), mV 12 37])))
def f139 : AFunc := { np := 3, nt := 69, res := [.tmp 6, .tmp 7], own := false, body := (.seq (.reg false [oP 6 (.mv (.nil 1)), oP 7 (.mv (.c (.int .i64 (0))))]) [0, 1, 2]
 (.seq (.seq (.reg false [mV 13 0, oP 14 (.pcall (.f 56) [.t 13]), oP 15 (.un .not (.t 14)), mV 16 15, oG 17 16 false (.mv (.t 1)), oG 18 16 false (.pcall (.f 163) [.t 17]), oG 19 16 false (.un .not (.t 18)), oP 20 (.pick (.t 16) (.c (.bool true)) (.t 19))]) [0, 1, 2, 20]
 (.cond (.t 20) (.seq (.reg false [oP 21 (.lit false 1 []), mV 6 21, oP 7 (.mv (.c (.int .i64 (0))))]) [6, 7]
 (.ret)) (.skip))) [0, 1, 2]
 (.seq (.reg false [mV 22 0, oP 23 (.pcall (.f 85) [.t 22]), mV 8 23]) [0, 1, 2, 8]
 (.seq (.reg false [mV 24 1, mV 9 24]) [0, 1, 2, 8, 9]
 (.seq (.seq (.reg false [mV 25 1, oP 26 (.bin .lss .val (.t 25) (.c (.int .i64 (0))))]) [0, 1, 2, 8, 9, 26]
 (.cond (.t 26) (.seq (.reg false [mV 27 0, oP 28 (.call (.f 164) [(true, .t 27)] false), mV 8 28]) [1, 2, 8]
 (.reg false [mV 29 1, oP 30 (.un .neg (.t 29)), mV 9 30])) (.skip))) [1, 2, 8, 9]
 (.seq (.reg false [oP 31 (.lit true 1 []), mV 10 31]) [1, 2, 8, 9, 10]
 (.seq (.reg false [oP 11 (.mv (.c (.int .i64 (0))))]) [1, 2, 8, 9, 10, 11]
 (.seq (.seq (.reg false [oP 12 (.mv (.c (.int .i64 (0))))]) [1, 2, 8, 9, 10, 11, 12]
 (.block 0 (.loop [1, 2, 8, 9, 10, 11, 12] f139l0))) [1, 10, 11]
 (.seq (.seq (.reg false [mV 62 1, oP 63 (.bin .lss .val (.t 62) (.c (.int .i64 (0))))]) [10, 11, 63]
 (.cond (.t 63) (.seq (.reg false [mV 64 10, oP 65 (.call (.f 164) [(true, .t 64)] false), mV 66 11, mV 6 65, mV 7 66]) [6, 7]
 (.ret)) (.skip))) [10, 11]
 (.seq (.reg false [mV 67 10, mV 68 11, mV 6 67, mV 7 68]) [6, 7]
 (.ret))))))))))) }
/- spec.ListRange -/
def f140 : AFunc := { np := 3, nt := 36, res := [.tmp 6], own := false, body := (.seq (.reg false [oP 6 (.mv (.nil 1))]) [0, 1, 2]
 (.seq (.seq (.reg false [mV 9 0, oP 10 (.pcall (.f 56) [.t 9]), oP 11 (.un .not (.t 10)), mV 12 11, oG 13 12 false (.mv (.t 1)), oG 14 12 false (.pcall (.f 163) [.t 13]), oG 15 12 false (.un .not (.t 14)), oP 16 (.pick (.t 12) (.c (.bool true)) (.t 15)), mV 17 16, oG 18 17 false (.mv (.t 2)), oG 19 17 false (.pcall (.f 163) [.t 18]), oG 20 17 false (.un .not (.t 19)), oP 21 (.pick (.t 17) (.c (.bool true)) (.t 20))]) [0, 1, 2, 21]
 (.cond (.t 21) (.seq (.reg false [oP 22 (.lit false 1 []), mV 6 22]) [6]
 (.ret)) (.skip))) [0, 1, 2]
 (.seq (.reg false [mV 24 0, oP 25 (.len false (.t 24)), mV 26 1, mV 27 2, oP 28 (.pcall (.f 134) [.t 25, .t 26, .t 27]), mV 23 28, oP 29 (.extract (.t 23) 0), oP 30 (.extract (.t 23) 1), mV 7 29, mV 8 30]) [0, 7, 8]
 (.seq (.reg false [mV 31 0, mV 32 7, mV 33 8, oP 34 (.slice (some 1) (.t 31) (some (.t 32)) (some (.t 33))), oP 35 (.pcall (.f 85) [.t 34]), mV 6 35]) [6]
 (.ret))))) }
/- spec.l5Texts -/
def f141 : AFunc := { np := 1, nt := 5, res := [.cell 2 true 5], own := false, body := (.seq (.reg false [oP 2 (.alloc (.agg [.d (.int .i64 (0)), .d (.int .i64 (0)), .d (.str []), .nils 1, .nils 5]))]) [0, 2]
 (.seq (.reg false [mV 3 0, oP 4 (.build [.d (.int .i64 (0)), .d (.int .i64 (0)), .d (.str []), .nils 1, .nils 5] [(0, 1, .c (.int .i64 (5))), (3, 1, .t 3)]), oN (.store 5 (.t 2) (.t 4))]) [2]
 (.ret))) }
/- spec.SetAdd -/
def f142l0 : ACode := (.seq (.seq (.reg false [mV 19 8, mV 20 1, oP 21 (.len false (.t 20)), oP 22 (.bin .lss .val (.t 19) (.t 21))]) [0, 1, 7, 8, 22]
 (.cond (.t 22) (.skip) (.exit 0))) [0, 1, 7, 8]
 (.seq (.block 1 (.reg false [mV 25 7, mV 26 1, mV 27 8, oP 28 (.iaddr 1 (.t 26) (.t 27)), oL 29 28, oP 30 (.pcall (.f 125) [.t 25, .t 29]), mV 7 30])) [0, 1, 7, 8]
 (.reg false [mV 23 8, oP 24 (.bin .add .val (.t 23) (.c (.int .i64 (1)))), mV 8 24])))
def f142 : AFunc := { np := 2, nt := 42, res := [.tmp 4, .tmp 5, .tmp 6], own := false, body := (.seq (.reg false [oP 4 (.mv (.nil 1)), oP 5 (.mv (.c (.int .i64 (0)))), oP 6 (.mv (.c (.bool false)))]) [0, 1]
 (.seq (.seq (.reg false [mV 9 0, oP 10 (.pcall (.f 57) [.t 9]), oP 11 (.un .not (.t 10))]) [0, 1, 11]
 (.cond (.t 11) (.seq (.reg false [oP 12 (.lit false 1 []), mV 4 12, oP 5 (.mv (.c (.int .i64 (0)))), oP 6 (.mv (.c (.bool false)))]) [4, 5, 6]
 (.ret)) (.skip))) [0, 1]
 (.seq (.reg false [mV 13 0, oP 14 (.pcall (.f 85) [.t 13]), mV 7 14]) [0, 1, 7]
 (.seq (.seq (.reg false [mV 15 1, oP 16 (.pcall (.f 56) [.t 15]), oP 17 (.un .not (.t 16))]) [0, 1, 7, 17]
 (.cond (.t 17) (.seq (.reg false [mV 18 7, mV 4 18, oP 5 (.mv (.c (.int .i64 (0)))), oP 6 (.mv (.c (.bool false)))]) [4, 5, 6]
 (.ret)) (.skip))) [0, 1, 7]
 (.seq (.seq (.reg false [oP 8 (.mv (.c (.int .i64 (0))))]) [0, 1, 7, 8]
 (.block 0 (.loop [0, 1, 7, 8] f142l0))) [0, 7]
 (.seq (.seq (.reg false [mV 31 7, oP 32 (.len false (.t 31)), oP 33 (.bin .gtr .val (.t 32) (.c (.int .i64 (16))))]) [0, 7, 33]
 (.cond (.t 33) (.seq (.reg false [mV 34 0, oP 35 (.pcall (.f 85) [.t 34]), mV 4 35, oP 5 (.mv (.c (.int .i64 (0)))), oP 6 (.mv (.c (.bool false)))]) [4, 5, 6]
 (.ret)) (.skip))) [0, 7]
 (.seq (.reg false [mV 36 7, mV 37 7, oP 38 (.len false (.t 37)), mV 39 0, oP 40 (.len false (.t 39)), oP 41 (.bin .sub .val (.t 38) (.t 40)), mV 4 36, mV 5 41, oP 6 (.mv (.c (.bool true)))]) [4, 5, 6]
 (.ret)))))))) }
/- spec.SetDrop -/
def f143l0 : ACode := (.seq (.seq (.reg false [mV 13 7, mV 14 0, oP 15 (.len false (.t 14)), oP 16 (.bin .lss .val (.t 13) (.t 15))]) [0, 1, 6, 7, 16]
 (.cond (.t 16) (.skip) (.exit 0))) [0, 1, 6, 7]
 (.seq (.block 1 (.seq (.reg false [mV 19 1, mV 20 0, mV 21 7, oP 22 (.iaddr 1 (.t 20) (.t 21)), oL 23 22, oP 24 (.pcall (.f 145) [.t 19, .t 23]), oP 25 (.un .not (.t 24))]) [0, 1, 6, 7, 25]
 (.cond (.t 25) (.reg false [mV 26 6, mV 27 0, mV 28 7, oP 29 (.iaddr 1 (.t 27) (.t 28)), oL 30 29, oP 31 (.lit false 1 [.t 30]), oP 32 (.append 1 16 (.t 26) (.t 31)), mV 6 32]) (.skip)))) [0, 1, 6, 7]
 (.reg false [mV 17 7, oP 18 (.bin .add .val (.t 17) (.c (.int .i64 (1)))), mV 7 18])))
def f143 : AFunc := { np := 2, nt := 39, res := [.tmp 4, .tmp 5], own := false, body := (.seq (.reg false [oP 4 (.mv (.nil 1)), oP 5 (.mv (.c (.int .i64 (0))))]) [0, 1]
 (.seq (.reg false [oP 8 (.lit true 1 []), mV 6 8]) [0, 1, 6]
 (.seq (.seq (.reg false [mV 9 0, oP 10 (.pcall (.f 57) [.t 9]), oP 11 (.un .not (.t 10))]) [0, 1, 6, 11]
 (.cond (.t 11) (.seq (.reg false [mV 12 6, mV 4 12, oP 5 (.mv (.c (.int .i64 (0))))]) [4, 5]
 (.ret)) (.skip))) [0, 1, 6]
 (.seq (.seq (.reg false [oP 7 (.mv (.c (.int .i64 (0))))]) [0, 1, 6, 7]
 (.block 0 (.loop [0, 1, 6, 7] f143l0))) [0, 6]
 (.seq (.reg false [mV 33 6, mV 34 0, oP 35 (.len false (.t 34)), mV 36 6, oP 37 (.len false (.t 36)), oP 38 (.bin .sub .val (.t 35) (.t 37)), mV 4 33, mV 5 38]) [4, 5]
 (.ret)))))) }
/- spec.l5Bool -/
def f144 : AFunc := { np := 1, nt := 6, res := [.cell 2 true 5], own := false, body := (.seq (.reg false [oP 2 (.alloc (.agg [.d (.int .i64 (0)), .d (.int .i64 (0)), .d (.str []), .nils 1, .nils 5]))]) [0, 2]
 (.seq (.seq (.reg false [mV 3 0]) [2, 3]
 (.cond (.t 3) (.seq (.reg false [oP 4 (.pcall (.f 131) [.c (.int .i64 (1))]), oN (.store 5 (.t 2) (.t 4))]) [2]
 (.ret)) (.skip))) [2]
 (.seq (.reg false [oP 5 (.pcall (.f 131) [.c (.int .i64 (0))]), oN (.store 5 (.t 2) (.t 5))]) [2]
 (.ret)))) }
/- spec.l2Has -/
def f145l0 : ACode := (.seq (.seq (.reg false [mV 6 5, mV 7 0, oP 8 (.len false (.t 7)), oP 9 (.bin .lss .val (.t 6) (.t 8))]) [0, 1, 5, 9]
 (.cond (.t 9) (.skip) (.exit 0))) [0, 1, 5]
 (.seq (.block 1 (.seq (.reg false [mV 12 0, mV 13 5, oP 14 (.iaddr 1 (.t 12) (.t 13)), oL 15 14, mV 16 1, oP 17 (.bin .eql .val (.t 15) (.t 16))]) [0, 1, 5, 17]
 (.cond (.t 17) (.seq (.reg false [oP 4 (.mv (.c (.bool true)))]) [4]
 (.ret)) (.skip)))) [0, 1, 5]
 (.reg false [mV 10 5, oP 11 (.bin .add .val (.t 10) (.c (.int .i64 (1)))), mV 5 11])))
def f145 : AFunc := { np := 2, nt := 18, res := [.tmp 4], own := false, body := (.seq (.reg false [oP 4 (.mv (.c (.bool false)))]) [0, 1]
 (.seq (.seq (.reg false [oP 5 (.mv (.c (.int .i64 (0))))]) [0, 1, 5]
 (.block 0 (.loop [0, 1, 5] f145l0))) []
 (.seq (.reg false [oP 4 (.mv (.c (.bool false)))]) [4]
 (.ret)))) }
/- spec.SetBoth -/
def f146l0 : ACode := (.seq (.seq (.reg false [mV 8 6, mV 9 0, oP 10 (.len false (.t 9)), oP 11 (.bin .lss .val (.t 8) (.t 10)), mV 12 11, oG 13 12 true (.mv (.t 0)), oG 14 12 true (.pcall (.f 57) [.t 13]), oP 15 (.pick (.t 12) (.t 14) (.c (.bool false))), mV 16 15, oG 17 16 true (.mv (.t 1)), oG 18 16 true (.pcall (.f 57) [.t 17]), oP 19 (.pick (.t 16) (.t 18) (.c (.bool false)))]) [0, 1, 5, 6, 19]
 (.cond (.t 19) (.skip) (.exit 0))) [0, 1, 5, 6]
 (.seq (.block 1 (.seq (.reg false [mV 22 1, mV 23 0, mV 24 6, oP 25 (.iaddr 1 (.t 23) (.t 24)), oL 26 25, oP 27 (.pcall (.f 145) [.t 22, .t 26])]) [0, 1, 5, 6, 27]
 (.cond (.t 27) (.reg false [mV 28 5, mV 29 0, mV 30 6, oP 31 (.iaddr 1 (.t 29) (.t 30)), oL 32 31, oP 33 (.lit false 1 [.t 32]), oP 34 (.append 1 16 (.t 28) (.t 33)), mV 5 34]) (.skip)))) [0, 1, 5, 6]
 (.reg false [mV 20 6, oP 21 (.bin .add .val (.t 20) (.c (.int .i64 (1)))), mV 6 21])))
def f146 : AFunc := { np := 2, nt := 36, res := [.tmp 4], own := false, body := (.seq (.reg false [oP 4 (.mv (.nil 1))]) [0, 1]
 (.seq (.reg false [oP 7 (.lit true 1 []), mV 5 7]) [0, 1, 5]
 (.seq (.seq (.reg false [oP 6 (.mv (.c (.int .i64 (0))))]) [0, 1, 5, 6]
 (.block 0 (.loop [0, 1, 5, 6] f146l0))) [5]
 (.seq (.reg false [mV 35 5, mV 4 35]) [4]
 (.ret))))) }
/- spec.SetAny -/
def f147l0 : ACode := (.seq (.seq (.reg false [mV 18 6, mV 19 1, oP 20 (.len false (.t 19)), oP 21 (.bin .lss .val (.t 18) (.t 20))]) [1, 5, 6, 21]
 (.cond (.t 21) (.skip) (.exit 0))) [1, 5, 6]
 (.seq (.block 1 (.reg false [mV 24 5, mV 25 1, mV 26 6, oP 27 (.iaddr 1 (.t 25) (.t 26)), oL 28 27, oP 29 (.pcall (.f 125) [.t 24, .t 28]), mV 5 29])) [1, 5, 6]
 (.reg false [mV 22 6, oP 23 (.bin .add .val (.t 22) (.c (.int .i64 (1)))), mV 6 23])))
def f147 : AFunc := { np := 2, nt := 31, res := [.tmp 4], own := false, body := (.seq (.reg false [oP 4 (.mv (.nil 1))]) [0, 1]
 (.seq (.seq (.reg false [mV 7 0, oP 8 (.pcall (.f 57) [.t 7]), oP 9 (.un .not (.t 8)), mV 10 9, oG 11 10 false (.mv (.t 1)), oG 12 10 false (.pcall (.f 57) [.t 11]), oG 13 10 false (.un .not (.t 12)), oP 14 (.pick (.t 10) (.c (.bool true)) (.t 13))]) [0, 1, 14]
 (.cond (.t 14) (.seq (.reg false [oP 15 (.lit false 1 []), mV 4 15]) [4]
 (.ret)) (.skip))) [0, 1]
 (.seq (.reg false [mV 16 0, oP 17 (.pcall (.f 85) [.t 16]), mV 5 17]) [1, 5]
 (.seq (.seq (.reg false [oP 6 (.mv (.c (.int .i64 (0))))]) [1, 5, 6]
 (.block 0 (.loop [1, 5, 6] f147l0))) [5]
 (.seq (.reg false [mV 30 5, mV 4 30]) [4]
 (.ret)))))) }
/- spec.SetLess -/
def f148l0 : ACode := (.seq (.seq (.reg false [mV 8 6, mV 9 0, oP 10 (.len false (.t 9)), oP 11 (.bin .lss .val (.t 8) (.t 10)), mV 12 11, oG 13 12 true (.mv (.t 0)), oG 14 12 true (.pcall (.f 57) [.t 13]), oP 15 (.pick (.t 12) (.t 14) (.c (.bool false))), mV 16 15, oG 17 16 true (.mv (.t 1)), oG 18 16 true (.pcall (.f 57) [.t 17]), oP 19 (.pick (.t 16) (.t 18) (.c (.bool false)))]) [0, 1, 5, 6, 19]
 (.cond (.t 19) (.skip) (.exit 0))) [0, 1, 5, 6]
 (.seq (.block 1 (.seq (.reg false [mV 22 1, mV 23 0, mV 24 6, oP 25 (.iaddr 1 (.t 23) (.t 24)), oL 26 25, oP 27 (.pcall (.f 145) [.t 22, .t 26]), oP 28 (.un .not (.t 27))]) [0, 1, 5, 6, 28]
 (.cond (.t 28) (.reg false [mV 29 5, mV 30 0, mV 31 6, oP 32 (.iaddr 1 (.t 30) (.t 31)), oL 33 32, oP 34 (.lit false 1 [.t 33]), oP 35 (.append 1 16 (.t 29) (.t 34)), mV 5 35]) (.skip)))) [0, 1, 5, 6]
 (.reg false [mV 20 6, oP 21 (.bin .add .val (.t 20) (.c (.int .i64 (1)))), mV 6 21])))
def f148 : AFunc := { np := 2, nt := 37, res := [.tmp 4], own := false, body := (.seq (.reg false [oP 4 (.mv (.nil 1))]) [0, 1]
 (.seq (.reg false [oP 7 (.lit true 1 []), mV 5 7]) [0, 1, 5]
 (.seq (.seq (.reg false [oP 6 (.mv (.c (.int .i64 (0))))]) [0, 1, 5, 6]
 (.block 0 (.loop [0, 1, 5, 6] f148l0))) [5]
 (.seq (.reg false [mV 36 5, mV 4 36]) [4]
 (.ret))))) }
/- spec.ScoresDrop -/
def f149 : AFunc := { np := 2, nt := 20, res := [.tmp 4, .tmp 5], own := false, body := (.seq (.reg false [oP 4 (.mv (.nil 2)), oP 5 (.mv (.c (.bool false)))]) [0, 1]
 (.seq (.seq (.reg false [mV 7 0, oP 8 (.pcall (.f 58) [.t 7]), oP 9 (.un .not (.t 8))]) [0, 1, 9]
 (.cond (.t 9) (.seq (.reg false [oP 10 (.lit false 2 []), mV 4 10, oP 5 (.mv (.c (.bool false)))]) [4, 5]
 (.ret)) (.skip))) [0, 1]
 (.seq (.reg false [mV 11 0, mV 12 1, oP 13 (.pcall (.f 159) [.t 11, .t 12]), mV 6 13]) [0, 6]
 (.seq (.reg false [mV 14 6, mV 15 6, oP 16 (.len false (.t 15)), mV 17 0, oP 18 (.len false (.t 17)), oP 19 (.bin .lss .val (.t 16) (.t 18)), mV 4 14, mV 5 19]) [4, 5]
 (.ret))))) }
/- spec.ScoresRank -/
def f150l0 : ACode := (.seq (.seq (.reg false [mV 6 5, mV 7 0, oP 8 (.len false (.t 7)), oP 9 (.bin .lss .val (.t 6) (.t 8)), mV 10 9, oG 11 10 true (.mv (.t 0)), oG 12 10 true (.pcall (.f 58) [.t 11]), oP 13 (.pick (.t 10) (.t 12) (.c (.bool false)))]) [0, 1, 5, 13]
 (.cond (.t 13) (.skip) (.exit 0))) [0, 1, 5]
 (.seq (.block 1 (.seq (.reg false [mV 16 0, mV 17 5, oP 18 (.iaddr 2 (.t 16) (.t 17)), oF 19 0 18, oL 20 19, mV 21 1, oP 22 (.bin .eql .val (.t 20) (.t 21))]) [0, 1, 5, 22]
 (.cond (.t 22) (.seq (.reg false [mV 23 5, mV 4 23]) [4]
 (.ret)) (.skip)))) [0, 1, 5]
 (.reg false [mV 14 5, oP 15 (.bin .add .val (.t 14) (.c (.int .i64 (1)))), mV 5 15])))
def f150 : AFunc := { np := 2, nt := 24, res := [.tmp 4], own := false, body := (.seq (.reg false [oP 4 (.mv (.c (.int .i64 (0))))]) [0, 1]
 (.seq (.seq (.reg false [oP 5 (.mv (.c (.int .i64 (0))))]) [0, 1, 5]
 (.block 0 (.loop [0, 1, 5] f150l0))) []
 (.seq (.reg false [oP 4 (.mv (.c (.int .i64 (-1))))]) [4]
 (.ret)))) }
/- spec.l5Names -/
def f151l0 : ACode := (.seq (.seq (.reg false [mV 6 4, mV 7 0, oP 8 (.len false (.t 7)), oP 9 (.bin .lss .val (.t 6) (.t 8))]) [0, 3, 4, 9]
 (.cond (.t 9) (.skip) (.exit 0))) [0, 3, 4]
 (.seq (.block 1 (.reg false [mV 12 3, mV 13 0, mV 14 4, oP 15 (.iaddr 2 (.t 13) (.t 14)), oF 16 0 15, oL 17 16, oP 18 (.lit false 1 [.t 17]), oP 19 (.append 1 16 (.t 12) (.t 18)), mV 3 19])) [0, 3, 4]
 (.reg false [mV 10 4, oP 11 (.bin .add .val (.t 10) (.c (.int .i64 (1)))), mV 4 11])))
def f151 : AFunc := { np := 1, nt := 21, res := [.tmp 2], own := false, body := (.seq (.reg false [oP 2 (.mv (.nil 1))]) [0]
 (.seq (.reg false [oP 5 (.lit true 1 []), mV 3 5]) [0, 3]
 (.seq (.seq (.reg false [oP 4 (.mv (.c (.int .i64 (0))))]) [0, 3, 4]
 (.block 0 (.loop [0, 3, 4] f151l0))) [3]
 (.seq (.reg false [mV 20 3, mV 2 20]) [2]
 (.ret))))) }
/- spec.ScoresAt -/
def f152 : AFunc := { np := 3, nt := 37, res := [.tmp 6], own := false, body := (.seq (.reg false [oP 6 (.mv (.nil 2))]) [0, 1, 2]
 (.seq (.seq (.reg false [mV 9 0, oP 10 (.pcall (.f 58) [.t 9]), oP 11 (.un .not (.t 10)), mV 12 11, oG 13 12 false (.mv (.t 1)), oG 14 12 false (.pcall (.f 163) [.t 13]), oG 15 12 false (.un .not (.t 14)), oP 16 (.pick (.t 12) (.c (.bool true)) (.t 15)), mV 17 16, oG 18 17 false (.mv (.t 2)), oG 19 17 false (.pcall (.f 163) [.t 18]), oG 20 17 false (.un .not (.t 19)), oP 21 (.pick (.t 17) (.c (.bool true)) (.t 20))]) [0, 1, 2, 21]
 (.cond (.t 21) (.seq (.reg false [oP 22 (.lit false 2 []), mV 6 22]) [6]
 (.ret)) (.skip))) [0, 1, 2]
 (.seq (.reg false [mV 24 0, oP 25 (.len false (.t 24)), mV 26 1, mV 27 2, oP 28 (.pcall (.f 134) [.t 25, .t 26, .t 27]), mV 23 28, oP 29 (.extract (.t 23) 0), oP 30 (.extract (.t 23) 1), mV 7 29, mV 8 30]) [0, 7, 8]
 (.seq (.reg false [oP 31 (.lit true 2 []), mV 32 0, mV 33 7, mV 34 8, oP 35 (.slice (some 2) (.t 32) (some (.t 33)) (some (.t 34))), oP 36 (.append 2 24 (.t 31) (.t 35)), mV 6 36]) [6]
 (.ret))))) }
/- spec.ScoresBy -/
def f153l0 : ACode := (.seq (.seq (.reg false [mV 10 8, mV 11 0, oP 12 (.len false (.t 11)), oP 13 (.bin .lss .val (.t 10) (.t 12)), mV 14 13, oG 15 14 true (.mv (.t 0)), oG 16 14 true (.pcall (.f 58) [.t 15]), oP 17 (.pick (.t 14) (.t 16) (.c (.bool false)))]) [0, 1, 2, 7, 8, 17]
 (.cond (.t 17) (.skip) (.exit 0))) [0, 1, 2, 7, 8]
 (.seq (.block 1 (.seq (.reg false [mV 20 0, mV 21 8, oP 22 (.iaddr 2 (.t 20) (.t 21)), oF 23 1 22, oL 24 23, mV 25 1, mV 26 2, oP 27 (.pcall (.f 32) [.t 24, .t 25, .t 26])]) [0, 1, 2, 7, 8, 27]
 (.cond (.t 27) (.reg false [mV 28 7, mV 29 0, mV 30 8, oP 31 (.iaddr 2 (.t 29) (.t 30)), oP 32 (.load true 2 (.t 31)), oP 33 (.lit false 2 [.t 32]), oP 34 (.append 2 24 (.t 28) (.t 33)), mV 7 34]) (.skip)))) [0, 1, 2, 7, 8]
 (.reg false [mV 18 8, oP 19 (.bin .add .val (.t 18) (.c (.int .i64 (1)))), mV 8 19])))
def f153 : AFunc := { np := 3, nt := 36, res := [.tmp 6], own := false, body := (.seq (.reg false [oP 6 (.mv (.nil 2))]) [0, 1, 2]
 (.seq (.reg false [oP 9 (.lit true 2 []), mV 7 9]) [0, 1, 2, 7]
 (.seq (.seq (.reg false [oP 8 (.mv (.c (.int .i64 (0))))]) [0, 1, 2, 7, 8]
 (.block 0 (.loop [0, 1, 2, 7, 8] f153l0))) [7]
 (.seq (.reg false [mV 35 7, mV 6 35]) [6]
 (.ret))))) }
/- spec.FieldsGet -/
def f154 : AFunc := { np := 2, nt := 26, res := [.tmp 4, .tmp 5], own := false, body := (.seq (.reg false [oP 4 (.mv (.c (.str []))), oP 5 (.mv (.c (.bool false)))]) [0, 1]
 (.seq (.reg false [mV 9 0, mV 10 1, oP 11 (.pcall (.f 127) [.t 9, .t 10]), mV 8 11, oP 12 (.extract (.t 8) 0), oP 13 (.extract (.t 8) 1), mV 6 12, mV 7 13]) [0, 6, 7]
 (.seq (.seq (.reg false [mV 14 0, oP 15 (.pcall (.f 59) [.t 14]), oP 16 (.un .not (.t 15)), mV 17 16, oG 18 17 false (.mv (.t 7)), oG 19 17 false (.un .not (.t 18)), oP 20 (.pick (.t 17) (.c (.bool true)) (.t 19))]) [0, 6, 20]
 (.cond (.t 20) (.seq (.reg false [oP 4 (.mv (.c (.str []))), oP 5 (.mv (.c (.bool false)))]) [4, 5]
 (.ret)) (.skip))) [0, 6]
 (.seq (.reg false [mV 21 0, mV 22 6, oP 23 (.iaddr 2 (.t 21) (.t 22)), oF 24 1 23, oL 25 24, mV 4 25, oP 5 (.mv (.c (.bool true)))]) [4, 5]
 (.ret))))) }
/- spec.FieldsDrop -/
def f155 : AFunc := { np := 2, nt := 33, res := [.tmp 4, .tmp 5], own := false, body := (.seq (.reg false [oP 4 (.mv (.nil 2)), oP 5 (.mv (.c (.bool false)))]) [0, 1]
 (.seq (.seq (.reg false [mV 8 0, oP 9 (.pcall (.f 59) [.t 8]), oP 10 (.un .not (.t 9))]) [0, 1, 10]
 (.cond (.t 10) (.seq (.reg false [oP 11 (.lit false 2 []), mV 4 11, oP 5 (.mv (.c (.bool false)))]) [4, 5]
 (.ret)) (.skip))) [0, 1]
 (.seq (.reg false [mV 13 0, mV 14 1, oP 15 (.pcall (.f 127) [.t 13, .t 14]), mV 12 15, oP 16 (.extract (.t 12) 0), oP 17 (.extract (.t 12) 1), mV 6 16, mV 7 17]) [0, 6, 7]
 (.seq (.seq (.reg false [mV 18 7, oP 19 (.un .not (.t 18))]) [0, 6, 19]
 (.cond (.t 19) (.seq (.reg false [oP 20 (.lit true 2 []), mV 21 0, oP 22 (.append 2 32 (.t 20) (.t 21)), mV 4 22, oP 5 (.mv (.c (.bool false)))]) [4, 5]
 (.ret)) (.skip))) [0, 6]
 (.seq (.regx [(true, mV 24 0), (true, mV 25 6), (true, oP 26 (.slice (some 2) (.t 24) none (some (.t 25)))), (true, mV 28 0), (true, mV 29 6), (true, oP 30 (.bin .add .val (.t 29) (.c (.int .i64 (1))))), (true, oP 31 (.slice (some 2) (.t 28) (some (.t 30)) none)), (true, oP 23 (.lit true 2 [])), (false, oP 26 (.slice (some 2) (.t 24) none (some (.t 25)))), (false, oP 31 (.slice (some 2) (.t 28) (some (.t 30)) none)), (true, oP 27 (.append 2 32 (.t 23) (.t 26))), (false, oP 31 (.slice (some 2) (.t 28) (some (.t 30)) none)), (true, oP 32 (.append 2 32 (.t 27) (.t 31))), (true, mV 4 32), (true, oP 5 (.mv (.c (.bool true))))]) [4, 5]
 (.ret)))))) }
/- spec.l5Type -/
def f156 : AFunc := { np := 1, nt := 7, res := [.tmp 2], own := false, body := (.seq (.reg false [oP 2 (.mv (.c (.str [])))]) [0]
 (.seq (.reg false [oP 3 (.lit false 1 [.c (.str [110, 111, 110, 101]), .c (.str [115, 116, 114, 105, 110, 103]), .c (.str [108, 105, 115, 116]), .c (.str [115, 101, 116]), .c (.str [122, 115, 101, 116]), .c (.str [104, 97, 115, 104])]), mV 4 0, oP 5 (.iaddr 1 (.t 3) (.t 4)), oL 6 5, mV 2 6]) [2]
 (.ret))) }
/- cmp.isNaN[int] -/
def f157 : AFunc := { np := 1, nt := 6, res := [.tmp 2], own := false, body := (.seq (.reg false [oP 2 (.mv (.c (.bool false)))]) [0]
 (.seq (.reg false [mV 3 0, mV 4 0, oP 5 (.bin .neq .val (.t 3) (.t 4)), mV 2 5]) [2]
 (.ret))) }
/- spec.l3Without -/
def f159l0 : ACode := (.seq (.seq (.reg false [mV 8 6, mV 9 0, oP 10 (.len false (.t 9)), oP 11 (.bin .lss .val (.t 8) (.t 10))]) [0, 1, 5, 6, 11]
 (.cond (.t 11) (.skip) (.exit 0))) [0, 1, 5, 6]
 (.seq (.block 1 (.seq (.reg false [mV 14 0, mV 15 6, oP 16 (.iaddr 2 (.t 14) (.t 15)), oF 17 0 16, oL 18 17, mV 19 1, oP 20 (.bin .neq .val (.t 18) (.t 19))]) [0, 1, 5, 6, 20]
 (.cond (.t 20) (.reg false [mV 21 5, mV 22 0, mV 23 6, oP 24 (.iaddr 2 (.t 22) (.t 23)), oP 25 (.load true 2 (.t 24)), oP 26 (.lit false 2 [.t 25]), oP 27 (.append 2 24 (.t 21) (.t 26)), mV 5 27]) (.skip)))) [0, 1, 5, 6]
 (.reg false [mV 12 6, oP 13 (.bin .add .val (.t 12) (.c (.int .i64 (1)))), mV 6 13])))
def f159 : AFunc := { np := 2, nt := 29, res := [.tmp 4], own := false, body := (.seq (.reg false [oP 4 (.mv (.nil 2))]) [0, 1]
 (.seq (.reg false [oP 7 (.lit true 2 []), mV 5 7]) [0, 1, 5]
 (.seq (.seq (.reg false [oP 6 (.mv (.c (.int .i64 (0))))]) [0, 1, 5, 6]
 (.block 0 (.loop [0, 1, 5, 6] f159l0))) [5]
 (.seq (.reg false [mV 28 5, mV 4 28]) [4]
 (.ret))))) }
/- spec.l1Args -/
def f160l0 : ACode := (.seq (.seq (.reg false [mV 4 3, mV 5 0, oP 6 (.len false (.t 5)), oP 7 (.bin .lss .val (.t 4) (.t 6))]) [0, 3, 7]
 (.cond (.t 7) (.skip) (.exit 0))) [0, 3]
 (.seq (.block 1 (.seq (.reg false [mV 10 0, mV 11 3, oP 12 (.iaddr 1 (.t 10) (.t 11)), oL 13 12, oP 14 (.len true (.t 13)), oP 15 (.bin .gtr .val (.t 14) (.c (.int .i64 (40))))]) [0, 3, 15]
 (.cond (.t 15) (.seq (.reg false [oP 2 (.mv (.c (.bool false)))]) [2]
 (.ret)) (.skip)))) [0, 3]
 (.reg false [mV 8 3, oP 9 (.bin .add .val (.t 8) (.c (.int .i64 (1)))), mV 3 9])))
def f160 : AFunc := { np := 1, nt := 19, res := [.tmp 2], own := false, body := (.seq (.reg false [oP 2 (.mv (.c (.bool false)))]) [0]
 (.seq (.seq (.reg false [oP 3 (.mv (.c (.int .i64 (0))))]) [0, 3]
 (.block 0 (.loop [0, 3] f160l0))) [0]
 (.seq (.reg false [mV 16 0, oP 17 (.len false (.t 16)), oP 18 (.pcall (.f 32) [.t 17, .c (.int .i64 (1)), .c (.int .i64 (8))]), mV 2 18]) [2]
 (.ret)))) }
/- spec.l1Figures -/
def f161l0 : ACode := (.seq (.seq (.reg false [mV 5 4, mV 6 0, oP 7 (.len true (.t 6)), oP 8 (.bin .lss .val (.t 5) (.t 7))]) [0, 3, 4, 8]
 (.cond (.t 8) (.skip) (.exit 0))) [0, 3, 4]
 (.seq (.block 1 (.seq (.seq (.reg false [mV 11 0, mV 12 4, oP 13 (.idx (.t 11) (.t 12)), oP 14 (.bin .lss .val (.t 13) (.c (.int .u8 (48)))), mV 15 14, oG 16 15 false (.mv (.t 0)), oG 17 15 false (.mv (.t 4)), oG 18 15 false (.idx (.t 16) (.t 17)), oG 19 15 false (.bin .gtr .val (.t 18) (.c (.int .u8 (57)))), oP 20 (.pick (.t 15) (.c (.bool true)) (.t 19))]) [0, 3, 4, 20]
 (.cond (.t 20) (.seq (.reg false [oP 2 (.mv (.c (.int .i64 (-1))))]) [2]
 (.ret)) (.skip))) [0, 3, 4]
 (.seq (.reg false [mV 21 4, oP 22 (.bin .lss .val (.t 21) (.c (.int .i64 (10))))]) [0, 3, 4, 22]
 (.cond (.t 22) (.reg false [mV 23 3, oP 24 (.bin .mul .val (.t 23) (.c (.int .i64 (10)))), mV 25 0, mV 26 4, oP 27 (.idx (.t 25) (.t 26)), oP 28 (.bin .sub .val (.t 27) (.c (.int .u8 (48)))), oP 29 (.cvInt .i64 (.t 28)), oP 30 (.bin .add .val (.t 24) (.t 29)), mV 3 30]) (.skip))))) [0, 3, 4]
 (.reg false [mV 9 4, oP 10 (.bin .add .val (.t 9) (.c (.int .i64 (1)))), mV 4 10])))
def f161 : AFunc := { np := 1, nt := 46, res := [.tmp 2], own := false, body := (.seq (.reg false [oP 2 (.mv (.c (.int .i64 (0))))]) [0]
 (.seq (.reg false [oP 3 (.mv (.c (.int .i64 (0))))]) [0, 3]
 (.seq (.seq (.reg false [oP 4 (.mv (.c (.int .i64 (0))))]) [0, 3, 4]
 (.block 0 (.loop [0, 3, 4] f161l0))) [0, 3]
 (.seq (.seq (.reg false [mV 31 0, oP 32 (.len true (.t 31)), oP 33 (.pcall (.f 32) [.t 32, .c (.int .i64 (1)), .c (.int .i64 (10))]), oP 34 (.un .not (.t 33)), mV 35 34, oG 36 35 false (.mv (.t 0)), oG 37 35 false (.len true (.t 36)), oG 38 35 false (.bin .gtr .val (.t 37) (.c (.int .i64 (1)))), oG 39 35 false (.mv (.t 38)), oG 40 39 true (.mv (.t 0)), oG 41 39 true (.idx (.t 40) (.c (.int .i64 (0)))), oG 42 39 true (.bin .eql .val (.t 41) (.c (.int .u8 (48)))), oG 43 35 false (.pick (.t 39) (.t 42) (.c (.bool false))), oP 44 (.pick (.t 35) (.c (.bool true)) (.t 43))]) [3, 44]
 (.cond (.t 44) (.seq (.reg false [oP 2 (.mv (.c (.int .i64 (-1))))]) [2]
 (.ret)) (.skip))) [3]
 (.seq (.reg false [mV 45 3, mV 2 45]) [2]
 (.ret)))))) }
/- spec.l2Push -/
def f162l0 : ACode := (.seq (.seq (.reg false [mV 11 8, mV 12 2, oP 13 (.len false (.t 12)), oP 14 (.bin .lss .val (.t 11) (.t 13))]) [1, 2, 7, 8, 14]
 (.cond (.t 14) (.skip) (.exit 0))) [1, 2, 7, 8]
 (.seq (.block 1 (.seq (.reg false [mV 17 1]) [1, 2, 7, 8, 17]
 (.cond (.t 17) (.reg false [mV 18 2, mV 19 8, oP 20 (.iaddr 1 (.t 18) (.t 19)), oL 21 20, oP 22 (.lit true 1 [.t 21]), mV 23 7, oP 24 (.append 1 16 (.t 22) (.t 23)), mV 7 24]) (.reg false [mV 25 7, mV 26 2, mV 27 8, oP 28 (.iaddr 1 (.t 26) (.t 27)), oL 29 28, oP 30 (.lit false 1 [.t 29]), oP 31 (.append 1 16 (.t 25) (.t 30)), mV 7 31])))) [1, 2, 7, 8]
 (.reg false [mV 15 8, oP 16 (.bin .add .val (.t 15) (.c (.int .i64 (1)))), mV 8 16])))
def f162 : AFunc := { np := 3, nt := 33, res := [.tmp 6], own := false, body := (.seq (.reg false [oP 6 (.mv (.nil 1))]) [0, 1, 2]
 (.seq (.reg false [mV 9 0, oP 10 (.call (.f 85) [(false, .t 9)] false), mV 7 10]) [1, 2, 7]
 (.seq (.seq (.reg false [oP 8 (.mv (.c (.int .i64 (0))))]) [1, 2, 7, 8]
 (.block 0 (.loop [1, 2, 7, 8] f162l0))) [7]
 (.seq (.reg false [mV 32 7, mV 6 32]) [6]
 (.ret))))) }
/- spec.l2Place -/
def f163 : AFunc := { np := 1, nt := 5, res := [.tmp 2], own := false, body := (.seq (.reg false [oP 2 (.mv (.c (.bool false)))]) [0]
 (.seq (.reg false [mV 3 0, oP 4 (.pcall (.f 32) [.t 3, .c (.int .i64 (-1000000000)), .c (.int .i64 (1000000000))]), mV 2 4]) [2]
 (.ret))) }
/- spec.l2Turn -/
def f164l0 : ACode := (.seq (.seq (.reg false [mV 9 4, oP 10 (.bin .geq .val (.t 9) (.c (.int .i64 (0))))]) [0, 3, 4, 10]
 (.cond (.t 10) (.skip) (.exit 0))) [0, 3, 4]
 (.seq (.block 1 (.reg false [mV 13 3, mV 14 0, mV 15 4, oP 16 (.iaddr 1 (.t 14) (.t 15)), oL 17 16, oP 18 (.lit false 1 [.t 17]), oP 19 (.append 1 16 (.t 13) (.t 18)), mV 3 19])) [0, 3, 4]
 (.reg false [mV 11 4, oP 12 (.bin .sub .val (.t 11) (.c (.int .i64 (1)))), mV 4 12])))
def f164 : AFunc := { np := 1, nt := 21, res := [.tmp 2], own := false, body := (.seq (.reg false [oP 2 (.mv (.nil 1))]) [0]
 (.seq (.reg false [oP 5 (.lit true 1 []), mV 3 5]) [0, 3]
 (.seq (.seq (.reg false [mV 6 0, oP 7 (.len false (.t 6)), oP 8 (.bin .sub .val (.t 7) (.c (.int .i64 (1)))), mV 4 8]) [0, 3, 4]
 (.block 0 (.loop [0, 3, 4] f164l0))) [3]
 (.seq (.reg false [mV 20 3, mV 2 20]) [2]
 (.ret))))) }
def tab : List (Nat × AFunc) := [(3, f3), (4, f4), (7, f7), (8, f8), (9, f9), (10, f10), (11, f11), (12, f12), (13, f13), (14, f14), (15, f15), (16, f16), (17, f17), (18, f18), (27, f27), (28, f28), (29, f29), (30, f30), (31, f31), (32, f32), (33, f33), (34, f34), (35, f35), (36, f36), (37, f37), (38, f38), (39, f39), (40, f40), (41, f41), (45, f45), (46, f46), (47, f47), (50, f50), (52, f52), (53, f53), (54, f54), (55, f55), (56, f56), (57, f57), (58, f58), (59, f59), (60, f60), (61, f61), (62, f62), (63, f63), (64, f64), (65, f65), (66, f66), (67, f67), (68, f68), (69, f69), (74, f74), (75, f75), (80, f80), (81, f81), (82, f82), (83, f83), (84, f84), (85, f85), (86, f86), (87, f87), (88, f88), (89, f89), (100, f100), (101, f101), (105, f105), (106, f106), (107, f107), (108, f108), (109, f109), (110, f110), (111, f111), (112, f112), (113, f113), (114, f114), (115, f115), (116, f116), (117, f117), (118, f118), (119, f119), (125, f125), (126, f126), (127, f127), (128, f128), (129, f129), (130, f130), (131, f131), (132, f132), (133, f133), (134, f134), (135, f135), (136, f136), (137, f137), (138, f138), (139, f139), (140, f140), (141, f141), (142, f142), (143, f143), (144, f144), (145, f145), (146, f146), (147, f147), (148, f148), (149, f149), (150, f150), (151, f151), (152, f152), (153, f153), (154, f154), (155, f155), (156, f156), (157, f157), (159, f159), (160, f160), (161, f161), (162, f162), (163, f163), (164, f164)]
noncomputable abbrev R : Prg := ofTab tab
end Go.Proofs.YtjdmiodinhlchaaGreat.Code

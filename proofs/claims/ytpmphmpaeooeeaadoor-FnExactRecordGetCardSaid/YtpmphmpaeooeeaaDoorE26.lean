/- From the evaluator to the program: a law's answer. -/
import Derived.Test.YtpmphmpaeooeeaaDoorE25
import Derived.Below
import Derived.IntWalk
namespace Go.Ev
open Go
set_option linter.unusedSimpArgs false
set_option linter.unusedVariables false

theorem beq_lit (a b : Nat) : Nat.beq a b = decide (a = b) := by
  cases h : Nat.beq a b with
  | true => simp [Nat.eq_of_beq_eq_true h]
  | false => symm; rw [decide_eq_false_iff_not]; intro e; subst e; simp at h

def getF : List (Nat × AFunc) → Nat → Option AFunc
  | [], _ => none
  | (k, f) :: r, n => bif Nat.beq k n then some f else getF r n

theorem getF_mem : ∀ {t : List (Nat × AFunc)} {k : Nat} {f : AFunc}, getF t k = some f → (k, f) ∈ t
  | [], _, _, h => by simp [getF] at h
  | (j, g) :: r, k, f, h => by
    simp only [getF] at h
    cases hb : Nat.beq j k with
    | true =>
      rw [hb] at h
      simp only [cond_true, Option.some.injEq] at h
      subst h
      rw [Nat.eq_of_beq_eq_true hb]
      simp
    | false =>
      rw [hb] at h
      exact List.mem_cons_of_mem _ (getF_mem h)

/-- A program whose functions are those of a table, its variables unread. -/
def ofTab (t : List (Nat × AFunc)) : Prg := { fns := getF t, glob := fun _ => none, prim := fun _ => none }

theorem ofTab_ok {P : Program} {t : List (Nat × AFunc)} (hm : P.follows .mixedOrders = true) (h : ∀ p ∈ t, ∃ fn, P.funcs[p.1]? = some fn ∧ chkFunc P fn p.2 = true) : PrgOk P (ofTab t) :=
  ⟨hm, fun _ _ hk => h _ (getF_mem hk), fun _ _ hp => by simp [ofTab] at hp⟩

/-- What a call of data gives. -/
theorem calls_ev {P : Program} {R : Prg} (hR : PrgOk P R) {k : Nat} {xs : List D} {x : D} (h : ev R k (xs.map .d) [] = some (.d x, [])) {w : World} {us : Array Value} (hG : GR R.glob w (fun _ => False)) (hl : us.size = xs.length) (hu : ∀ i, i < xs.length → RD w (fun _ => False) (xs.getD i .nilp) (us.getD i undef)) :
    Calls P k us w fun e w' => ∃ u, e = .returned u ∧ RD w' (fun _ => False) x u ∧ RowKit.Below w.heap.size w w' := by
  have E0 : Ext w (fun _ => False) w (owned (fun _ _ => none) []) := ⟨rfl, rfl, rfl, Nat.le_refl _, fun b _ _ => ⟨rfl, owned_none _ b⟩⟩
  refine ((ev_sound hR h).2 w (fun _ _ => none) (fun _ => False) us (HR.none w _) (hG.mono E0) ⟨by simpa using hl, fun i hi => ?_⟩).mono fun e w' he => ?_
  · rw [getD_map_d xs i (by simpa using hi)]
    exact .d _ _ ((hu i (by simpa using hi)).mono E0)
  · obtain ⟨u, pl', rfl, hf⟩ := he
    exact ⟨u, rfl, hf.rv.dd.mono ⟨rfl, rfl, rfl, Nat.le_refl _, fun b _ _ => ⟨rfl, fun h => h⟩⟩, hf.ext.os, hf.ext.tape, hf.ext.output, hf.ext.size, fun b hb => (hf.ext.keep b hb (owned_none _ b)).1⟩

theorem calls_bool {P : Program} {R : Prg} (hR : PrgOk P R) {k : Nat} {xs : List D} {b : Bool} (h : ev R k (xs.map .d) [] = some (.d (.bool b), [])) {w : World} {us : Array Value} (hG : GR R.glob w (fun _ => False)) (hl : us.size = xs.length) (hu : ∀ i, i < xs.length → RD w (fun _ => False) (xs.getD i .nilp) (us.getD i undef)) :
    Calls P k us w fun e w' => e = .returned (.bool b) ∧ RowKit.Below w.heap.size w w' := by
  refine (calls_ev hR h hG hl hu).mono fun e w' he => ?_
  obtain ⟨u, rfl, hd, hb⟩ := he
  exact ⟨by rw [hd.bool_eq], hb⟩

theorem gr_tab {t : List (Nat × AFunc)} {w : World} : GR (ofTab t).glob w (fun _ => False) := fun n cs h => by simp [ofTab] at h

theorem rd_str (w : World) (s : ByteArray) : RD w (fun _ => False) (.str s.data.toList) (.string s) := .str _ _ rfl
theorem rd_int (w : World) (k : IntKind) (n : Int) : RD w (fun _ => False) (.int k n) (.int k n) := .int _ _

/-- A pure function's call. -/
theorem pure_of {R : Prg} {k : Nat} {args : List V} {v : V} (h : ∀ H, ev R k args H = some (v, H)) : pureCall (ev R) k args = some v := pureCall_eq h
end Go.Ev

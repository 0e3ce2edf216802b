/- Each operation of compact code does what the model's operation does: the plain ones. -/
import Derived.Test.YtpmphmpaeooeeaaDoorE4
namespace Go.Ev
open Go
set_option linter.unusedSimpArgs false
set_option linter.unusedVariables false

def GR (G : Glob) (w : World) (O : Own) : Prop := ∀ n cs, G n = some cs → RD w O (.rptr cs) (.pointer (some ⟨n, 0, none⟩)) ∧ ∃ arr ty fr, w.heap[n]? = some (.cells arr ty fr) ∧ arr.size = cs.length
theorem GR.mono {G : Glob} {w w' : World} {O O' : Own} (E : Ext w O w' O') (h : GR G w O) : GR G w' O' := fun n cs hn => by
  obtain ⟨h1, h2⟩ := h n cs hn
  refine ⟨h1.mono E, ?_⟩
  cases h1 with
  | rptr _ b o F hO hb hc h1c hr =>
    rw [(E.keep n hb hO).1]
    exact h2

def RE (w : World) (O : Own) (pl : Pl) (n : Nat) (env : Env) (a : Act) : Prop := ∀ t, (env.get t).ok = true → RV w O pl n (env.get t) (a.tmps.getD t undef)
theorem RE.mono {w w' : World} {O O' : Own} {pl pl' : Pl} {n n' : Nat} (E : Ext w O w' O') (hp : PlExt n pl pl') (hn : n ≤ n') {env : Env} {a : Act} (h : RE w O pl n env a) : RE w' O' pl' n' env a :=
  fun t ht => (h t ht).mono E hp hn

theorem cst1_ok {w : World} {O : Own} {x : D} {u : Value} (h : cst1 x u = true) : RD w O x u := by
  unfold cst1 at h
  split at h <;> simp at h
  · subst h; exact .bool _
  · obtain ⟨rfl, rfl⟩ := h; exact .int _ _
  · exact .str _ _ h
  · exact .vals0 _ _ _
  · exact .nilp
  · exact .nilfn
  · exact .niface
  · exact .mval0

theorem cst1_one {x : D} {u : Value} (h : cst1 x u = true) : u.oneCell' = true := by
  unfold cst1 at h
  split at h <;> first | rfl | simp at h

theorem cst1s_ok {xs : List D} {us : List Value} (h : cst1s xs us = true) : us.length = xs.length ∧ ∀ i, i < xs.length → cst1 (xs.getD i .nilp) (us.getD i undef) = true := by
  induction xs generalizing us with
  | nil => cases us <;> simp [cst1s] at h ⊢
  | cons x xs ih =>
    cases us with
    | nil => simp [cst1s] at h
    | cons u us =>
      simp [cst1s] at h
      obtain ⟨h1, h2⟩ := ih h.2
      refine ⟨by simp [h1], fun i hi => ?_⟩
      cases i with
      | zero => exact h.1
      | succ i => exact h2 i (by simpa using hi)

theorem cstOk_ok {w : World} {O : Own} {x : D} {u : Value} (h : cstOk x u = true) : RD w O x u := by
  unfold cstOk at h
  split at h
  · rename_i cs us
    obtain ⟨h1, h2⟩ := cst1s_ok h
    refine .agg cs us (by simpa using h1) (fun i hi => ?_) (fun i hi => ?_)
    · have := h2 i hi
      simpa [Array.getD_eq_getD_getElem?, List.getD_eq_getElem?_getD] using cst1_one this
    · have := cst1_ok (w := w) (O := O) (h2 i hi)
      simpa [Array.getD_eq_getD_getElem?, List.getD_eq_getElem?_getD] using this
  · exact cst1_ok h

theorem vcst1_ok {w : World} {O : Own} {pl : Pl} {n : Nat} {x : V} {u : Value} (h : vcst1 x u = true) : RV w O pl n x u ∧ u.oneCell' = true := by
  unfold vcst1 at h
  split at h
  · exact ⟨.d _ _ (cst1_ok h), cst1_one h⟩
  · exact ⟨.nils _ _, rfl⟩
  · simp at h

theorem vcst1s_ok {xs : List V} {us : List Value} (h : vcst1s xs us = true) : us.length = xs.length ∧ ∀ i, i < xs.length → vcst1 (xs.getD i .any) (us.getD i undef) = true := by
  induction xs generalizing us with
  | nil => cases us <;> simp [vcst1s] at h ⊢
  | cons x xs ih =>
    cases us with
    | nil => simp [vcst1s] at h
    | cons u us =>
      simp [vcst1s] at h
      obtain ⟨h1, h2⟩ := ih h.2
      refine ⟨by simp [h1], fun i hi => ?_⟩
      cases i with
      | zero => exact h.1
      | succ i => exact h2 i (by simpa using hi)

theorem vcstOk_ok {w : World} {O : Own} {pl : Pl} {n : Nat} {x : V} {u : Value} (h : vcstOk x u = true) : RV w O pl n x u := by
  unfold vcstOk at h
  split at h
  · rename_i cs us
    obtain ⟨h1, h2⟩ := vcst1s_ok h
    refine .agg cs us (by simpa using h1) (fun i hi => ?_) (fun i hi => ?_)
    · have := (vcst1_ok (w := w) (O := O) (pl := pl) (n := n) (h2 i hi)).2
      simpa [Array.getD_eq_getD_getElem?, List.getD_eq_getElem?_getD] using this
    · have := (vcst1_ok (w := w) (O := O) (pl := pl) (n := n) (h2 i hi)).1
      simpa [Array.getD_eq_getD_getElem?, List.getD_eq_getElem?_getD] using this
  · exact .d _ _ (cstOk_ok h)
  · exact .nils _ _
  · simp at h

section
variable {P : Program} {cl : Callf} {G : Glob} {w : World} {pl : Pl} {Bd : Nat → Prop} {H : Hp} {env : Env} {a : Act}

theorem opd_ok {O : Own} {n : Nat} {x : AOpd} {X : Operand} (h : opdOk x X = true) (hG : GR G w O) (hE : RE w O pl n env a) (hk : (opd G env x).ok = true) :
    RV w O pl n (opd G env x) (a.eval X) := by
  unfold opdOk at h
  split at h
  · rename_i m m'
    have hm : m = m' := Nat.eq_of_beq_eq_true h
    subst hm
    exact hE m hk
  · exact .d _ _ (cstOk_ok h)
  · have := Nat.eq_of_beq_eq_true h
    subst this
    exact .d _ _ (.fn _ _ _ rfl (fun i hi => by simp at hi))
  · rename_i m m'
    have hm : m = m' := Nat.eq_of_beq_eq_true h
    subst hm
    cases hg : G m with
    | none => simp [opd, hg, V.ok] at hk
    | some cs =>
      have : opd G env (.g m) = .d (.rptr cs) := by simp [opd, hg]
      rw [this]
      exact .d _ _ (hG m cs hg).1
  · exact .nils _ _
  · exact .und
  · simp at h

/-- What stands behind an operation. -/
structure Fin (w : World) (pl : Pl) (Bd : Nat → Prop) (H : Hp) (v : V) (H' : Hp) (u : Value) (w' : World) (pl' : Pl) : Prop where
  hr : HR w' pl' Bd H'
  rv : RV w' (owned pl' H') pl' (hlen H') v u
  ext : Ext w (owned pl H) w' (owned pl' H')
  ple : PlExt (hlen H) pl pl'
  le : hlen H ≤ hlen H'

def OpSim (P : Program) (o : Oper) (a : Act) (w : World) (pl : Pl) (Bd : Nat → Prop) (H : Hp) (v : V) (H' : Hp) : Prop :=
  ∀ (next : Act → World → Prop) (Q : Exit → Act → World → Prop), (∀ u w' pl', Fin w pl Bd H v H' u w' pl' → next (a.put o.dst u) w') → o.wp P a w next Q

theorem OpSim.value {o : Oper} {v : V} {H' : Hp} {u : Value} {w' : World} {pl' : Pl} (hrun : (execOp a.eval o).run P w = .ok (.value u) w') (hf : Fin w pl Bd H v H' u w' pl') : OpSim P o a w pl Bd H v H' := by
  intro next Q hn
  unfold Oper.wp
  rw [hrun, Oper.upon_value]
  exact hn u w' pl' hf

theorem OpSim.skip {o : Oper} {H' : Hp} {w' : World} {pl' : Pl} {v : V} (hrun : (execOp a.eval o).run P w = .ok .skip w') (hf : Fin w pl Bd H v H' undef w' pl') : OpSim P o a w pl Bd H v H' := by
  intro next Q hn
  unfold Oper.wp
  rw [hrun, Oper.upon_skip]
  exact hn _ w' pl' hf

/-- Nothing but a value. -/
theorem OpSim.pure (hH : HR w pl Bd H) {o : Oper} {v : V} {u : Value} (hrun : (execOp a.eval o).run P w = .ok (.value u) w) (hv : RV w (owned pl H) pl (hlen H) v u) : OpSim P o a w pl Bd H v H :=
  .value hrun ⟨hH, hv, Ext.refl _ _, PlExt.refl _ _, Nat.le_refl _⟩

theorem szIs_some {t n : Nat} (h : szIs P t n = true) : ∃ i, P.info? t = some i ∧ i.size = n := by
  unfold szIs at h
  split at h
  · rename_i i hi; exact ⟨i, hi, Nat.eq_of_beq_eq_true h⟩
  · simp at h

theorem run_sizeOf {t n : Nat} (h : szIs P t n = true) (w : World) : (sizeOf t).run P w = .ok n w := by
  obtain ⟨i, hi, hs⟩ := szIs_some h
  simp [sizeOf, typeInfo, hi, hs]

theorem run_isAgg {t : Nat} {b : Bool} (h : aggIs P t b = true) (w : World) : (Go.isAgg t).run P w = .ok b w := by
  unfold aggIs at h
  split at h
  · rename_i d hd; simp [Go.isAgg, run_underlying hd, h]
  · rename_i d e hd; simp [Go.isAgg, run_underlying hd, h]
  · rename_i d h1 h2 hd
    cases d <;> first | (simp [Go.isAgg, run_underlying hd]; simpa using h.symm) | exact absurd rfl (h1 _) | exact absurd rfl (h2 _ _)
  · simp at h

theorem sim_mv (hG : GR G w (owned pl H)) (hH : HR w pl Bd H) (hE : RE w (owned pl H) pl (hlen H) env a) {o : Oper} {X : Operand} (ho : o.op = .move X ∨ o.op = .assign X) {x : AOpd} (hx : opdOk x X = true)
    (hk : (opd G env x).ok = true) : OpSim P o a w pl Bd H (opd G env x) H :=
  .pure hH (u := a.eval X) (by rcases ho with ho | ho <;> simp [execOp, ho]) (opd_ok hx hG hE hk)

theorem rv_ptr {O : Own} {n r g i j b e c off : Nat} (hr : r < n) (hp : pl r g = some (b, e, c)) (ho : off = i * e + j) : RV w O pl n (.ptr r g i j) (.pointer (some ⟨b, off, none⟩)) := by
  subst ho; exact .ptr r g i j b e c hr hp
theorem rv_slc {O : Own} {n r g i k b e c off cap : Nat} (hr : r < n) (hp : pl r g = some (b, e, c)) (hk : i + k ≤ c) (ho : off = i * e) (hc : cap = c - i) : RV w O pl n (.slc r g i k) (.slice (some ⟨b, off, none⟩) k cap) := by
  subst ho; subst hc; exact .slc r g i k b e c hr hp hk

theorem ok_of_bool {v : V} {b : Bool} (h : v = .d (.bool b)) : v.ok = true := by subst h; rfl

theorem RV.bool_eq {O : Own} {n : Nat} {b : Bool} {u : Value} (h : RV w O pl n (.d (.bool b)) u) : u = .bool b := by
  cases h with
  | d _ _ h => cases h; rfl
theorem RV.int_eq {O : Own} {n : Nat} {k : IntKind} {m : Int} {u : Value} (h : RV w O pl n (.d (.int k m)) u) : u = .int k m := by
  cases h with
  | d _ _ h => cases h; rfl
theorem RV.str_eq {O : Own} {n : Nat} {s : List UInt8} {u : Value} (h : RV w O pl n (.d (.str s)) u) : u = .string ⟨s.toArray⟩ := by
  cases h with
  | d _ _ h => cases h; rename_i t ht; cases t; simp at ht; subst ht; simp

theorem sim_pick (hG : GR G w (owned pl H)) (hH : HR w pl Bd H) (hE : RE w (owned pl H) pl (hlen H) env a) {o : Oper} {C X Y : Operand} (ho : o.op = .pick C X Y) {c x y : AOpd} (hc : opdOk c C = true) (hx : opdOk x X = true) (hy : opdOk y Y = true)
    {t : Bool} (ht : opd G env c = .d (.bool t)) (hk : (bif t then opd G env x else opd G env y).ok = true) : OpSim P o a w pl Bd H (bif t then opd G env x else opd G env y) H := by
  have hcv := opd_ok hc hG hE (ok_of_bool ht)
  rw [ht] at hcv
  have hce := hcv.bool_eq
  refine .pure hH (u := if t then a.eval X else a.eval Y) (by simp [execOp, ho, hce, asBool]) ?_
  cases t
  · exact opd_ok hy hG hE hk
  · exact opd_ok hx hG hE hk

/-- A new object: a row. -/
theorem fin_row (hH : HR w pl Bd H) {w' : World} {e c : Nat} {xs : List V} {arr : Array Value} {ty : TypeId} {fr : Nat × Nat} (hw : w'.heap = w.heap.push (.cells arr ty fr)) (hs : Same w w') (hsz : arr.size = c * e) (hf : Unfrozen fr arr.size)
    (hx : xs.length ≤ c) (he : ∀ i, i < xs.length → (xs.getD i .any).cells.length = e)
    (hr : ∀ i j, i < xs.length → j < e → RV w (owned pl H) pl (hlen H) ((xs.getD i .any).cells.getD j .any) (arr.getD (i * e + j) undef))
    (h1 : ∀ i j, i < xs.length → j < e → (arr.getD (i * e + j) undef).oneCell' = true) :
    ∃ pl', pl' (hlen H) 0 = some (w.heap.size, e, c) ∧ HR w' pl' Bd (hpush H (.row 0 e xs)) ∧ Ext w (owned pl H) w' (owned pl' (hpush H (.row 0 e xs))) ∧ PlExt (hlen H) pl pl' := by
  have hpl : PlExt (hlen H) pl (plNew pl (hlen H) (w.heap.size, e, c)) := fun r hr g p hp => by rw [plNew_ne (by omega)]; exact hp
  obtain ⟨h2, h3, h4⟩ := hH.push (w' := w') (.row 0 e xs) (.cells arr ty fr) e c hw hs (by simp [blk, hget_hpush_self, plNew_self]) (fun O' E => by
    refine .row 0 e xs w.heap.size c arr ty fr (plNew_self ..) (by rw [hw]; simp) hsz hf hx he (fun i j hi hj => (hr i j hi hj).mono E hpl (by omega)) h1 (fun g' hg' => ?_)
    show (if hlen H = hlen H then (if g' = 0 then some (w.heap.size, e, c) else none) else pl (hlen H) g') = none
    rw [if_pos rfl, if_neg (by omega)])
  exact ⟨_, plNew_self .., h2, h3, h4⟩

theorem unfrozen0 (n : Nat) : Unfrozen (0, 0) n := fun o _ h => by simp at h

theorem sim_box (hG : GR G w (owned pl H)) (hH : HR w pl Bd H) (hE : RE w (owned pl H) pl (hlen H) env a) {o : Oper} {t : TypeId} {X : Operand} (ho : o.op = .box t X) {x : AOpd} (hx : opdOk x X = true)
    (hk : (opd G env x).sto = true) : OpSim P o a w pl Bd H (.ptr (hlen H) 0 0 0) (hpush H (.row 0 (opd G env x).cells.length [opd G env x])) := by
  have hok : (opd G env x).ok = true := by revert hk; cases opd G env x <;> simp [V.sto, V.ok]
  have hv := opd_ok hx hG hE hok
  have hc := hv.cells hk
  obtain ⟨pl', h1, h2, h3, h4⟩ := fin_row hH (w' := { w with heap := w.heap.push (.cells (a.eval X).cells t) }) (e := (opd G env x).cells.length) (c := 1) (xs := [opd G env x]) rfl ⟨rfl, rfl, rfl⟩ (by rw [hc.size]; simp) (unfrozen0 _) (by simp)
    (fun i hi => by obtain rfl : i = 0 := by simpa using hi
                    rfl)
    (fun i j hi hj => by obtain rfl : i = 0 := by simpa using hi
                         simpa using hc.rel j hj)
    (fun i j hi hj => by obtain rfl : i = 0 := by simpa using hi
                         simpa using hc.one j hj)
  refine .value (u := .pointer (some ⟨w.heap.size, 0, none⟩)) (by simp [execOp, ho, Instr.box, newVar, newRow]) ⟨h2, ?_, h3, h4, by rw [hlen_hpush]; omega⟩
  exact rv_ptr (by rw [hlen_hpush]; omega) h1 (by simp)
end
end Go.Ev

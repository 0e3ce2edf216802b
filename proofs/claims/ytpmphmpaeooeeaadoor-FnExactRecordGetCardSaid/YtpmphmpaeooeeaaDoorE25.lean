/- What a program's functions mean: the least meaning that its code gives, and that the program does what it says. -/
import Derived.Test.YtpmphmpaeooeeaaDoorE24
namespace Go.Ev
open Go
set_option linter.unusedSimpArgs false
set_option linter.unusedVariables false

/-! ### Loops -/
theorem rounds_more {f : St → Option (Out × St)} {lv : List Nat} : ∀ {n : Nat} {st : St} {r : Out × St}, rounds f lv n st = some r → rounds f lv (n + 1) st = some r
  | 0, _, _, h => by simp [rounds] at h
  | n + 1, st, r, h => by
    rw [rounds] at h ⊢
    cases hf : f ⟨st.env.keep lv, st.hp⟩ with
    | none => rw [hf] at h; simp at h
    | some p =>
      obtain ⟨o, s⟩ := p
      rw [hf] at h
      cases o with
      | normal => exact rounds_more h
      | exit id => exact h
      | ret => exact h

theorem rounds_le {f : St → Option (Out × St)} {lv : List Nat} {n m : Nat} (hm : n ≤ m) {st : St} {r : Out × St} (h : rounds f lv n st = some r) : rounds f lv m st = some r := by
  induction hm with
  | refl => exact h
  | step _ ih => exact rounds_more ih

open Classical in
noncomputable def evLoop (f : St → Option (Out × St)) (lv : List Nat) (st : St) : Option (Out × St) :=
  if h : ∃ r, ∃ n, rounds f lv n st = some r then some h.choose else none

theorem evLoop_iff {f : St → Option (Out × St)} {lv : List Nat} {st : St} {r : Out × St} : evLoop f lv st = some r ↔ ∃ n, rounds f lv n st = some r := by
  unfold evLoop
  constructor
  · intro h
    split at h
    · rename_i hx
      simp only [Option.some.injEq] at h
      rw [← h]; exact hx.choose_spec
    · simp at h
  · rintro ⟨n, hn⟩
    have hx : ∃ r, ∃ n, rounds f lv n st = some r := ⟨r, n, hn⟩
    rw [dif_pos hx]
    obtain ⟨m, hm⟩ := hx.choose_spec
    have h1 := rounds_le (Nat.le_max_left n m) hn
    have h2 := rounds_le (Nat.le_max_right n m) hm
    rw [h1] at h2
    exact h2.symm

theorem evLoop_eq (f : St → Option (Out × St)) (lv : List Nat) (st : St) : evLoop f lv st = (match f ⟨st.env.keep lv, st.hp⟩ with
    | some (.normal, st') => evLoop f lv st'
    | r => r) := by
  cases hf : f ⟨st.env.keep lv, st.hp⟩ with
  | none =>
    cases he : evLoop f lv st with
    | none => rfl
    | some r =>
      obtain ⟨n, hn⟩ := evLoop_iff.1 he
      cases n <;> simp [rounds, hf] at hn
  | some p =>
    obtain ⟨o, s⟩ := p
    cases o with
    | normal =>
      simp only
      cases he : evLoop f lv s with
      | none =>
        cases he' : evLoop f lv st with
        | none => rfl
        | some r =>
          obtain ⟨n, hn⟩ := evLoop_iff.1 he'
          cases n with
          | zero => simp [rounds] at hn
          | succ n =>
            simp only [rounds, hf] at hn
            have := evLoop_iff.2 ⟨n, hn⟩
            rw [he] at this
            simp at this
      | some r =>
        obtain ⟨n, hn⟩ := evLoop_iff.1 he
        exact evLoop_iff.2 ⟨n + 1, by simp only [rounds, hf]; exact hn⟩
    | exit id => exact evLoop_iff.2 ⟨1, by simp only [rounds, hf]⟩
    | ret => exact evLoop_iff.2 ⟨1, by simp only [rounds, hf]⟩

theorem evLoop_ok : LpOk evLoop := fun _ _ _ _ h => evLoop_iff.1 h

/-! ### More is known: more is told -/
def CLe (cl cl' : Callf) : Prop := ∀ k args H r, cl k args H = some r → cl' k args H = some r

section
variable {cl cl' : Callf} (hle : CLe cl cl') {G : Glob} {n0 : Nat}

theorem pureCall_mono {k : Nat} {args : List V} {v : V} (hle : CLe cl cl') (h : pureCall cl k args = some v) : pureCall cl' k args = some v :=
  pureCall_eq fun H => hle _ _ _ _ (pureCall_some h H)

theorem evOp_mono (hle : CLe cl cl') {env : Env} {H : Hp} {op : AOp} {r : V × Hp} (h : evOp cl G n0 env H op = some r) : evOp cl' G n0 env H op = some r := by
  cases op <;> try exact h
  case call f as fr =>
    simp only [evOp] at h ⊢
    split at h
    · split at h
      · split at h
        · rename_i hr
          rw [hle _ _ _ _ hr]
          exact h
        · simp at h
      · simp at h
    · simp at h
  case pcall f as =>
    simp only [evOp] at h ⊢
    split at h
    · split at h
      · split at h
        · rename_i hr
          rw [pureCall_mono hle hr]
          exact h
        · simp at h
      · simp at h
    · simp at h

theorem evOper_mono (hle : CLe cl cl') {o : AOper} {st st' : St} (h : evOper cl G n0 o st = some st') : evOper cl' G n0 o st = some st' := by
  obtain ⟨v, H, ha, rfl⟩ := evOper_some h
  refine evOper_of ?_
  unfold actOf at ha ⊢
  split at ha
  · exact evOp_mono hle ha
  · split at ha
    · rename_i want _ _ b _
      cases hb : (b == want) <;> simp only [hb, cond_true, cond_false] at ha ⊢
      · exact ha
      · exact evOp_mono hle ha
    · exact ha
    · simp at ha

theorem evOps_mono (hle : CLe cl cl') : ∀ (os : List AOper) {st st' : St}, evOps cl G n0 os st = some st' → evOps cl' G n0 os st = some st'
  | [], _, _, h => h
  | o :: os, st, st', h => by
    simp only [evOps] at h ⊢
    split at h
    · rename_i s1 h1
      rw [evOper_mono hle h1]
      exact evOps_mono hle os h
    · simp at h

theorem rounds_mono {f f' : St → Option (Out × St)} (hf : ∀ st r, f st = some r → f' st = some r) {lv : List Nat} : ∀ {n : Nat} {st : St} {r : Out × St}, rounds f lv n st = some r → rounds f' lv n st = some r
  | 0, _, _, h => by simp [rounds] at h
  | n + 1, st, r, h => by
    rw [rounds] at h ⊢
    cases hp : f ⟨st.env.keep lv, st.hp⟩ with
    | none => rw [hp] at h; simp at h
    | some p =>
      obtain ⟨o, s⟩ := p
      rw [hp] at h
      rw [hf _ _ hp]
      cases o with
      | normal => exact rounds_mono hf h
      | exit id => exact h
      | ret => exact h

theorem evCode_mono (hle : CLe cl cl') : ∀ (ac : ACode) {st : St} {r : Out × St}, evCode cl G n0 evLoop ac st = some r → evCode cl' G n0 evLoop ac st = some r := by
  intro ac
  induction ac with
  | skip => intro st r h; exact h
  | reg d os =>
    intro st r h
    simp only [evCode] at h ⊢
    split at h
    · rename_i s1 h1
      rw [evOps_mono hle os h1]; exact h
    · simp at h
  | seq x lv y ihx ihy =>
    intro st r h
    simp only [evCode] at h ⊢
    cases hx : evCode cl G n0 evLoop x st with
    | none => rw [hx] at h; simp at h
    | some p =>
      obtain ⟨o, s⟩ := p
      rw [hx] at h
      rw [ihx hx]
      cases o with
      | normal => exact ihy h
      | exit id => exact h
      | ret => exact h
  | cond c x y ihx ihy =>
    intro st r h
    simp only [evCode] at h ⊢
    split at h
    · rename_i t ht
      cases t with
      | true => exact ihx h
      | false => exact ihy h
    · simp at h
  | block id x ih =>
    intro st r h
    simp only [evCode] at h ⊢
    cases hx : evCode cl G n0 evLoop x st with
    | none => rw [hx] at h; simp at h
    | some p =>
      rw [hx] at h
      rw [ih hx]
      exact h
  | loop lv x ih =>
    intro st r h
    simp only [evCode] at h ⊢
    obtain ⟨n, hn⟩ := evLoop_iff.1 h
    exact evLoop_iff.2 ⟨n, rounds_mono (fun st r hh => ih hh) hn⟩
  | scope x ih => intro st r h; exact ih h
  | exit id => intro st r h; exact h
  | ret => intro st r h; exact h

theorem evBody_mono (hle : CLe cl cl') {fn : AFunc} {args : List V} {H : Hp} {r : V × Hp} (h : evBody cl G evLoop fn args H = some r) : evBody cl' G evLoop fn args H = some r := by
  unfold evBody at h ⊢
  split at h
  · rename_i hl
    rw [if_pos hl]
    cases hx : evCode cl G (hlen H) evLoop fn.body ⟨zipEnv 0 args, H⟩ with
    | none => rw [hx] at h; simp at h
    | some p => rw [hx] at h; rw [evCode_mono hle _ hx]; exact h
  · simp at h
end

/-! ### The least meaning -/
/-- One step of meaning. -/
noncomputable def evStep (R : Prg) (cl : Callf) : Callf := fun f args H =>
  match R.prim f with
  | some p => p args H
  | none =>
    match R.fns f with
    | some fn => evBody cl R.glob evLoop fn args H
    | none => none

theorem evStep_mono {R : Prg} {cl cl' : Callf} (hle : CLe cl cl') : CLe (evStep R cl) (evStep R cl') := by
  intro k args H r h
  unfold evStep at h ⊢
  split at h
  · exact h
  · split at h
    · exact evBody_mono hle h
    · simp at h

abbrev Graph := Nat → List V → Hp → V × Hp → Prop
def Under (cl : Callf) (X : Graph) : Prop := ∀ k args H r, cl k args H = some r → X k args H r
/-- A set of answers that is closed under the program's steps. -/
def Shut (R : Prg) (X : Graph) : Prop := ∀ cl, Under cl X → Under (evStep R cl) X
/-- The least such. -/
def Least (R : Prg) : Graph := fun k args H r => ∀ X, Shut R X → X k args H r

theorem least_shut (R : Prg) : Shut R (Least R) := fun cl hcl k args H r h X hX => hX cl (fun k args H r h => hcl k args H r h X hX) k args H r h
theorem least_in {R : Prg} {X : Graph} (hX : Shut R X) {k : Nat} {args : List V} {H : Hp} {r : V × Hp} (h : Least R k args H r) : X k args H r := h X hX

/-- Each answer comes of a step. -/
theorem least_step {R : Prg} {k : Nat} {args : List V} {H : Hp} {r : V × Hp} (h : Least R k args H r) : ∃ cl, Under cl (Least R) ∧ evStep R cl k args H = some r := by
  refine least_in (X := fun k args H r => Least R k args H r ∧ ∃ cl, Under cl (Least R) ∧ evStep R cl k args H = some r) ?_ h |>.2
  intro cl hcl k args H r hr
  have hu : Under cl (Least R) := fun k args H r h => (hcl k args H r h).1
  exact ⟨least_shut R cl hu k args H r hr, cl, hu, hr⟩

open Classical in
/-- Two partial functions joined. -/
noncomputable def both (c d : Callf) : Callf := fun k args H => match c k args H with | some r => some r | none => d k args H

theorem least_one {R : Prg} {k : Nat} {args : List V} {H : Hp} {r : V × Hp} (h : Least R k args H r) : ∀ r', Least R k args H r' → r' = r := by
  refine (least_in (X := fun k args H r => Least R k args H r ∧ ∀ r', Least R k args H r' → r' = r) ?_ h).2
  intro cl hcl k args H r hr
  have hu : Under cl (Least R) := fun k args H r h => (hcl k args H r h).1
  refine ⟨least_shut R cl hu k args H r hr, fun r' hr' => ?_⟩
  obtain ⟨cl', hu', hs'⟩ := least_step hr'
  have h1 : CLe cl (both cl cl') := fun k args H r h => by simp only [both, h]
  have h2 : CLe cl' (both cl cl') := fun k args H r h => by
    simp only [both]
    cases hc : cl k args H with
    | none => exact h
    | some r2 =>
      have := (hcl k args H r2 hc).2 r (hu' k args H r h)
      simp only; rw [this]
  have e1 := evStep_mono h1 k args H r hr
  have e2 := evStep_mono h2 k args H r' hs'
  rw [e1] at e2
  exact (Option.some.inj e2).symm

open Classical in
/-- What the program's functions mean. -/
noncomputable def ev (R : Prg) : Callf := fun k args H => if h : ∃ r, Least R k args H r then some h.choose else none

theorem ev_iff {R : Prg} {k : Nat} {args : List V} {H : Hp} {r : V × Hp} : ev R k args H = some r ↔ Least R k args H r := by
  unfold ev
  constructor
  · intro h
    split at h
    · rename_i hx
      simp only [Option.some.injEq] at h
      rw [← h]; exact hx.choose_spec
    · simp at h
  · intro h
    have hx : ∃ r, Least R k args H r := ⟨r, h⟩
    rw [dif_pos hx, least_one h _ hx.choose_spec]

theorem ev_of {R : Prg} {k : Nat} {args : List V} {H : Hp} {r : V × Hp} (h : evStep R (ev R) k args H = some r) : ev R k args H = some r :=
  ev_iff.2 (least_shut R (ev R) (fun _ _ _ _ h => ev_iff.1 h) k args H r h)

/-- A function of the program. -/
theorem ev_fn {R : Prg} {k : Nat} {fn : AFunc} (hp : R.prim k = none) (hf : R.fns k = some fn) {args : List V} {H : Hp} {r : V × Hp} (h : evBody (ev R) R.glob evLoop fn args H = some r) : ev R k args H = some r := by
  refine ev_of ?_
  unfold evStep
  rw [hp, hf]
  exact h

theorem ev_prim {R : Prg} {k : Nat} {p : List V → Hp → Option (V × Hp)} (hp : R.prim k = some p) {args : List V} {H : Hp} {r : V × Hp} (h : p args H = some r) : ev R k args H = some r := by
  refine ev_of ?_
  unfold evStep
  rw [hp]
  exact h

/-! ### The program does what it says -/
/-- One answer holds of the program. -/
def SoundAt (P : Program) (G : Glob) (k : Nat) (args : List V) (H : Hp) (r : V × Hp) : Prop := FnOk P k ∧
    ∀ (w : World) (pl : Pl) (Bd : Nat → Prop) (us : Array Value), HR w pl Bd H → GR G w (owned pl H) → RVs w (owned pl H) pl (hlen H) args us →
      Calls P k us w fun e w' => ∃ u pl', e = .returned u ∧ Fin w pl Bd H r.1 r.2 u w' pl'

def chkFunc (P : Program) (fn : Func) (af : AFunc) : Bool :=
  (match fn.body with | some c => chkCode P fn.ntmps c af.body | none => false) && resOk P af.res fn.results.toList && !(fn.name == "runtime.NumGoroutine")

structure PrgOk (P : Program) (R : Prg) : Prop where
  mixed : P.follows .mixedOrders = true
  fns : ∀ k af, R.fns k = some af → ∃ fn, P.funcs[k]? = some fn ∧ chkFunc P fn af = true
  prims : ∀ k p, R.prim k = some p → ∀ args H r, p args H = some r → SoundAt P R.glob k args H r

theorem get_zipEnv : ∀ (args : List V) (k t : Nat), (zipEnv k args).get t = if k ≤ t ∧ t < k + args.length then args.getD (t - k) .any else .any
  | [], k, t => by
    have : ¬ (k ≤ t ∧ t < k + 0) := by omega
    simp [zipEnv, Env.get]
  | v :: args, k, t => by
    simp only [zipEnv, Env.get]
    cases hb : Nat.beq k t with
    | true =>
      have := Nat.eq_of_beq_eq_true hb
      subst this
      simp
    | false =>
      have hne : k ≠ t := fun he => by subst he; simp at hb
      rw [cond_false, get_zipEnv args (k + 1) t]
      by_cases h : k + 1 ≤ t ∧ t < k + 1 + args.length
      · rw [if_pos h, if_pos ⟨by omega, by simp; omega⟩]
        have : t - k = (t - (k + 1)) + 1 := by omega
        rw [this]; rfl
      · rw [if_neg h, if_neg (by simp; omega)]

theorem re_args {w : World} {O : Own} {pl : Pl} {n : Nat} {args : List V} {us : Array Value} (h : RVs w O pl n args us) (m : Nat) : RE w O pl n (zipEnv 0 args) { tmps := us ++ Array.replicate m undef, defers := [] } := by
  intro t ht
  rw [get_zipEnv] at ht ⊢
  by_cases hl : 0 ≤ t ∧ t < 0 + args.length
  · rw [if_pos hl] at ht ⊢
    have h1 := h.1
    have htl : t < args.length := by omega
    have e : (us ++ Array.replicate m undef).getD t undef = us.getD t undef := by
      rw [Array.getD_eq_getD_getElem?, Array.getD_eq_getD_getElem?, Array.getElem?_append_left (by omega)]
    simp only [Nat.sub_zero]
    rw [e]
    exact h.2 t htl
  · rw [if_neg hl] at ht
    simp [V.ok] at ht

theorem mapO_fz_ok {w : World} {pl : Pl} {Bd : Nat → Prop} {H : Hp} (hH : HR w pl Bd H) {n : Nat} (hn : Bd n) {vs ws : List V} (h : mapO (fzV n H) vs = some ws) {us : List Value} (hu : ∀ i, i < vs.length → (vs.getD i .any).ok = true → RV w (owned pl H) pl (hlen H) (vs.getD i .any) (us.getD i undef)) :
    ws.length = vs.length ∧ ∀ i, i < ws.length → RV w (owned pl (htake H n)) pl n (ws.getD i .any) (us.getD i undef) := by
  obtain ⟨h1, h2⟩ := mapO_some (d := V.any) (d' := V.any) h
  refine ⟨h1, fun i hi => ?_⟩
  have := h2 i (by omega)
  exact fzV_ok hH hn this (hu i (by omega) (fzV_known this))

theorem body_sound {P : Program} {R : Prg} (hR : PrgOk P R) {cl : Callf} (hcl : CallSound P R.glob cl) {k : Nat} {af : AFunc} (hf : R.fns k = some af) {args : List V} {H : Hp} {r : V × Hp} (h : evBody cl R.glob evLoop af args H = some r) : SoundAt P R.glob k args H r := by
  obtain ⟨fn, hfn, hck⟩ := hR.fns k af hf
  unfold chkFunc at hck
  rw [Bool.and_eq_true, Bool.and_eq_true] at hck
  obtain ⟨⟨hbody, hres⟩, hname⟩ := hck
  cases hb : fn.body with
  | none => rw [hb] at hbody; simp at hbody
  | some c =>
    rw [hb] at hbody
    simp only at hbody
    refine ⟨⟨fn, hfn, by simpa using hname, by rw [hb]; rfl⟩, fun w pl Bd us hH hG hargs => ?_⟩
    refine calls_of_wp hfn hb ?_
    unfold evBody at h
    split at h
    · rename_i hnp
      have hstart : Rel R.glob (fun m => Bd m ∨ m = hlen H) w (owned pl H) pl (hlen H) fn.ntmps ⟨zipEnv 0 args, H⟩ { tmps := us ++ Array.replicate (fn.ntmps - us.size) undef, defers := [] } w :=
        ⟨⟨pl, hH.enter, re_args hargs _, hG, Ext.refl _ _, PlExt.refl _ _, Nat.le_refl _⟩, by simp; omega, rfl⟩
      have hn0 : ∀ m, (Bd m ∨ m = hlen H) → m ≤ hlen H := fun m hm => by
        rcases hm with hm | rfl
        · exact hH.le m hm
        · exact Nat.le_refl _
      -- how it leaves
      have leaving : ∀ (st : St), leave af (hlen H) st = some r → ∀ (a' : Act) (w' : World), Rel R.glob (fun m => Bd m ∨ m = hlen H) w (owned pl H) pl (hlen H) fn.ntmps st a' w' →
          a'.defers = [] ∧ ∃ v, (results fn a'.tmps).run P w' = .ok v w' ∧ ∃ u pl', Ending.returned v = .returned u ∧ Fin w pl Bd H r.1 r.2 u w' pl' := by
        intro st hl a' w' hRel
        obtain ⟨⟨pl', h1, h2, h3, h4, h5, h6⟩, h7, h8⟩ := hRel
        refine ⟨h8, ?_⟩
        unfold leave at hl
        split at hl
        · rename_i vs hvs
          obtain ⟨xs, l1, l2, l3, l4⟩ := res_ok h1 h2 af.res fn.results.toList vs hres hvs
          refine ⟨retOf xs.toArray, run_results l1 l3, retOf xs.toArray, ?_⟩
          split at hl
          · split at hl
            · rename_i ws H1 H2 hown
              simp only [Option.some.injEq] at hl
              subst hl
              have hinv := OwnInv.start (Bd := Bd) h1 (Or.inr rfl) (fun m hm => ⟨Or.inl hm, hH.le m hm⟩)
              obtain ⟨plb', t, lw, rw'⟩ := ownL_ok h1 vs xs st.hp pl' _ ws H1 H2 hinv hown (by omega) l4
              have hE := t.inv.ext
              refine ⟨plb', rfl, t.inv.hr, ?_, h4.trans hE, h5.trans (t.ple.le ?_), Nat.le_trans ?_ t.le⟩
              · exact rv_tup (by omega) fun i hi => (rw' i hi).mono hE (PlExt.refl _ _) (Nat.le_refl _)
              · rw [hlen_htake h6]; omega
              · rw [hlen_htake h6]; omega
            · simp at hl
          · split at hl
            · rename_i ws hws
              simp only [Option.some.injEq] at hl
              subst hl
              obtain ⟨lw, rw'⟩ := mapO_fz_ok h1 (Or.inr rfl) hws (us := xs) l4
              obtain ⟨t1, t2⟩ := h1.take (hlen H) (Or.inr rfl) (Bd' := Bd) (fun m hm => ⟨Or.inl hm, hH.le m hm⟩)
              refine ⟨pl', rfl, t1, ?_, h4.trans t2, h5, by rw [hlen_htake h6]; omega⟩
              rw [hlen_htake h6]
              exact rv_tup (by omega) rw'
            · simp at hl
        · simp at hl
      split at h
      · rename_i st hc
        exact code_sound hR.mixed hcl hn0 evLoop_ok af.body c hbody _ .normal st hc _ w _ hstart fun a' w' hRel => leaving st h a' w' hRel
      · rename_i st hc
        exact code_sound hR.mixed hcl hn0 evLoop_ok af.body c hbody _ .ret st hc _ w _ hstart fun a' w' hRel => leaving st h a' w' hRel
      · simp at h
    · simp at h

theorem ev_sound {P : Program} {R : Prg} (hR : PrgOk P R) {k : Nat} {args : List V} {H : Hp} {r : V × Hp} (h : ev R k args H = some r) : SoundAt P R.glob k args H r := by
  refine least_in (X := SoundAt P R.glob) ?_ (ev_iff.1 h)
  intro cl hcl k args H r hr
  have hcs : CallSound P R.glob cl := fun k args H v H' hh => hcl k args H (v, H') hh
  unfold evStep at hr
  split at hr
  · rename_i p hp
    exact hR.prims k p hp args H r hr
  · split at hr
    · rename_i af haf
      exact body_sound hR hcs haf hr
    · simp at hr
end Go.Ev

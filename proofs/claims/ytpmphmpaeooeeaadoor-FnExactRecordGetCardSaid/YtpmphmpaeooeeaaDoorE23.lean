/- Code: its steps, branches and rounds. -/
import Derived.Test.YtpmphmpaeooeeaaDoorE22
import Derived.LoopN
import Derived.Scope
namespace Go.Ev
open Go
set_option linter.unusedSimpArgs false
set_option linter.unusedVariables false

def chkCode (P : Program) (nt : Nat) : Code → ACode → Bool
  | .skip, .skip => true
  | .region _ ops draw, .reg draw' aos => (draw == draw') && chkOps P ops nt ops.toList aos && (!draw || ordOk ops aos)
  | .seq x y, .seq a _ b => chkCode P nt x a && chkCode P nt y b
  | .cond c x y, .cond d a b => opdOk d c && chkCode P nt x a && chkCode P nt y b
  | .block i x, .block j a => Nat.beq i j && chkCode P nt x a
  | .loop x, .loop _ a => chkCode P nt x a
  | .scope x, .scope a => chkCode P nt x a
  | .exit i, .exit j => Nat.beq i j
  | .ret, .ret => true
  | _, _ => false

def Out.to : Out → Exit
  | .normal => .normal
  | .exit id => .exit id
  | .ret => .ret

theorem get_keep (env : Env) (lv : List Nat) (t : Nat) : ((env.keep lv).get t).ok = true → (env.keep lv).get t = env.get t := by
  induction lv with
  | nil => intro h; simp [Env.keep, Env.get, V.ok] at h
  | cons k lv ih =>
    simp only [Env.keep, Env.get]
    cases hb : Nat.beq k t with
    | true => intro _; rw [Nat.eq_of_beq_eq_true hb]; rfl
    | false => exact ih

section
variable {P : Program} {cl : Callf} {G : Glob} {Bd : Nat → Prop} {w0 : World} {O0 : Own} {pl0 : Pl} {n0 nt : Nat}

theorem Rel.keep {st : St} {a : Act} {w : World} (h : Rel G Bd w0 O0 pl0 n0 nt st a w) (lv : List Nat) : Rel G Bd w0 O0 pl0 n0 nt ⟨st.env.keep lv, st.hp⟩ a w := by
  obtain ⟨⟨pl, h1, h2, h3, h4, h5, h6⟩, h7, h8⟩ := h
  refine ⟨⟨pl, h1, fun t ht => ?_, h3, h4, h5, h6⟩, h7, h8⟩
  have := get_keep st.env lv t ht
  rw [this] at ht ⊢
  exact h2 t ht

/-- What a way to run loops must be: rounds, so many of them. -/
def LpOk (lp : (St → Option (Out × St)) → List Nat → St → Option (Out × St)) : Prop := ∀ f lv st r, lp f lv st = some r → ∃ n, rounds f lv n st = some r

theorem code_sound (hm : P.follows .mixedOrders = true) (hcl : CallSound P G cl) (hn0 : ∀ m, Bd m → m ≤ n0) {lp : (St → Option (Out × St)) → List Nat → St → Option (Out × St)} (hlp : LpOk lp) :
    ∀ (ac : ACode) (c : Code), chkCode P nt c ac = true → ∀ (st : St) (out : Out) (st' : St), evCode cl G n0 lp ac st = some (out, st') → ∀ (a : Act) (w : World) (Q : Exit → Act → World → Prop), Rel G Bd w0 O0 pl0 n0 nt st a w →
      (∀ a' w', Rel G Bd w0 O0 pl0 n0 nt st' a' w' → Q out.to a' w') → c.wp P Q a w := by
  intro ac
  induction ac with
  | skip =>
    intro c hc st out st' h a w Q hR hQ
    cases c <;> simp only [chkCode, Bool.false_eq_true] at hc
    simp only [evCode, Option.some.injEq, Prod.mk.injEq] at h
    obtain ⟨rfl, rfl⟩ := h
    exact wp_skip (hQ a w hR)
  | reg draw aos =>
    intro c hc st out st' h a w Q hR hQ
    cases c <;> simp only [chkCode, Bool.false_eq_true] at hc
    rename_i id ops dr
    rw [Bool.and_eq_true, Bool.and_eq_true, Bool.or_eq_true] at hc
    simp only [evCode] at h
    split at h
    · rename_i s1 h1
      simp only [Option.some.injEq, Prod.mk.injEq] at h
      obtain ⟨rfl, rfl⟩ := h
      exact reg_sound hm hcl hn0 hc.1.2 (fun hd => hc.2.resolve_left (by simp [hd])) hR h1 hQ
    · simp at h
  | seq x lv y ihx ihy =>
    intro c hc st out st' h a w Q hR hQ
    cases c <;> simp only [chkCode, Bool.false_eq_true] at hc
    rename_i cx cy
    rw [Bool.and_eq_true] at hc
    simp only [evCode] at h
    refine wp_seq ?_
    split at h
    · rename_i s1 h1
      exact ihx cx hc.1 st .normal s1 h1 a w _ hR fun a' w' hR' => ihy cy hc.2 _ out st' h a' w' Q (hR'.keep lv) hQ
    · rename_i hne
      refine ihx cx hc.1 st out st' h a w _ hR fun a' w' hR' => ?_
      have := hQ a' w' hR'
      cases out with
      | normal => exact absurd h (hne st')
      | exit id => exact this
      | ret => exact this
  | cond d x y ihx ihy =>
    intro c hc st out st' h a w Q hR hQ
    cases c <;> simp only [chkCode, Bool.false_eq_true] at hc
    rename_i oc cx cy
    rw [Bool.and_eq_true, Bool.and_eq_true] at hc
    simp only [evCode] at h
    split at h
    · rename_i t ht
      have hv : a.eval oc = .bool t := by
        obtain ⟨⟨pl, h1, h2, h3, h4, h5, h6⟩, h7, h8⟩ := hR
        have := opd_ok hc.1.1 h3 h2 (by rw [ht]; rfl)
        rw [ht] at this
        exact this.bool_eq
      refine wp_cond hv ?_
      cases t with
      | true => exact ihx cx hc.1.2 st out st' h a w Q hR hQ
      | false => exact ihy cy hc.2 st out st' h a w Q hR hQ
    · simp at h
  | block id x ih =>
    intro c hc st out st' h a w Q hR hQ
    cases c <;> simp only [chkCode, Bool.false_eq_true] at hc
    rename_i id' cx
    rw [Bool.and_eq_true] at hc
    have hid := Nat.eq_of_beq_eq_true hc.1
    subst hid
    simp only [evCode] at h
    refine wp_block ?_
    split at h
    · rename_i k s1 h1
      refine ih cx hc.2 st _ s1 h1 a w _ hR fun a' w' hR' => ?_
      show Exit.inBlock id' Q (.exit k) a' w'
      simp only [Exit.inBlock]
      cases hb : Nat.beq k id' with
      | true =>
        rw [if_pos (Nat.eq_of_beq_eq_true hb)]
        rw [hb] at h
        simp only [cond_true, Option.some.injEq, Prod.mk.injEq] at h
        obtain ⟨rfl, rfl⟩ := h
        exact hQ a' w' hR'
      | false =>
        rw [if_neg (fun he => by subst he; simp at hb)]
        rw [hb] at h
        simp only [cond_false, Option.some.injEq, Prod.mk.injEq] at h
        obtain ⟨rfl, rfl⟩ := h
        exact hQ a' w' hR'
    · rename_i hne
      refine ih cx hc.2 st out st' h a w _ hR fun a' w' hR' => ?_
      have := hQ a' w' hR'
      cases out with
      | normal => exact this
      | exit k => exact absurd h (hne k st')
      | ret => exact this
  | loop lv x ih =>
    intro c hc st out st' h a w Q hR hQ
    cases c <;> simp only [chkCode, Bool.false_eq_true] at hc
    rename_i cx
    simp only [evCode] at h
    obtain ⟨n, hn⟩ := hlp _ _ _ _ h
    refine wp_loop_rounds n ?_
    clear h
    induction n generalizing st a w with
    | zero => simp [rounds] at hn
    | succ n ihn =>
      simp only [rounds] at hn
      show cx.wp P _ a w
      split at hn
      · rename_i s1 h1
        exact ih cx hc _ .normal s1 h1 a w _ (hR.keep lv) fun a' w' hR' => ihn s1 a' w' hR' hn
      · rename_i hne
        refine ih cx hc _ out st' hn a w _ (hR.keep lv) fun a' w' hR' => ?_
        have := hQ a' w' hR'
        cases out with
        | normal => exact absurd hn (hne st')
        | exit id => exact this
        | ret => exact this
  | scope x ih =>
    intro c hc st out st' h a w Q hR hQ
    cases c <;> simp only [chkCode, Bool.false_eq_true] at hc
    rename_i cx
    simp only [evCode] at h
    refine wp_scope_straight (ih cx hc st out st' h a w _ hR fun a' w' hR' => ?_)
    have := hQ a' w' hR'
    cases out <;> exact this
  | exit id =>
    intro c hc st out st' h a w Q hR hQ
    cases c <;> simp only [chkCode, Bool.false_eq_true] at hc
    have hid := Nat.eq_of_beq_eq_true hc
    subst hid
    simp only [evCode, Option.some.injEq, Prod.mk.injEq] at h
    obtain ⟨rfl, rfl⟩ := h
    exact wp_exit (hQ a w hR)
  | ret =>
    intro c hc st out st' h a w Q hR hQ
    cases c <;> simp only [chkCode, Bool.false_eq_true] at hc
    simp only [evCode, Option.some.injEq, Prod.mk.injEq] at h
    obtain ⟨rfl, rfl⟩ := h
    exact wp_ret (hQ a w hR)
end
end Go.Ev

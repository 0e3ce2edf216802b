/- Operations of one step: with guards, one after another, and in any order that the program's rules leave open. -/
import Derived.Test.YtpmphmpaeooeeaaDoorE21
namespace Go.Ev
open Go
set_option linter.unusedSimpArgs false
set_option linter.unusedVariables false

def EqEnv (e e' : Env) : Prop := ∀ t, e.get t = e'.get t
def EqSt (s s' : St) : Prop := s.hp = s'.hp ∧ EqEnv s.env s'.env
theorem EqSt.refl (s : St) : EqSt s s := ⟨rfl, fun _ => rfl⟩
theorem EqSt.trans {s s1 s2 : St} (h : EqSt s s1) (k : EqSt s1 s2) : EqSt s s2 := ⟨h.1.trans k.1, fun t => (h.2 t).trans (k.2 t)⟩
theorem EqSt.symm {s s1 : St} (h : EqSt s s1) : EqSt s1 s := ⟨h.1.symm, fun t => (h.2 t).symm⟩

theorem blt_lt {a b : Nat} (h : Nat.blt a b = true) : a < b := by simpa using h

theorem get_put (env : Env) (d : Option Nat) (v : V) (t : Nat) : (env.put d v).get t = if d = some t then v else env.get t := by
  cases d with
  | none => simp [Env.put]
  | some d =>
    simp only [Env.put, Env.get, Option.some.injEq]
    by_cases h : d = t
    · subst h; simp
    · have : Nat.beq d t = false := by
        cases hb : Nat.beq d t with
        | false => rfl
        | true => exact absurd (Nat.eq_of_beq_eq_true hb) h
      simp [this, h]

def apartA (x y : AOper) : Bool :=
  (match x.dst with | some d => !(y.uses.contains d) && decide (y.dst ≠ some d) | none => true) && (match y.dst with | some d => !(x.uses.contains d) | none => true)

def commA (x y : AOper) : Bool := apartA x y && (isPure x.op || isPure y.op || (isRead x.op && isRead y.op) || (isRead x.op && isPush y.op))

section
variable {cl : Callf} {G : Glob} {n0 : Nat}

theorem act_pure {o : AOper} (hp : isPure o.op = true) {e : Env} {H : Hp} {v : V} {H1 : Hp} (h : actOf cl G n0 o e H = some (v, H1)) : H1 = H ∧ ∀ H', actOf cl G n0 o e H' = some (v, H') := by
  unfold actOf at h ⊢
  split at h
  · exact pure_op hp h
  · split at h
    · rename_i want _ _ b _
      cases hb : (b == want) <;> simp only [hb, cond_true, cond_false] at h ⊢
      · simp only [Option.some.injEq, Prod.mk.injEq] at h; obtain ⟨rfl, rfl⟩ := h; exact ⟨rfl, fun _ => rfl⟩
      · exact pure_op hp h
    · simp only [Option.some.injEq, Prod.mk.injEq] at h; obtain ⟨rfl, rfl⟩ := h; exact ⟨rfl, fun _ => rfl⟩
    · simp at h

theorem act_read {o : AOper} (hp : isRead o.op = true) {e : Env} {H : Hp} {v : V} {H1 : Hp} (h : actOf cl G n0 o e H = some (v, H1)) : H1 = H ∧ ∀ ob, actOf cl G n0 o e (hpush H ob) = some (v, hpush H ob) := by
  unfold actOf at h ⊢
  split at h
  · exact read_op hp h
  · split at h
    · rename_i want _ _ b _
      cases hb : (b == want) <;> simp only [hb, cond_true, cond_false] at h ⊢
      · simp only [Option.some.injEq, Prod.mk.injEq] at h; obtain ⟨rfl, rfl⟩ := h; exact ⟨rfl, fun _ => rfl⟩
      · exact read_op hp h
    · simp only [Option.some.injEq, Prod.mk.injEq] at h; obtain ⟨rfl, rfl⟩ := h; exact ⟨rfl, fun _ => rfl⟩
    · simp at h

theorem act_push {o : AOper} (hp : isPush o.op = true) {e : Env} {H : Hp} {v : V} {H1 : Hp} (h : actOf cl G n0 o e H = some (v, H1)) : H1 = H ∨ ∃ ob, H1 = hpush H ob := by
  unfold actOf at h
  split at h
  · exact .inr (push_op hp h)
  · split at h
    · rename_i want _ _ b _
      cases hb : (b == want) <;> simp only [hb, cond_true, cond_false] at h
      · simp only [Option.some.injEq, Prod.mk.injEq] at h; exact .inl h.2.symm
      · exact .inr (push_op hp h)
    · simp only [Option.some.injEq, Prod.mk.injEq] at h; exact .inl h.2.symm
    · simp at h

theorem evOper_some {o : AOper} {st s1 : St} (h : evOper cl G n0 o st = some s1) : ∃ v H, actOf cl G n0 o st.env st.hp = some (v, H) ∧ s1 = ⟨st.env.put o.dst v, H⟩ := by
  rw [evOper_eq] at h
  split at h
  · rename_i v H hh
    exact ⟨v, H, hh, by simpa using h.symm⟩
  · simp at h

theorem evOper_of {o : AOper} {st : St} {v : V} {H : Hp} (h : actOf cl G n0 o st.env st.hp = some (v, H)) : evOper cl G n0 o st = some ⟨st.env.put o.dst v, H⟩ := by
  rw [evOper_eq, h]

theorem evOper_congr {o : AOper} {st s s1 : St} (he : EqSt st s) (h : evOper cl G n0 o st = some s1) : ∃ s', evOper cl G n0 o s = some s' ∧ EqSt s1 s' := by
  obtain ⟨v, H, ha, rfl⟩ := evOper_some h
  rw [actOf_env (e' := s.env) (fun t _ => he.2 t), he.1] at ha
  exact ⟨_, evOper_of ha, rfl, fun t => by simp only [get_put]; split <;> simp [he.2 t]⟩

theorem apart_spec {x y : AOper} (h : apartA x y = true) : (∀ d, x.dst = some d → d ∉ y.uses) ∧ (∀ d, x.dst = some d → y.dst ≠ some d) ∧ (∀ d, y.dst = some d → d ∉ x.uses) := by
  unfold apartA at h
  rw [Bool.and_eq_true] at h
  refine ⟨fun d hd => ?_, fun d hd => ?_, fun d hd => ?_⟩
  · have := h.1; simp only [hd] at this; simp at this; exact this.1
  · have := h.1; simp only [hd] at this; simp at this; exact this.2
  · have := h.2; simp only [hd] at this; simpa using this

theorem act_put {x : AOper} {e : Env} {H : Hp} {d : Option Nat} {v : V} (h : ∀ t, d = some t → t ∉ x.uses) : actOf cl G n0 x (e.put d v) H = actOf cl G n0 x e H :=
  actOf_env fun t ht => by
    rw [get_put]
    split
    · rename_i hd; exact absurd ht (h t hd)
    · rfl

theorem comm_step {x y : AOper} (hc : commA x y = true) {st s1 s2 : St} (h1 : evOper cl G n0 x st = some s1) (h2 : evOper cl G n0 y s1 = some s2) :
    ∃ t1 t2, evOper cl G n0 y st = some t1 ∧ evOper cl G n0 x t1 = some t2 ∧ EqSt s2 t2 := by
  unfold commA at hc
  rw [Bool.and_eq_true] at hc
  obtain ⟨ha, hk⟩ := hc
  obtain ⟨a1, a2, a3⟩ := apart_spec ha
  obtain ⟨v, H1, hx, rfl⟩ := evOper_some h1
  obtain ⟨u, H2, hy, rfl⟩ := evOper_some h2
  rw [act_put a1] at hy
  have main : ∀ Hy, actOf cl G n0 y st.env st.hp = some (u, Hy) → actOf cl G n0 x st.env Hy = some (v, H2) →
      ∃ t1 t2, evOper cl G n0 y st = some t1 ∧ evOper cl G n0 x t1 = some t2 ∧ EqSt ⟨(st.env.put x.dst v).put y.dst u, H2⟩ t2 := by
    intro Hy k1 k2
    refine ⟨_, _, evOper_of k1, evOper_of (by rw [act_put a3]; exact k2), rfl, fun t => ?_⟩
    simp only [get_put]
    by_cases e1 : y.dst = some t <;> by_cases e2 : x.dst = some t <;> simp only [e1, e2, if_true, if_false]
    exact absurd e1 (a2 t e2)
  simp only [Bool.or_eq_true, Bool.and_eq_true] at hk
  rcases hk with ((hk | hk) | hk) | hk
  · obtain ⟨rfl, hall⟩ := act_pure hk hx
    exact main _ hy (hall _)
  · obtain ⟨rfl, hall⟩ := act_pure hk hy
    exact main _ (hall _) hx
  · obtain ⟨rfl, _⟩ := act_read hk.1 hx
    obtain ⟨rfl, _⟩ := act_read hk.2 hy
    exact main _ hy hx
  · obtain ⟨rfl, hm⟩ := act_read hk.1 hx
    rcases act_push hk.2 hy with rfl | ⟨ob, rfl⟩
    · exact main _ hy hx
    · exact main _ hy (hm ob)

/-! ### Operations by their numbers -/
noncomputable def evIx (cl : Callf) (G : Glob) (n0 : Nat) (aos : List AOper) : List Nat → St → Option St
  | [], st => some st
  | i :: r, st =>
    match aos[i]? with
    | some o => (match evOper cl G n0 o st with | some st' => evIx cl G n0 aos r st' | none => none)
    | none => evIx cl G n0 aos r st

theorem evOps_range' (pre aos : List AOper) (st : St) : evOps cl G n0 aos st = evIx cl G n0 (pre ++ aos) (List.range' pre.length aos.length) st := by
  induction aos generalizing pre st with
  | nil => rfl
  | cons o aos ih =>
    have hg : (pre ++ o :: aos)[pre.length]? = some o := by simp
    simp only [List.length_cons, List.range'_succ, evIx, evOps, hg]
    cases evOper cl G n0 o st with
    | none => rfl
    | some st' =>
      have := ih (pre ++ [o]) st'
      simp only [List.append_assoc, List.singleton_append, List.length_append, List.length_singleton] at this
      exact this

theorem evOps_range (aos : List AOper) (st : St) : evOps cl G n0 aos st = evIx cl G n0 aos (List.range aos.length) st := by
  rw [List.range_eq_range']
  exact evOps_range' [] aos st

theorem evIx_congr {aos : List AOper} : ∀ (l : List Nat) {st s st' : St}, EqSt st s → evIx cl G n0 aos l st = some st' → ∃ s', evIx cl G n0 aos l s = some s' ∧ EqSt st' s'
  | [], _, _, _, he, h => by simp only [evIx, Option.some.injEq] at h ⊢; subst h; exact ⟨_, rfl, he⟩
  | i :: l, st, s, st', he, h => by
    simp only [evIx] at h ⊢
    cases ho : aos[i]? with
    | none =>
      simp only [ho] at h ⊢
      exact evIx_congr l he h
    | some o =>
      simp only [ho] at h ⊢
      cases h1 : evOper cl G n0 o st with
      | none => simp only [h1] at h; simp at h
      | some s1 =>
        simp only [h1] at h
        obtain ⟨s1', h1', e1⟩ := evOper_congr he h1
        simp only [h1']
        exact evIx_congr l e1 h

theorem evIx_front {aos : List AOper} {i : Nat} {oi : AOper} (hi : aos[i]? = some oi) : ∀ (p q : List Nat) {st st' : St}, (∀ j ∈ p, ∃ oj, aos[j]? = some oj ∧ commA oj oi = true) →
    evIx cl G n0 aos (p ++ i :: q) st = some st' → ∃ s1 s', evOper cl G n0 oi st = some s1 ∧ evIx cl G n0 aos (p ++ q) s1 = some s' ∧ EqSt st' s'
  | [], q, st, st', _, h => by
    simp only [List.nil_append, evIx, hi] at h ⊢
    split at h
    · rename_i s1 h1
      exact ⟨s1, st', h1, h, EqSt.refl _⟩
    · simp at h
  | j :: p, q, st, st', hc, h => by
    obtain ⟨oj, hj, hcm⟩ := hc j (by simp)
    simp only [List.cons_append, evIx, hj] at h ⊢
    split at h
    · rename_i sj h1
      obtain ⟨sji, s', h2, h3, h4⟩ := evIx_front hi p q (fun k hk => hc k (by simp [hk])) h
      obtain ⟨t1, t2, k1, k2, k3⟩ := comm_step hcm h1 h2
      obtain ⟨s'', m1, m2⟩ := evIx_congr (p ++ q) k3 h3
      exact ⟨t1, s'', k1, by rw [k2]; exact m1, h4.trans m2⟩
    · simp at h
end

/-! ### A step of the program -/
structure Rel (G : Glob) (Bd : Nat → Prop) (w0 : World) (O0 : Own) (pl0 : Pl) (n0 nt : Nat) (st : St) (a : Act) (w : World) : Prop where
  ex : ∃ pl, HR w pl Bd st.hp ∧ RE w (owned pl st.hp) pl (hlen st.hp) st.env a ∧ GR G w (owned pl st.hp) ∧ Ext w0 O0 w (owned pl st.hp) ∧ PlExt n0 pl0 pl ∧ n0 ≤ hlen st.hp
  nt : nt ≤ a.tmps.size
  df : a.defers = []

def chkOper (P : Program) (ops : Array Oper) (nt : Nat) (o : Oper) (ao : AOper) : Bool :=
  decide (o.dst = ao.dst) && (match o.dst with | some d => Nat.blt d nt | none => true) &&
  (match o.guard, ao.guard with
    | none, none => true
    | some (g, want), some (t, want') => (want == want') && decide ((ops[g]?).bind (·.dst) = some t) && Nat.blt t nt
    | _, _ => false) && chkOp P o.op ao.op

section
variable {P : Program} {cl : Callf} {G : Glob} {Bd : Nat → Prop} {w0 : World} {O0 : Own} {pl0 : Pl} {n0 nt : Nat}

theorem Rel.congr {st s : St} {a : Act} {w : World} (h : Rel G Bd w0 O0 pl0 n0 nt st a w) (he : EqSt st s) : Rel G Bd w0 O0 pl0 n0 nt s a w := by
  obtain ⟨⟨pl, h1, h2, h3, h4, h5, h6⟩, h7, h8⟩ := h
  obtain ⟨e1, e2⟩ := he
  rw [e1] at h1 h2 h3 h4 h6
  exact ⟨⟨pl, h1, fun t ht => by rw [← e2 t] at ht ⊢; exact h2 t ht, h3, h4, h5, h6⟩, h7, h8⟩

theorem re_put {w : World} {O : Own} {pl : Pl} {n : Nat} {env : Env} {a : Act} (hE : RE w O pl n env a) {d : Option Nat} {v : V} {u : Value} (hv : RV w O pl n v u) (hd : ∀ t, d = some t → t < a.tmps.size) : RE w O pl n (env.put d v) (a.put d u) := by
  intro t ht
  rw [get_put] at ht ⊢
  cases d with
  | none => simp only [reduceCtorEq, if_false] at ht ⊢; exact hE t ht
  | some d =>
    by_cases h : d = t
    · subst h
      simp only [if_true, Act.put]
      have := hd d rfl
      rw [Array.getD_eq_getD_getElem?, Array.getElem?_setIfInBounds_self_of_lt this]
      exact hv
    · have hne : ¬ (some d = some t) := by simpa using h
      rw [if_neg hne] at ht ⊢
      simp only [Act.put]
      rw [Array.getD_eq_getD_getElem?, Array.getElem?_setIfInBounds_ne h, ← Array.getD_eq_getD_getElem?]
      exact hE t ht

theorem put_size (a : Act) (d : Option Nat) (u : Value) : (a.put d u).tmps.size = a.tmps.size := by cases d <;> simp [Act.put]
theorem put_def (a : Act) (d : Option Nat) (u : Value) : (a.put d u).defers = a.defers := by cases d <;> rfl

theorem step_ok (hcl : CallSound P G cl) (hn0 : ∀ m, Bd m → m ≤ n0) {ops : Array Oper} {i : Nat} {o : Oper} {ao : AOper} (ho : ops[i]? = some o) (hc : chkOper P ops nt o ao = true) {st s1 : St} {a : Act} {w : World} (hR : Rel G Bd w0 O0 pl0 n0 nt st a w)
    (h : evOper cl G n0 ao st = some s1) {Q : Exit → Act → World → Prop} {K : Act → World → Prop} (hK : ∀ a' w', Rel G Bd w0 O0 pl0 n0 nt s1 a' w' → K a' w') : wpOp P ops Q i K a w := by
  unfold chkOper at hc
  rw [Bool.and_eq_true, Bool.and_eq_true, Bool.and_eq_true, decide_eq_true_eq] at hc
  obtain ⟨⟨⟨hd, hdn⟩, hg⟩, hop⟩ := hc
  obtain ⟨v, H1, hact, rfl⟩ := evOper_some h
  obtain ⟨⟨pl, h1, h2, h3, h4, h5, h6⟩, h7, h8⟩ := hR
  have hlt : ∀ t, o.dst = some t → t < a.tmps.size := fun t ht => by
    rw [ht] at hdn
    exact Nat.lt_of_lt_of_le (blt_lt hdn) h7
  -- the operation is run
  have run : evOp cl G n0 st.env st.hp ao.op = some (v, H1) → o.wp P a w K Q := by
    intro hev
    refine evOp_sound hcl hn0 h3 h1 h2 hop hev K Q fun u w' pl' hf => hK _ _ ⟨⟨pl', hf.hr, ?_, h3.mono hf.ext, h4.trans hf.ext, h5.trans (hf.ple.le h6), Nat.le_trans h6 hf.le⟩, by rw [put_size]; exact h7, by rw [put_def]; exact h8⟩
    rw [← hd]
    exact re_put (h2.mono hf.ext hf.ple hf.le) hf.rv hlt
  -- it is left out
  have skip : v = .und → H1 = st.hp → K (a.put o.dst undef) w := by
    rintro rfl rfl
    refine hK _ _ ⟨⟨pl, h1, ?_, h3, h4, h5, h6⟩, by rw [put_size]; exact h7, by rw [put_def]; exact h8⟩
    rw [← hd]
    exact re_put h2 .und hlt
  unfold wpOp
  simp only [ho]
  unfold actOf at hact
  split at hg
  · rename_i g1 g2
    simp only [g2] at hact
    have hw : Region.wanted o (yielded ops a.tmps) = true := by simp [Region.wanted, g1]
    rw [if_pos hw]
    exact .inl (run hact)
  · rename_i g want t want' g1 g2
    rw [Bool.and_eq_true, Bool.and_eq_true, decide_eq_true_eq] at hg
    obtain ⟨⟨hwant, htt⟩, htn⟩ := hg
    have hwant : want = want' := by simpa using hwant
    subst hwant
    have htl : t < a.tmps.size := Nat.lt_of_lt_of_le (blt_lt htn) h7
    have hyi : yielded ops a.tmps g = match a.tmps[t]? with | some (.bool b) => some b | _ => none := by
      simp only [yielded, htt, Option.bind_some]
      rfl
    simp only [g2] at hact
    split at hact
    · rename_i b hb
      have hv := h2 t (by rw [hb]; rfl)
      rw [hb] at hv
      have he := hv.bool_eq
      have hx : a.tmps[t]? = some (.bool b) := by
        rw [Array.getD_eq_getD_getElem?, Array.getElem?_eq_getElem htl] at he
        rw [Array.getElem?_eq_getElem htl]
        simpa using he
      have hw : Region.wanted o (yielded ops a.tmps) = (b == want) := by
        simp only [Region.wanted, g1, hyi, hx]
        cases b <;> cases want <;> rfl
      cases hbw : (b == want) with
      | true =>
        rw [hw, hbw, if_pos rfl]
        simp only [hbw, cond_true] at hact
        exact .inl (run hact)
      | false =>
        rw [hw, hbw, if_neg (by simp)]
        simp only [hbw, cond_false, Option.some.injEq, Prod.mk.injEq] at hact
        exact skip hact.1.symm hact.2.symm
    · rename_i hb
      have hv := h2 t (by rw [hb]; rfl)
      rw [hb] at hv
      have he : a.tmps.getD t undef = undef := by
        generalize a.tmps.getD t undef = q at hv
        cases hv; rfl
      have hx : a.tmps[t]? = some undef := by
        rw [Array.getD_eq_getD_getElem?, Array.getElem?_eq_getElem htl] at he
        rw [Array.getElem?_eq_getElem htl]
        simpa using he
      have hw : Region.wanted o (yielded ops a.tmps) = false := by
        simp only [Region.wanted, g1, hyi, hx, undef]
        rfl
      rw [hw, if_neg (by simp)]
      simp only [Option.some.injEq, Prod.mk.injEq] at hact
      exact skip hact.1.symm hact.2.symm
    · simp at hact
  · simp at hg

def chkOps (P : Program) (all : Array Oper) (nt : Nat) : List Oper → List AOper → Bool
  | [], [] => true
  | o :: os, a :: as => chkOper P all nt o a && chkOps P all nt os as
  | _, _ => false

theorem chkOps_get {all : Array Oper} : ∀ {os : List Oper} {as : List AOper}, chkOps P all nt os as = true → os.length = as.length ∧ ∀ (i : Nat) (o : Oper), os[i]? = some o → ∃ a, as[i]? = some a ∧ chkOper P all nt o a = true
  | [], [], _ => ⟨rfl, fun i o h => by simp at h⟩
  | [], _ :: _, h => by simp [chkOps] at h
  | _ :: _, [], h => by simp [chkOps] at h
  | o :: os, a :: as, h => by
    simp only [chkOps, Bool.and_eq_true] at h
    obtain ⟨h1, h2⟩ := chkOps_get h.2
    refine ⟨by simp [h1], fun i o' hi => ?_⟩
    cases i with
    | zero => simp at hi; subst hi; exact ⟨a, rfl, h.1⟩
    | succ i => exact h2 i o' (by simpa using hi)

/-- The operations in the order in which they stand. -/
theorem ix_sound (hcl : CallSound P G cl) (hn0 : ∀ m, Bd m → m ≤ n0) {ops : Array Oper} {aos : List AOper} (hc : chkOps P ops nt ops.toList aos = true) {Q : Exit → Act → World → Prop} : ∀ (l : List Nat) {st st' : St} {a : Act} {w : World}, Rel G Bd w0 O0 pl0 n0 nt st a w →
    evIx cl G n0 aos l st = some st' → (∀ a' w', Rel G Bd w0 O0 pl0 n0 nt st' a' w' → Q .normal a' w') → wpOps P ops Q l a w
  | [], st, st', a, w, hR, h, hQ => by simp only [evIx, Option.some.injEq] at h; subst h; exact hQ a w hR
  | i :: l, st, st', a, w, hR, h, hQ => by
    rw [wpOps_cons]
    simp only [evIx] at h
    obtain ⟨hl, hget⟩ := chkOps_get hc
    cases ho : ops[i]? with
    | none =>
      have : aos[i]? = none := by
        rw [List.getElem?_eq_none_iff, ← hl]
        simpa using ho
      simp only [this] at h
      unfold wpOp
      simp only [ho]
      exact ix_sound hcl hn0 hc l hR h hQ
    | some o =>
      obtain ⟨ao, hao, hck⟩ := hget i o (by simpa using ho)
      simp only [hao] at h
      split at h
      · rename_i s1 h1
        exact step_ok hcl hn0 ho hck hR h1 fun a' w' hR' => ix_sound hcl hn0 hc l hR' h hQ
      · simp at h

/-! ### Any order -/
def reach (ops : Array Oper) : Nat → Nat → Nat → Bool
  | 0, _, _ => false
  | f + 1, i, j => match ops[i]? with | some o => o.after.any (fun e => Region.binds .any e && (Nat.beq e.on j || reach ops f e.on j)) | none => false

def backward (ops : Array Oper) : Bool := (List.range ops.size).all fun i => match ops[i]? with | some o => o.after.all (fun e => !Region.binds .any e || Nat.blt e.on i) | none => true
def ordOk (ops : Array Oper) (aos : List AOper) : Bool :=
  backward ops && (List.range ops.size).all fun i => (List.range i).all fun j => (match aos[j]?, aos[i]? with | some x, some y => commA x y | _, _ => false) || reach ops ops.size i j

def Down (ops : Array Oper) (listed : Array Bool) : Prop := ∀ (k : Nat) (o : Oper), listed.getD k false = true → ops[k]? = some o → ∀ e ∈ o.after, Region.binds .any e = true → listed.getD e.on false = true

theorem reach_listed {ops : Array Oper} {listed : Array Bool} (hd : Down ops listed) : ∀ (f : Nat) (i j : Nat), (∀ o, ops[i]? = some o → ∀ e ∈ o.after, Region.binds .any e = true → listed.getD e.on false = true) → reach ops f i j = true → listed.getD j false = true
  | 0, _, _, _, h => by simp [reach] at h
  | f + 1, i, j, hp, h => by
    simp only [reach] at h
    split at h
    · rename_i o ho
      obtain ⟨e, he, hb⟩ := Array.any_eq_true'.1 h
      rw [Bool.and_eq_true, Bool.or_eq_true] at hb
      have hl := hp o ho e he hb.1
      rcases hb.2 with hb | hb
      · have := Nat.eq_of_beq_eq_true hb
        subst this; exact hl
      · exact reach_listed hd f e.on j (fun o' ho' e' he' hb' => hd e.on o' hl ho' e' he' hb') hb
    · simp at h

def rest (listed : Array Bool) (n : Nat) : List Nat := (List.range n).filter fun i => !listed.getD i true

theorem range_split {n a : Nat} {l₁ l₂ : List Nat} (h : List.range n = l₁ ++ a :: l₂) : ∀ j, j < a → j ∈ l₁ := by
  have h1 : (List.range n)[l₁.length]? = some a := by rw [h]; simp
  have h2 : l₁.length = a := by
    rw [List.getElem?_range (by
      have : (List.range n).length = l₁.length + (l₂.length + 1) := by rw [h]; simp
      simp at this; omega)] at h1
    simpa using h1
  intro j hj
  have hjn : j < l₁.length := by omega
  have h3 : (List.range n)[j]? = l₁[j]? := by rw [h, List.getElem?_append_left hjn]
  have hn : j < n := by
    have : (List.range n).length = l₁.length + (l₂.length + 1) := by rw [h]; simp
    simp at this; omega
  rw [List.getElem?_range hn] at h3
  exact List.mem_of_getElem? h3.symm

theorem getD_false_of {listed : Array Bool} {i : Nat} (hl : i < listed.size) (h : listed.getD i true = true) : listed.getD i false = true := by
  simp [hl] at h ⊢; exact h

theorem any_sound (hcl : CallSound P G cl) (hn0 : ∀ m, Bd m → m ≤ n0) {ops : Array Oper} {aos : List AOper} (hc : chkOps P ops nt ops.toList aos = true) (hord : ordOk ops aos = true) {Q : Exit → Act → World → Prop} : ∀ (fuel : Nat) (listed : Array Bool) {st st' : St} {a : Act} {w : World},
    listed.size = ops.size → Down ops listed → Rel G Bd w0 O0 pl0 n0 nt st a w → evIx cl G n0 aos (rest listed ops.size) st = some st' → (rest listed ops.size).length ≤ fuel → (∀ a' w', Rel G Bd w0 O0 pl0 n0 nt st' a' w' → Q .normal a' w') →
    wpAny P .any ops Q fuel listed a w := by
  obtain ⟨hl, hget⟩ := chkOps_get hc
  unfold ordOk at hord
  rw [Bool.and_eq_true] at hord
  have hback : ∀ i o, ops[i]? = some o → ∀ e ∈ o.after, Region.binds .any e = true → e.on < i := by
    intro i o ho e he hb
    have hi := (Array.getElem?_eq_some_iff.1 ho).1
    have := List.all_eq_true.1 hord.1 i (List.mem_range.2 hi)
    simp only [ho] at this
    have := Array.all_eq_true_iff_forall_mem.1 this e he
    simp [hb] at this
    exact this
  have hready : ∀ listed : Array Bool, rest listed ops.size = [] → Region.ready .any ops listed = [] := by
    intro listed hr
    unfold Region.ready
    rw [List.filter_eq_nil_iff]
    intro i hi hh
    have : i ∈ rest listed ops.size := by
      unfold rest
      rw [List.mem_filter]
      simp only [Bool.and_eq_true] at hh
      exact ⟨hi, hh.1⟩
    rw [hr] at this
    cases this
  intro fuel
  induction fuel with
  | zero =>
    intro listed st st' a w hs hd hR h hf hQ
    have hr : rest listed ops.size = [] := List.eq_nil_of_length_eq_zero (by omega)
    rw [hr] at h
    simp only [evIx, Option.some.injEq] at h; subst h
    exact ⟨hready listed hr, hQ a w hR⟩
  | succ fuel ih =>
    intro listed st st' a w hs hd hR h hf hQ
    refine ⟨fun hemp => ?_, fun i hi => ?_⟩
    · -- nothing is ready: nothing is left
      have hr : rest listed ops.size = [] := by
        cases hr : rest listed ops.size with
        | nil => rfl
        | cons i q =>
          exfalso
          unfold rest at hr
          obtain ⟨l₁, l₂, e1, e2, e3, _⟩ := List.filter_eq_cons_iff.1 hr
          have hin : i < ops.size := by
            have : i ∈ List.range ops.size := by rw [e1]; simp
            exact List.mem_range.1 this
          have : i ∈ Region.ready .any ops listed := by
            rw [mem_ready]
            refine ⟨by simpa using e3, ops[i], Array.getElem?_eq_getElem hin, fun e he hb => ?_⟩
            have hlt := hback i _ (Array.getElem?_eq_getElem hin) e he hb
            have hm := range_split e1 e.on hlt
            have := e2 _ hm
            exact getD_false_of (by omega) (by simpa using this)
          rw [hemp] at this
          cases this
      rw [hr] at h
      simp only [evIx, Option.some.injEq] at h; subst h
      exact hQ a w hR
    · obtain ⟨hun, o, ho, hall⟩ := mem_ready.1 hi
      have hin := (Array.getElem?_eq_some_iff.1 ho).1
      obtain ⟨ao, hao, hck⟩ := hget i o (by simpa using ho)
      have hmem : i ∈ rest listed ops.size := by
        unfold rest
        rw [List.mem_filter]
        exact ⟨List.mem_range.2 hin, by simp only [hun]; rfl⟩
      obtain ⟨p, q, hpq⟩ := List.append_of_mem hmem
      have hsort : (rest listed ops.size).Pairwise (· < ·) := List.Pairwise.filter _ List.pairwise_lt_range
      have hcomm : ∀ j ∈ p, ∃ oj, aos[j]? = some oj ∧ commA oj ao = true := by
        intro j hj
        rw [hpq] at hsort
        have hji : j < i := (List.pairwise_append.1 hsort).2.2 j hj i (by simp)
        have hjr : j ∈ rest listed ops.size := by rw [hpq]; simp [hj]
        unfold rest at hjr
        rw [List.mem_filter] at hjr
        have := List.all_eq_true.1 (List.all_eq_true.1 hord.2 i (List.mem_range.2 hin)) j (List.mem_range.2 hji)
        rw [Bool.or_eq_true] at this
        rcases this with h1 | h1
        · split at h1
          · rename_i x y hx hy
            rw [hao] at hy
            simp only [Option.some.injEq] at hy; subst hy
            exact ⟨x, hx, h1⟩
          · simp at h1
        · exfalso
          have := reach_listed hd _ i j (fun o' ho' e he hb => by
            rw [ho] at ho'
            simp only [Option.some.injEq] at ho'; subst ho'
            exact hall e he hb) h1
          have h2 := hjr.2
          have hjs : j < listed.size := by rw [hs]; exact List.mem_range.1 hjr.1
          simp [hjs] at this h2
          rw [h2] at this; cases this
      rw [hpq] at h
      obtain ⟨s1, s', k1, k2, k3⟩ := evIx_front hao p q hcomm h
      have hnd : (rest listed ops.size).Nodup := List.Pairwise.imp (fun h => Nat.ne_of_lt h) hsort
      have hrest : rest (listed.setIfInBounds i true) ops.size = p ++ q := by
        have h1 : rest (listed.setIfInBounds i true) ops.size = (rest listed ops.size).filter (fun k => k != i) := by
          unfold rest
          rw [List.filter_filter]
          refine List.filter_congr fun k hk => ?_
          by_cases hki : k = i
          · subst hki
            simp [hs, hin]
          · rw [getD_set_ne true (Ne.symm hki)]
            simp [hki]
        rw [h1, hpq]
        rw [hpq] at hnd
        have hip : i ∉ p ∧ i ∉ q := by
          obtain ⟨n1, n2, n3⟩ := List.nodup_append.1 hnd
          exact ⟨fun hm => n3 i hm i (by simp) rfl, (List.nodup_cons.1 n2).1⟩
        rw [List.filter_append, List.filter_cons_of_neg (by simp), List.filter_eq_self.2 (fun k hk => by simp; rintro rfl; exact hip.1 hk), List.filter_eq_self.2 (fun k hk => by simp; rintro rfl; exact hip.2 hk)]
      refine step_ok hcl hn0 ho hck hR k1 fun a' w' hR' => ih _ (by simpa using hs) ?_ hR' (by rw [hrest]; exact k2) ?_ fun a2 w2 hR2 => hQ a2 w2 (hR2.congr k3.symm)
      · intro k ok hk hok e he hb
        by_cases hki : k = i
        · subst hki
          rw [ho] at hok
          simp only [Option.some.injEq] at hok; subst hok
          exact getD_set_true (hall e he hb)
        · rw [getD_set_ne false (Ne.symm hki)] at hk
          exact getD_set_true (hd k ok hk hok e he hb)
      · rw [hrest]
        rw [hpq] at hf
        simp at hf ⊢
        omega

theorem Rel.drawn {st : St} {a : Act} {w : World} (h : Rel G Bd w0 O0 pl0 n0 nt st a w) : Rel G Bd w0 O0 pl0 n0 nt st a { w with drawn := w.drawn + 1 } := by
  obtain ⟨⟨pl, h1, h2, h3, h4, h5, h6⟩, h7, h8⟩ := h
  obtain ⟨m1, m2⟩ := h1.mono_all (w' := { w with drawn := w.drawn + 1 }) ⟨rfl, rfl, rfl, Nat.le_refl _, fun b _ _ => ⟨rfl, fun h => h⟩⟩
  exact ⟨⟨pl, m1, h2.mono m2 (PlExt.refl _ _) (Nat.le_refl _), h3.mono m2, h4.trans m2, h5, h6⟩, h7, h8⟩

theorem reg_sound (hm : P.follows .mixedOrders = true) (hcl : CallSound P G cl) (hn0 : ∀ m, Bd m → m ≤ n0) {id : Nat} {ops : Array Oper} {draw : Bool} {aos : List AOper} (hc : chkOps P ops nt ops.toList aos = true) (hord : draw = true → ordOk ops aos = true) {Q : Exit → Act → World → Prop}
    {st st' : St} {a : Act} {w : World} (hR : Rel G Bd w0 O0 pl0 n0 nt st a w) (h : evOps cl G n0 aos st = some st') (hQ : ∀ a' w', Rel G Bd w0 O0 pl0 n0 nt st' a' w' → Q .normal a' w') : (Code.region id ops draw).wp P Q a w := by
  have hlen : ops.size = aos.length := by simpa using (chkOps_get hc).1
  rw [evOps_range, ← hlen] at h
  cases draw with
  | false => exact wp_region (ix_sound hcl hn0 hc _ hR h hQ)
  | true =>
    refine wp_region_any hm ?_
    have hrest : rest (Array.replicate ops.size false) ops.size = List.range ops.size := by
      unfold rest
      refine List.filter_eq_self.2 fun i hi => ?_
      have := List.mem_range.1 hi
      simp [this]
    refine any_sound hcl hn0 hc (hord rfl) ops.size _ (by simp) (fun k o hk => ?_) hR.drawn (by rw [hrest]; exact h) (by rw [hrest]; simp) hQ
    exfalso
    simp [Array.getElem?_replicate] at hk
    split at hk <;> simp at hk
end
end Go.Ev

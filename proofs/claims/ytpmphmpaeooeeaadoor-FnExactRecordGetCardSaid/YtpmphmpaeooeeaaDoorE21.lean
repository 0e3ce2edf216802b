/- Operations that may change places: what an operation looks at, and what it leaves alone. -/
import Derived.Test.YtpmphmpaeooeeaaDoorE20
namespace Go.Ev
open Go
set_option linter.unusedSimpArgs false
set_option linter.unusedVariables false

/-! ### What an operation looks at -/
def optL {α : Type} : Option α → List α
  | some x => [x]
  | none => []
def AOp.opds : AOp → List AOpd
  | .mv x => [x]
  | .pick c a b => [c, a, b]
  | .alloc _ => []
  | .box x => [x]
  | .build _ ps => ps.map (·.2.2)
  | .lit _ _ ps => ps
  | .load _ _ a => [a]
  | .store _ a x => [a, x]
  | .nilck x => [x]
  | .bin _ _ x y => [x, y]
  | .un _ x => [x]
  | .cvInt _ x => [x]
  | .cvId x => [x]
  | .cvStr x => [x]
  | .mkfn _ cs => cs
  | .mkmap => []
  | .insert m k v => [m, k, v]
  | .lookup _ m k _ => [m, k]
  | .mkslice _ _ _ l c => [l, c]
  | .slice _ x lo hi => x :: (optL lo ++ optL hi)
  | .faddr _ x => [x]
  | .field _ _ _ x => [x]
  | .iaddr _ x i => [x, i]
  | .idx x i => [x, i]
  | .extract x _ => [x]
  | .mkiface _ x => [x]
  | .call f as _ => f :: as.map (·.2)
  | .pcall f as => f :: as
  | .len _ x => [x]
  | .append _ _ s x => [s, x]
  | .mnmx _ xs => xs

def AOpd.use : AOpd → List Nat
  | .t n => [n]
  | _ => []
def AOper.uses (o : AOper) : List Nat := o.op.opds.flatMap AOpd.use ++ (match o.guard with | some (t, _) => [t] | none => [])

theorem opd_env {G : Glob} {e e' : Env} {x : AOpd} (h : ∀ t ∈ x.use, e.get t = e'.get t) : opd G e x = opd G e' x := by
  cases x <;> simp only [opd]
  exact h _ (by simp [AOpd.use])

section
variable {cl : Callf} {G : Glob} {n0 : Nat} {H : Hp} {e e' : Env}

theorem fills_env : ∀ (qs : List (Nat × Nat × AOpd)) (cs : List V), (∀ x ∈ qs.map (·.2.2), opd G e x = opd G e' x) → fills G e cs qs = fills G e' cs qs
  | [], _, _ => rfl
  | (off, n, x) :: qs, cs, h => by
    have hx := h x (by simp)
    simp only [fills, hx]
    split
    · exact fills_env qs _ fun y hy => h y (by simp at hy ⊢; exact .inr hy)
    · rfl

theorem hand_env : ∀ (as : List (Bool × AOpd)) (H : Hp), (∀ x ∈ as.map (·.2), opd G e x = opd G e' x) → hand G e H as = hand G e' H as
  | [], _, _ => rfl
  | (k, x) :: as, H, h => by
    have hx := h x (by simp)
    rw [hand_cons, hand_cons, hx]
    split
    · rw [hand_env as _ fun y hy => h y (by simp at hy ⊢; exact .inr hy)]
    · rfl

theorem bound_env {d l : Nat} {x : Option AOpd} (h : ∀ y ∈ optL x, opd G e y = opd G e' y) : bound G e d l x = bound G e' d l x := by
  cases x with
  | none => rfl
  | some x => simp only [bound, h x (by simp [optL])]

theorem map_env {xs : List AOpd} (h : ∀ x ∈ xs, opd G e x = opd G e' x) : xs.map (opd G e) = xs.map (opd G e') := List.map_congr_left h

theorem evOp_env {op : AOp} (h : ∀ x ∈ op.opds, opd G e x = opd G e' x) : evOp cl G n0 e H op = evOp cl G n0 e' H op := by
  cases op <;> simp only [AOp.opds, List.mem_cons, List.not_mem_nil, or_false, forall_eq_or_imp, forall_eq, List.mem_append] at h
  case mv x => simp only [evOp, h]
  case pick c a b => simp only [evOp, h]
  case alloc z => rfl
  case box x => simp only [evOp, h]
  case build z ps => simp only [evOp, fills_env ps z h]
  case lit own e ps => simp only [evOp, map_env h]
  case load ag n a => simp only [evOp, h]
  case store n a x => simp only [evOp, h]
  case nilck x => simp only [evOp, h]
  case bin op ty x y => simp only [evOp, h]
  case un op x => simp only [evOp, h]
  case cvInt k x => simp only [evOp, h]
  case cvId x => simp only [evOp, h]
  case cvStr x => simp only [evOp, h]
  case mkfn f cs => simp only [evOp, map_env h]
  case mkmap => rfl
  case insert m k v => simp only [evOp, h]
  case lookup z m k ok => simp only [evOp, h]
  case mkslice e b z l c => simp only [evOp, h]
  case slice oe x lo hi =>
    have h1 := h.1
    have h2 : ∀ d l, bound G e d l lo = bound G e' d l lo := fun d l => bound_env fun y hy => h.2 y (.inl hy)
    have h3 : ∀ d l, bound G e d l hi = bound G e' d l hi := fun d l => bound_env fun y hy => h.2 y (.inr hy)
    simp only [evOp, h1, h2, h3]
  case faddr off x => simp only [evOp, h]
  case field ag off n x => simp only [evOp, h]
  case iaddr e x i => simp only [evOp, h]
  case idx x i => simp only [evOp, h]
  case extract x i => simp only [evOp, h]
  case mkiface t x => simp only [evOp, h]
  case call f as fr =>
    have h1 := h.1
    have h2 : hand G e H as = hand G e' H as := hand_env as H h.2
    simp only [evOp, h1, h2]
  case pcall f as =>
    have h1 := h.1
    have h2 := map_env h.2
    simp only [evOp, h1, h2]
  case len str x => simp only [evOp, h]
  case append el b s x => simp only [evOp, h]
  case mnmx mx xs => simp only [evOp, map_env h]

/-! ### An operation with its guard -/
noncomputable def actOf (cl : Callf) (G : Glob) (n0 : Nat) (o : AOper) (env : Env) (H : Hp) : Option (V × Hp) :=
  match o.guard with
  | none => evOp cl G n0 env H o.op
  | some (t, want) =>
    match env.get t with
    | .d (.bool b) => (bif b == want then evOp cl G n0 env H o.op else some (.und, H))
    | .und => some (.und, H)
    | _ => none

theorem evOper_eq (o : AOper) (st : St) : evOper cl G n0 o st = (match actOf cl G n0 o st.env st.hp with | some (v, H) => some ⟨st.env.put o.dst v, H⟩ | none => none) := by
  obtain ⟨dst, guard, op⟩ := o
  cases guard with
  | none => rfl
  | some p =>
    obtain ⟨t, want⟩ := p
    simp only [evOper, actOf]
    generalize st.env.get t = y
    cases y <;> try rfl
    rename_i x
    cases x <;> try rfl
    rename_i b
    cases hb : (b == want) <;> simp only [cond, hb] <;> rfl

theorem actOf_env {o : AOper} (h : ∀ t ∈ o.uses, e.get t = e'.get t) : actOf cl G n0 o e H = actOf cl G n0 o e' H := by
  have h1 : evOp cl G n0 e H o.op = evOp cl G n0 e' H o.op := evOp_env fun x hx => opd_env fun t ht => h t (by
    simp only [AOper.uses, List.mem_append, List.mem_flatMap]
    exact .inl ⟨x, hx, ht⟩)
  unfold actOf
  split
  · exact h1
  · rename_i t want hg
    rw [h t (by simp [AOper.uses, hg]), h1]

/-! ### Kinds of operations -/
def isPure : AOp → Bool
  | .mv _ | .pick .. | .build .. | .lit false _ _ | .nilck _ | .bin .. | .un .. | .cvInt .. | .cvId _ | .mkfn .. | .lookup .. | .slice none .. | .faddr .. | .field .. | .idx .. | .extract .. | .mkiface .. | .len .. | .mnmx .. => true
  | _ => false
def isRead : AOp → Bool
  | .load .. | .cvStr _ | .slice .. | .iaddr .. | .pcall .. => true
  | _ => false
def isPush : AOp → Bool
  | .alloc _ | .box _ | .lit true _ _ | .mkslice .. | .mkmap => true
  | _ => false

theorem pure_op {op : AOp} (hp : isPure op = true) {v : V} {H1 : Hp} (h : evOp cl G n0 e H op = some (v, H1)) : H1 = H ∧ ∀ H', evOp cl G n0 e H' op = some (v, H') := by
  cases op <;> simp only [isPure, Bool.false_eq_true] at hp
  case lit own en ps =>
    cases own <;> simp only [Bool.false_eq_true] at hp
    simp only [evOp] at h ⊢
    repeat' split at h
    all_goals first | (simp only [reduceCtorEq] at h; done) | (simp only [Option.some.injEq, Prod.mk.injEq] at h; obtain ⟨rfl, rfl⟩ := h; exact ⟨rfl, fun H' => by simp_all⟩)
  case slice oe x lo hi =>
    cases oe <;> simp only [Bool.false_eq_true] at hp
    simp only [evOp] at h ⊢
    repeat' split at h
    all_goals first | (simp only [reduceCtorEq] at h; done) | (simp only [Option.some.injEq, Prod.mk.injEq] at h; obtain ⟨rfl, rfl⟩ := h; exact ⟨rfl, fun H' => by simp_all⟩)
  all_goals
    simp only [evOp] at h ⊢
    repeat' split at h
    all_goals first | (simp only [reduceCtorEq] at h; done) | (simp only [Option.some.injEq, Prod.mk.injEq] at h; obtain ⟨rfl, rfl⟩ := h; exact ⟨rfl, fun H' => by simp_all⟩)

theorem hget_push {r : Nat} {o x : Obj} (h : hget H r = some x) : hget (hpush H o) r = some x := by rw [hget_hpush_lt o (hget_lt h)]; exact h
theorem rowOf_push {r g : Nat} {o : Obj} {x : Nat × List V} (h : rowOf H r g = some x) : rowOf (hpush H o) r g = some x := by
  unfold rowOf at h ⊢
  split at h
  · rename_i hr; rw [hget_push hr]; exact h
  · simp at h
theorem hload_push {r g i j n : Nat} {o : Obj} {cs : List V} (h : hload H r g i j n = some cs) : hload (hpush H o) r g i j n = some cs := by
  unfold hload at h ⊢
  split at h
  · rename_i hr; rw [rowOf_push hr]; exact h
  · simp at h
theorem src_push {v : V} {o : Obj} {x : Nat × List V × Bool} (h : src H v = some x) : src (hpush H o) v = some x := by
  unfold src at h ⊢
  split at h
  · exact h
  · exact h
  · split at h
    · rename_i hr
      simp only [rowOf_push hr]; exact h
    · simp at h
  · simp at h
theorem view1_push {v : V} {o : Obj} {x : D} (h : view1 H v = some x) : view1 (hpush H o) v = some x := by
  unfold view1 at h ⊢
  split at h
  · exact h
  · exact h
  · split at h
    · rename_i hr
      simp only [rowOf_push hr]; exact h
    · simp at h
  · split at h
    · rename_i hr
      simp only [rowOf_push hr]; exact h
    · simp at h
  · simp at h
theorem mapO_mono {α β : Type} {f g : α → Option β} (h : ∀ a b, f a = some b → g a = some b) : ∀ {xs : List α} {ys : List β}, mapO f xs = some ys → mapO g xs = some ys
  | [], _, hx => hx
  | x :: xs, ys, hx => by
    simp only [mapO] at hx ⊢
    split at hx
    · rename_i b hb
      split at hx
      · rename_i bs hbs
        rw [h _ _ hb]
        simp only [mapO_mono h hbs]
        exact hx
      · simp at hx
    · simp at hx
theorem fz_push {n : Nat} {o : Obj} : ∀ (d : Nat) (v : V) (x : D), fz n d H v = some x → fz n d (hpush H o) v = some x
  | 0, v, x, h => by simpa only [fz] using h
  | d + 1, v, x, h => by
    have ih := fz_push (n := n) (o := o) d
    cases v <;> simp only [fz] at h ⊢ <;> try exact h
    · split at h
      · rename_i hx
        simp only [mapO_mono ih hx]; exact h
      · simp at h
    · split at h
      · simp at h
      · rename_i hn
        rw [if_neg hn]
        split at h
        · rename_i hr
          simp only [rowOf_push hr]
          split at h
          · rename_i hi
            rw [if_pos hi]
            split at h
            · rename_i hx
              simp only [mapO_mono ih hx]; exact h
            · simp at h
          · simp at h
        · simp at h
    · split at h
      · simp at h
      · rename_i hn
        rw [if_neg hn]
        split at h
        · rename_i hr
          simp only [rowOf_push hr]
          split at h
          · rename_i hi
            try simp only [hi]
            split at h
            · rename_i hx
              simp only [mapO_mono ih hx]; exact h
            · simp at h
          · simp at h
        · simp at h
    · split at h
      · rename_i hx
        simp only [mapO_mono ih hx]; exact h
      · simp at h
    · split at h
      · simp at h
      · rename_i hn
        rw [if_neg hn]
        split at h
        · rename_i hr
          simp only [hget_push hr]
          split at h
          · rename_i h1 h2
            simp only [mapO_mono ih h1, mapO_mono ih h2]; exact h
          · simp at h
        · simp at h
theorem view1_none_push {n d : Nat} {v : V} {o : Obj} {x : D} (h : view1 H v = none) (hz : fz n (d + 1) H v = some x) : view1 (hpush H o) v = none := by
  cases v <;> simp only [view1] at h ⊢ <;> simp only [fz] at hz <;> try (first | exact h | (simp at h; done))
  · split at hz
    · simp at hz
    · split at hz
      · rename_i hr
        simp only [rowOf_push hr]
        simp only [hr] at h
        exact h
      · simp at hz
  · split at hz
    · simp at hz
    · split at hz
      · rename_i hr
        simp only [rowOf_push hr]
        simp only [hr] at h
        exact h
      · simp at hz
theorem view_push {v : V} {o : Obj} {x : D} (h : view H v = some x) : view (hpush H o) v = some x := by
  unfold view at h ⊢
  split at h
  · split at h
    · rename_i hx
      simp only [mapO_mono (fun _ _ => view1_push) hx]; exact h
    · simp at h
  · split at h
    · rename_i hx
      simp only [mapO_mono (fun _ _ => view1_push) hx]; exact h
    · simp at h
  · split at h
    · rename_i hy
      simp only [view1_push hy]; exact h
    · rename_i hy
      simp only [view1_none_push (d := 7) hy h]
      exact fz_push _ _ _ h

theorem read_op {op : AOp} (hp : isRead op = true) {v : V} {H1 : Hp} (h : evOp cl G n0 e H op = some (v, H1)) : H1 = H ∧ ∀ ob, evOp cl G n0 e (hpush H ob) op = some (v, hpush H ob) := by
  cases op <;> simp only [isRead, Bool.false_eq_true] at hp
  case load ag n a =>
    simp only [evOp] at h ⊢
    split at h
    · split at h
      · rename_i hl
        simp only [hload_push hl]
        split at h
        · simp only [Option.some.injEq, Prod.mk.injEq] at h; obtain ⟨rfl, rfl⟩ := h
          exact ⟨rfl, fun ob => by simp_all⟩
        · simp at h
      · simp at h
    · split at h
      · split at h
        · simp only [Option.some.injEq, Prod.mk.injEq] at h; obtain ⟨rfl, rfl⟩ := h
          exact ⟨rfl, fun ob => by simp_all⟩
        · simp at h
      · simp at h
    · simp at h
  case cvStr x =>
    simp only [evOp] at h ⊢
    split at h
    · rename_i hs
      simp only [src_push hs]
      split at h
      · split at h
        · simp only [Option.some.injEq, Prod.mk.injEq] at h; obtain ⟨rfl, rfl⟩ := h
          exact ⟨rfl, fun ob => by simp_all⟩
        · simp at h
      · simp at h
    · simp at h
  case slice oe x lo hi =>
    simp only [evOp] at h ⊢
    split at h
    · repeat' split at h
      all_goals first | (simp only [reduceCtorEq] at h; done) | (simp only [Option.some.injEq, Prod.mk.injEq] at h; obtain ⟨rfl, rfl⟩ := h; exact ⟨rfl, fun H' => by simp_all⟩)
    · repeat' split at h
      all_goals first | (simp only [reduceCtorEq] at h; done) | (simp only [Option.some.injEq, Prod.mk.injEq] at h; obtain ⟨rfl, rfl⟩ := h; exact ⟨rfl, fun H' => by simp_all⟩)
    · split at h
      · rename_i hr
        simp only [rowOf_push hr]
        repeat' split at h
        all_goals first | (simp only [reduceCtorEq] at h; done) | (simp only [Option.some.injEq, Prod.mk.injEq] at h; obtain ⟨rfl, rfl⟩ := h; exact ⟨rfl, fun H' => by simp_all⟩)
      · simp at h
    · simp at h
  case iaddr el x i =>
    simp only [evOp] at h ⊢
    split at h
    · split at h
      · split at h
        · simp only [Option.some.injEq, Prod.mk.injEq] at h; obtain ⟨rfl, rfl⟩ := h
          exact ⟨rfl, fun ob => by simp_all⟩
        · simp at h
      · split at h
        · split at h
          · rename_i hr
            simp only [rowOf_push hr]
            split at h
            · simp only [Option.some.injEq, Prod.mk.injEq] at h; obtain ⟨rfl, rfl⟩ := h
              exact ⟨rfl, fun ob => by simp_all⟩
            · simp at h
          · simp at h
        · simp at h
      · simp at h
    · simp at h
  case pcall f as =>
    simp only [evOp] at h ⊢
    split at h
    · split at h
      · rename_i hm
        simp only [mapO_mono (fun _ _ => view_push) hm]
        split at h
        · split at h
          · simp only [Option.some.injEq, Prod.mk.injEq] at h; obtain ⟨rfl, rfl⟩ := h
            exact ⟨rfl, fun ob => by simp_all⟩
          · simp at h
        · simp at h
      · simp at h
    · simp at h

theorem push_op {op : AOp} (hp : isPush op = true) {v : V} {H1 : Hp} (h : evOp cl G n0 e H op = some (v, H1)) : ∃ ob, H1 = hpush H ob := by
  cases op <;> simp only [isPush, Bool.false_eq_true] at hp
  case lit own en ps =>
    cases own <;> simp only [Bool.false_eq_true] at hp
    simp only [evOp] at h
    split at h
    · simp only [Option.some.injEq, Prod.mk.injEq] at h; exact ⟨_, h.2.symm⟩
    · simp at h
  case mkmap => simp only [evOp, Option.some.injEq, Prod.mk.injEq] at h; exact ⟨_, h.2.symm⟩
  case mkslice en b z l c =>
    simp only [evOp] at h
    split at h
    · split at h
      · simp only [Option.some.injEq, Prod.mk.injEq] at h; exact ⟨_, h.2.symm⟩
      · simp at h
    · simp at h
  all_goals
    simp only [evOp] at h
    split at h
    · simp only [Option.some.injEq, Prod.mk.injEq] at h; exact ⟨_, h.2.symm⟩
    · simp at h
end
end Go.Ev

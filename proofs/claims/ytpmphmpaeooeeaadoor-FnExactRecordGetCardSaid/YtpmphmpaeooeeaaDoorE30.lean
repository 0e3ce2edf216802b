/- Programs with variables and functions whose meaning is given: tables of integers. -/
import Derived.Test.YtpmphmpaeooeeaaDoorE29
import Derived.Lib.LaidTab
import Derived.Sort.Grow
import Derived.WalkSmall
namespace Go.Ev
open Go Go.Sort
set_option linter.unusedSimpArgs false
set_option linter.unusedVariables false

/-- A program out of a table, with variables that are read and functions that are given. -/
def ofTabG (t : List (Nat × AFunc)) (glob : Glob) (prim : Nat → Option (List V → Hp → Option (V × Hp))) : Prg := { fns := getF t, glob := glob, prim := prim }

theorem ofTabG_ok {P : Program} {t : List (Nat × AFunc)} {glob : Glob} {prim : Nat → Option (List V → Hp → Option (V × Hp))} (hm : P.follows .mixedOrders = true) (h : ∀ p ∈ t, ∃ fn, P.funcs[p.1]? = some fn ∧ chkFunc P fn p.2 = true)
    (hp : ∀ k p, prim k = some p → ∀ args H r, p args H = some r → SoundAt P glob k args H r) : PrgOk P (ofTabG t glob prim) :=
  ⟨hm, fun _ _ hk => h _ (getF_mem hk), hp⟩

/-- A variable that holds integers. -/
def intsD (k : IntKind) (zs : List Int) : List D := zs.map (.int k)

theorem tab_of_gr {P : Program} {G : Glob} {w : World} {O : Own} (hG : GR G w O) {name : String} {g : Nat} {k : IntKind} {zs : List Int} (hn : P.globalNamed name = some g) (hg : G g = some (intsD k zs)) : Lib.TabIs P w name k zs := by
  obtain ⟨h1, arr, ty, fr, hh, hs⟩ := hG g _ hg
  cases h1 with
  | rptr _ b o F hO hb hc h1c hr =>
    unfold Lib.TabIs World.var?
    rw [hn]
    simp only [Option.bind_some, hh, Option.some.injEq]
    have hl : arr.size = zs.length := by simpa [intsD] using hs
    apply Array.ext
    · simp [hl]
    · intro i h1 h2
      have hi : i < zs.length := by omega
      have hi' : i < (intsD k zs).length := by simpa [intsD] using hi
      have c := hc i hi'
      have r := hr i hi'
      have e : (intsD k zs).getD i .nilp = .int k (zs[i]) := by simp [intsD, List.getD_eq_getElem?_getD, hi]
      rw [e] at r
      simp only [World.cell?, hh] at c
      simp only [Nat.zero_add] at c
      rw [Array.getElem?_eq_getElem h1] at c
      simp only [Option.isSome_none, Bool.false_eq_true, if_false, Option.some.injEq] at c
      rw [c]
      generalize F i = q at r ⊢
      cases r
      simp

/-- A table, out of what the row lists. -/
theorem gr_of_tab {P : Program} {w : World} {name : String} {g : Nat} {k : IntKind} {zs : List Int} (hn : P.globalNamed name = some g) (h : Lib.TabIs P w name k zs) :
    RD w (fun _ => False) (.rptr (intsD k zs)) (.pointer (some ⟨g, 0, none⟩)) ∧ ∃ arr ty fr, w.heap[g]? = some (.cells arr ty fr) ∧ arr.size = (intsD k zs).length := by
  unfold Lib.TabIs World.var? at h
  rw [hn] at h
  simp only [Option.bind_some] at h
  split at h
  · rename_i cs ty fr hh
    simp only [Option.some.injEq] at h
    subst h
    refine ⟨.rptr _ g 0 (fun j => .int k (zs.getD j 0)) (fun h => h) (Array.getElem?_eq_some_iff.1 hh).1 (fun j hj => ?_) (fun j hj => rfl) (fun j hj => ?_), _, _, _, hh, by simp [intsD]⟩
    · have hj' : j < zs.length := by simpa [intsD] using hj
      simp [World.cell?, hh, List.getD_eq_getElem?_getD, hj']
    · have hj' : j < zs.length := by simpa [intsD] using hj
      have e : (intsD k zs).getD j .nilp = .int k (zs.getD j 0) := by simp [intsD, List.getD_eq_getElem?_getD, hj']
      rw [e]
      exact .int _ _
  · simp at h

/-- What is said of a world's going on is so of one that has only grown. -/
theorem ext_grow {w : World} {O : Own} (k : Nat) (os : Array Go.Obj) : Ext w O (grow (w.drewN k) os) O :=
  ⟨rfl, rfl, rfl, by simp [grow, World.drewN], fun b hb hO => ⟨by
    show (w.heap ++ os)[b]? = _
    rw [Array.getElem?_append_left hb], hO⟩⟩

/-- A given function of data that leaves every heap as it is. -/
theorem prim_sound {P : Program} {G : Glob} {k : Nat} {args : List V} {H : Hp} {x : D} (hf : FnOk P k)
    (hc : ∀ (w : World) (pl : Pl) (us : Array Value), GR G w (owned pl H) → RVs w (owned pl H) pl (hlen H) args us → Calls P k us w fun e w' => ∃ u, e = .returned u ∧ RD w' (owned pl H) x u ∧ ∃ m os, w' = grow (w.drewN m) os) : SoundAt P G k args H (.d x, H) := by
  refine ⟨hf, fun w pl Bd us hH hG hR => (hc w pl us hG hR).mono fun e w' he => ?_⟩
  obtain ⟨u, rfl, hx, m, os, rfl⟩ := he
  have E : Ext w (owned pl H) (grow (w.drewN m) os) (owned pl H) := ext_grow m os
  refine ⟨u, pl, rfl, ⟨?_, .d _ _ hx, E, PlExt.refl _ _, Nat.le_refl _⟩⟩
  exact (hH.mono_all (w' := grow (w.drewN m) os) ⟨rfl, rfl, rfl, by simp [grow, World.drewN], fun b hb _ => ⟨by
    show (w.heap ++ os)[b]? = _
    rw [Array.getElem?_append_left hb], fun h => h⟩⟩).1
end Go.Ev

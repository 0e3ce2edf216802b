/- Lists of lists of texts, as a law's argument. -/
import Derived.Test.YtpmphmpaeooeeaaDoorE30
import Derived.SliceStrings
import Derived.ChangeArms
import Derived.OpenShut
namespace Go.Proofs.YtpmphmpaeooeeaaDoor.Code
open Go Go.Ev Go.Proofs Go.ChangeShapes Go.WideShapes
set_option maxRecDepth 100000
set_option linter.unusedSimpArgs false
set_option linter.unusedVariables false
/-- Lists of texts, as data. -/
def textss (xss : List (List Txt)) : List D := xss.map fun xs => txts xs
/-- A row of rows of strings, as the row's reader finds it. -/
def IsTextss (w : World) (a : Option Addr) (len cap : Nat) (xss : List (List ByteArray)) : Prop :=
  xss.length = len ∧ len ≤ cap ∧ len ≤ maxLen ∧ (∀ i, i < len → (xss.getD i []).length ≤ maxLen ∧ ∀ s ∈ xss.getD i [], s.size ≤ maxLen) ∧
    (len = 0 ∨ ∃ x, a = some x ∧ ∀ i, i < len → ∃ ai li ci, w.cell? (x.add i) = some (.slice ai li ci) ∧ IsTexts w ai li ci (xss.getD i []))
def textssOf (xss : List (List ByteArray)) : List (List Txt) := xss.map txtsOf
theorem rd_textss {w : World} {a : Option Addr} {len cap : Nat} {xss : List (List ByteArray)} (h : IsTextss w a len cap xss) : RD w (fun _ => False) (.vals 1 (textss (textssOf xss))) (.slice a len cap) := by
  obtain ⟨hl, hc, hm, hs, hx⟩ := h
  by_cases h0 : len = 0
  · subst h0
    have : xss = [] := List.eq_nil_of_length_eq_zero hl
    subst this
    exact .vals0 _ _ _
  · rcases hx with hx | ⟨x, rfl, hx⟩
    · exact absurd hx h0
    · obtain ⟨ai0, li0, ci0, hx0, _⟩ := hx 0 (by omega)
      have ha0 : x.add 0 = x := by simp [Addr.add]
      rw [ha0] at hx0
      obtain ⟨hsp, hb⟩ := cell_spot hx0
      obtain ⟨b, o, sp⟩ := x
      simp only at hsp hb
      subst hsp
      have hlen : (textss (textssOf xss)).length = len := by simp [textss, textssOf, hl]
      have hget : ∀ i, i < len → (textss (textssOf xss)).getD i .nilp = txts (txtsOf (xss.getD i [])) := by
        intro i hi
        rw [← hl] at hi
        simp [textss, textssOf, List.getD_eq_getElem?_getD, hi]
      have := RD.vals (w := w) (O := fun _ => False) 1 (textss (textssOf xss)) b o cap (fun i _ => (w.cell? ((⟨b, o, none⟩ : Addr).add i)).getD undef) (by omega) (fun h => h) hb (fun i hi => by rw [hget i (by omega)]; rfl)
        (fun i j hi hj => by
          obtain rfl : j = 0 := by omega
          obtain ⟨ai, li, ci, hc1, _⟩ := hx i (by omega)
          have hc2 := hc1
          rw [Go.Ev.add_plain] at hc2
          simp only [hc1, Option.getD_some, Nat.mul_one, Nat.add_zero]
          exact hc2)
        (fun i j hi hj => by
          obtain ⟨ai, li, ci, hc1, _⟩ := hx i (by omega)
          simp only [hc1, Option.getD_some]
          rfl)
        (fun i j hi hj => by
          obtain rfl : j = 0 := by omega
          obtain ⟨ai, li, ci, hc1, ht⟩ := hx i (by omega)
          rw [hget i (by omega)]
          simp only [hc1, Option.getD_some]
          exact rd_texts ht)
      rw [hlen] at this
      exact this
section
variable {H : Type} {enc : TypeId × Value → H} {P : Program} {w : World} {base : Nat} {spare : Nat → Bool} {held : Bool}
theorem open_textss {t e s : TypeId} {fuel : Nat} {a : Option Addr} {len cap : Nat} {cs : List Value} {x : DataW H × List MemPlace} (ht : P.underlying t = some (.slice e)) (he : P.underlying e = some (.slice s)) (hs : P.underlying s = some .string) (hce : P.cellsOf e = 1) (hcs : P.cellsOf s = 1)
    (hv : cs = [.slice a len cap]) (h : DataW.trod enc P w base spare held fuel t cs = some x) : ∃ xss, IsTextss w a len cap xss := by
  rcases DataW.trod_slice ht h with ⟨h0, _⟩ | ⟨a', len', cap', elems, rest, n, _, h0, _, hb, hl, hm, hlen, hel, _, _⟩
  · rw [hv] at h0
    simp only [List.cons.injEq, Value.slice.injEq, and_true] at h0
    obtain ⟨rfl, rfl, rfl⟩ := h0
    exact ⟨[], rfl, Nat.le_refl _, Nat.zero_le _, fun i hi => absurd hi (by omega), .inl rfl⟩
  · rw [hv] at h0
    simp only [List.cons.injEq, Value.slice.injEq, and_true] at h0
    obtain ⟨rfl, rfl, rfl⟩ := h0
    have each : ∀ i, i < len → ∃ (ss : List ByteArray) (ai : Option Addr) (li ci : Nat), w.cell? (a'.add i) = some (.slice ai li ci) ∧ IsTexts w ai li ci ss := by
      intro i hi
      have h1 := hel i hi
      have hi' : i < elems.length := by omega
      rw [List.getElem?_eq_getElem hi', hce, Nat.mul_one, Option.bind_eq_some_iff] at h1
      obtain ⟨cs', hcs', h2⟩ := h1
      rcases open_strings he hs hcs h2 with ⟨rfl, _⟩ | ⟨x', l, c, ss, rfl, _, hl2, hm2, hz, _, hcell, hsz2⟩
      · exact ⟨[], none, 0, 0, cell_of_cells?_one hcs', rfl, Nat.le_refl _, Nat.zero_le _, fun s hs => by simp at hs, .inl rfl⟩
      · have hle : l ≤ ss.length := by rw [hz]; split <;> omega
        refine ⟨ss.take l, some x', l, c, cell_of_cells?_one hcs', by simp; omega, hl2, Nat.le_trans hl2 hm2, fun s hs => hsz2 s (List.mem_of_mem_take hs), .inr ⟨_, rfl, fun j hj => ?_⟩⟩
        rw [hcell j (by omega)]
        simp [List.getD_eq_getElem?_getD, hj]
    let xss : List (List ByteArray) := (List.range len).map fun i => if h : i < len then (each i h).choose else []
    have hg : ∀ i (hi : i < len), xss.getD i [] = (each i hi).choose := by
      intro i hi
      simp [xss, List.getD_eq_getElem?_getD, hi]
    refine ⟨xss, by simp [xss], hl, Nat.le_trans hl hm, fun i hi => ?_, .inr ⟨_, rfl, fun i hi => ?_⟩⟩
    · rw [hg i hi]
      obtain ⟨ai, li, ci, _, h1, _, h3, h4, _⟩ := (each i hi).choose_spec
      exact ⟨by omega, h4⟩
    · rw [hg i hi]
      exact (each i hi).choose_spec
end
end Go.Proofs.YtpmphmpaeooeeaaDoor.Code

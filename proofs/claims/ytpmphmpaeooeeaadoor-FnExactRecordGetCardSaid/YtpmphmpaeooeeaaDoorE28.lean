/- A law's arguments as data: slices of texts, of bytes. -/
import Derived.Test.YtpmphmpaeooeeaaDoorE27
import Derived.SliceStrings
namespace Go.Ev
open Go
set_option linter.unusedSimpArgs false
set_option linter.unusedVariables false

/-- A row of strings, as the row's reader finds it. -/
def IsTexts (w : World) (a : Option Addr) (len cap : Nat) (ss : List ByteArray) : Prop :=
  ss.length = len ∧ len ≤ cap ∧ len ≤ maxLen ∧ (∀ s ∈ ss, s.size ≤ maxLen) ∧ (len = 0 ∨ ∃ x, a = some x ∧ ∀ i, i < len → w.cell? (x.add i) = some (.string (ss.getD i ByteArray.empty)))

def txtsOf (ss : List ByteArray) : List Txt := ss.map fun s => s.data.toList

theorem cell_spot {w : World} {x : Addr} {v : Value} (h : w.cell? x = some v) : x.spot = none ∧ x.block < w.heap.size := by
  unfold World.cell? at h
  split at h
  · rename_i hb
    split at h
    · simp at h
    · rename_i hs
      exact ⟨by simpa using hs, (Array.getElem?_eq_some_iff.1 hb).1⟩
  · simp at h

theorem add_plain (b o i : Nat) : (⟨b, o, none⟩ : Addr).add i = ⟨b, o + i, none⟩ := by
  unfold Addr.add
  split
  · rename_i h; subst h; rfl
  · rfl

theorem rd_texts {w : World} {a : Option Addr} {len cap : Nat} {ss : List ByteArray} (h : IsTexts w a len cap ss) : RD w (fun _ => False) (txts (txtsOf ss)) (.slice a len cap) := by
  obtain ⟨hl, hc, hm, hs, hx⟩ := h
  by_cases h0 : len = 0
  · subst h0
    have : ss = [] := List.eq_nil_of_length_eq_zero hl
    subst this
    exact .vals0 _ _ _
  · rcases hx with hx | ⟨x, rfl, hx⟩
    · exact absurd hx h0
    · have hx0 := hx 0 (by omega)
      have ha0 : x.add 0 = x := by simp [Addr.add]
      rw [ha0] at hx0
      obtain ⟨hsp, hb⟩ := cell_spot hx0
      obtain ⟨b, o, sp⟩ := x
      simp only at hsp hb
      subst hsp
      have hlen : ((txtsOf ss).map D.str).length = len := by simp [txtsOf, hl]
      have hget : ∀ i, i < len → ((txtsOf ss).map D.str).getD i .nilp = .str ((ss.getD i ByteArray.empty).data.toList) := by
        intro i hi
        rw [← hl] at hi
        simp [txtsOf, List.getD_eq_getElem?_getD, hi]
      have := RD.vals (w := w) (O := fun _ => False) 1 ((txtsOf ss).map D.str) b o cap (fun i _ => .string (ss.getD i ByteArray.empty)) (by omega) (fun h => h) hb (fun i hi => by rw [hget i (by omega)]; rfl)
        (fun i j hi hj => by
          obtain rfl : j = 0 := by omega
          have := hx i (by omega)
          rw [add_plain] at this
          simpa using this)
        (fun i j hi hj => rfl)
        (fun i j hi hj => by
          obtain rfl : j = 0 := by omega
          rw [hget i (by omega)]
          exact .str _ _ rfl)
      rw [hlen] at this
      exact this

theorem txtsOf_len (ss : List ByteArray) : (txtsOf ss).length = ss.length := by simp [txtsOf]
theorem txtsOf_get (ss : List ByteArray) (h : ∀ s ∈ ss, s.size ≤ maxLen) (i : Nat) : ((txtsOf ss).getD i []).length ≤ maxLen := by
  by_cases hi : i < ss.length
  · have := h ss[i] (List.getElem_mem hi)
    simp only [txtsOf, List.getD_eq_getElem?_getD, List.getElem?_map, List.getElem?_eq_getElem hi, Option.map_some, Option.getD_some]
    rw [Array.length_toList]
    exact this
  · have : (txtsOf ss).getD i [] = [] := by simp [txtsOf, List.getD_eq_getElem?_getD, hi]
    rw [this]
    exact Nat.zero_le _

theorem rd_bytes {w : World} {k : IntKind} {a : Option Addr} {len cap : Nat} {zs : List Int} (h : IsRow k w a len cap zs) : RD w (fun _ => False) (.vals 1 ((zs.take len).map (.int k))) (.slice a len cap) := by
  rcases h with ⟨rfl, rfl, rfl, rfl⟩ | ⟨x, rfl, hl, hm, hz, hx, hw⟩
  · exact .vals0 _ _ _
  · by_cases h0 : len = 0
    · subst h0
      exact .vals0 _ _ _
    · have hx0 := hx 0 (by omega)
      have ha0 : x.add 0 = x := by simp [Addr.add]
      rw [ha0] at hx0
      obtain ⟨hsp, hb⟩ := cell_spot hx0
      obtain ⟨b, o, sp⟩ := x
      simp only at hsp hb
      subst hsp
      have hlen : ((zs.take len).map (D.int k)).length = len := by simp; omega
      have hget : ∀ i, i < len → ((zs.take len).map (D.int k)).getD i .nilp = .int k (zs.getD i 0) := by
        intro i hi
        have hi' : i < zs.length := by omega
        simp [List.getD_eq_getElem?_getD, hi, hi']
      have := RD.vals (w := w) (O := fun _ => False) 1 ((zs.take len).map (D.int k)) b o cap (fun i _ => .int k (zs.getD i 0)) (by omega) (fun h => h) hb (fun i hi => by rw [hget i (by omega)]; rfl)
        (fun i j hi hj => by
          obtain rfl : j = 0 := by omega
          have := hx i (by omega)
          rw [add_plain] at this
          simpa using this)
        (fun i j hi hj => rfl)
        (fun i j hi hj => by
          obtain rfl : j = 0 := by omega
          rw [hget i (by omega)]
          exact .int _ _)
      rw [hlen] at this
      exact this
theorem row_bytes {w : World} {a : Option Addr} {len cap : Nat} {zs : List Int} (h : IsRow .u8 w a len cap zs) : ∀ i, 0 ≤ (zs.take len).getD i 0 ∧ (zs.take len).getD i 0 ≤ 255 := by
  have hall : ∀ n ∈ zs, 0 ≤ n ∧ n ≤ 255 := by
    rcases h with ⟨_, _, _, rfl⟩ | ⟨x, _, _, _, _, _, hw⟩
    · intro n hn; simp at hn
    · intro n hn
      have := hw n hn
      have e1 : IntKind.u8.min = 0 := rfl
      have e2 : IntKind.u8.max = 255 := rfl
      simp only [Lit.wf, Bool.and_eq_true, decide_eq_true_eq, e1, e2] at this
      exact this
  intro i
  by_cases hi : i < (zs.take len).length
  · rw [List.getD_eq_getElem?_getD, List.getElem?_eq_getElem hi]
    exact hall _ (List.mem_of_mem_take (List.getElem_mem hi))
  · rw [List.getD_eq_getElem?_getD, List.getElem?_eq_none (by omega)]
    simp
end Go.Ev

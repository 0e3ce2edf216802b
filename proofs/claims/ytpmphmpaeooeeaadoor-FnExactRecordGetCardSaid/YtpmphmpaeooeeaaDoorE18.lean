/- References turned into data: what is looked at, what is handed over, what is handed back. -/
import Derived.Test.YtpmphmpaeooeeaaDoorE17
namespace Go.Ev
open Go
set_option linter.unusedSimpArgs false
set_option linter.unusedVariables false

section
variable {P : Program} {w : World} {pl : Pl} {Bd : Nat → Prop} {H : Hp}

/-- Elements that are data, in a block that nobody owns. -/
theorem rd_row {O : Own} {b e i k c cap : Nat} {ds : List D} {arr : Array Value} {ty : TypeId} {fr : Nat × Nat} (hO : ¬ O b) (hh : w.heap[b]? = some (.cells arr ty fr)) (hs : arr.size = c * e) (hlen : ds.length = k) (hc : i + k ≤ c) (hcap : k ≤ cap)
    (he : ∀ j, j < k → (ds.getD j .nilp).cells.length = e) (hr : ∀ j l, j < k → l < e → RD w O ((ds.getD j .nilp).cells.getD l .nilp) (arr.getD ((i + j) * e + l) undef)) (h1 : ∀ j l, j < k → l < e → (arr.getD ((i + j) * e + l) undef).oneCell' = true) :
    RD w O (.vals e ds) (.slice (some ⟨b, i * e, none⟩) k cap) := by
  subst hlen
  refine .vals e ds b (i * e) cap (fun j l => arr.getD ((i + j) * e + l) undef) hcap hO (Array.getElem?_eq_some_iff.1 hh).1 he (fun j l hj hl => ?_) h1 hr
  have := mul_add_lt (i := i + j) (j := l) (e := e) (c := c) (by omega) hl
  rw [show i * e + j * e + l = (i + j) * e + l by rw [Nat.add_mul]]
  exact cell_of_block hh (by omega)

theorem getD_d {ds : List D} {i j : Nat} (hi : i < ds.length) (hj : j < (ds.getD i .nilp).cells.length) : ((ds.map V.d).getD i .any).cells.getD j .any = .d ((ds.getD i .nilp).cells.getD j .nilp) := by
  rw [getD_map_d ds i hi, cells_d, getD_map_d _ j hj]

theorem mapO_some {α β : Type} {f : α → Option β} {d : α} {d' : β} : ∀ {xs : List α} {ys : List β}, mapO f xs = some ys → ys.length = xs.length ∧ ∀ i, i < xs.length → f (xs.getD i d) = some (ys.getD i d')
  | [], ys, h => by simp [mapO] at h; subst h; exact ⟨rfl, fun i hi => by simp at hi⟩
  | x :: xs, ys, h => by
    simp only [mapO] at h
    split at h
    · rename_i b hb
      split at h
      · rename_i bs hbs
        simp at h; subst h
        obtain ⟨h1, h2⟩ := mapO_some hbs
        refine ⟨by simp [h1], fun i hi => ?_⟩
        cases i with
        | zero => exact hb
        | succ i => exact h2 i (by simpa using hi)
      · simp at h
    · simp at h

/-- The references that a view looks through. -/
def refs1 : V → List Nat
  | .slc r _ _ _ => [r]
  | .ptr r _ _ _ => [r]
  | _ => []
def refs : V → List Nat
  | .fn _ caps => caps.flatMap refs1
  | .agg cs => cs.flatMap refs1
  | v => refs1 v

theorem view1_ok (hH : HR w pl Bd H) {v : V} {x : D} (h : view1 H v = some x) {u : Value} (hu : RV w (owned pl H) pl (hlen H) v u) {O' : Own} (E : Ext w (owned pl H) w O') (hO : ∀ r ∈ refs1 v, ∀ b, blk pl H r = some b → ¬ O' b) : RD w O' x u := by
  unfold view1 at h
  split at h
  · simp at h; subst h
    exact hu.dd.mono E
  · simp at h; subst h
    cases hu; exact .vals0 _ _ _
  · rename_i r g i k
    split at h
    · rename_i e xs hrow
      split at h
      · rename_i hle
        split at h
        · rename_i ds hds
          simp at h; subst h
          have hxs := allD_some hds
          subst hxs
          obtain ⟨b, c, arr, ty, fr, hpl, hh, hsa, hf, hxc, he, hr, h1, _⟩ := row_lies hH hrow
          have hbl : blk pl H r = some b := by simp [blk, hget_row hrow, hpl]
          have hnb := hO r (by simp [refs1]) b hbl
          simp only [List.length_map] at hle hxc he hr h1
          cases hu with
          | slc _ _ _ _ b' e2 c' hlt hp' hk =>
            rw [hpl] at hp'
            simp only [Option.some.injEq, Prod.mk.injEq] at hp'
            obtain ⟨rfl, rfl, rfl⟩ := hp'
            have hg : ∀ j, j < k → ((ds.drop i).take k).getD j .nilp = ds.getD (i + j) .nilp := fun j hj => getD_drop_take ds .nilp i k j hj
            have hel : ∀ j, j < ds.length → (ds.getD j .nilp).cells.length = e := fun j hj => by
              have := he j hj
              rw [getD_map_d ds j hj, cells_d] at this
              simpa using this
            refine rd_row hnb hh hsa (by simp; omega) (by omega) (by omega) (fun j hj => by rw [hg j hj]; exact hel _ (by omega)) (fun j l hj hl => ?_) (fun j l hj hl => h1 _ _ (by omega) hl)
            rw [hg j hj]
            have := hr (i + j) l (by omega) hl
            rw [getD_d (by omega) (by rw [hel _ (by omega)]; exact hl)] at this
            exact this.dd.mono E
          | slc0 _ _ _ A cap hi hlt =>
            have : (ds.drop i).take 0 = [] := by simp
            rw [this]
            exact .vals0 _ _ _
        · simp at h
      · simp at h
    · simp at h
  · rename_i r g i j
    split at h
    · rename_i e xs hrow
      split at h
      · rename_i ds hds
        split at h
        · rename_i hil
          simp only [Option.some.injEq] at h; subst h
          have hxs := allD_some hds
          subst hxs
          obtain ⟨b, c, arr, ty, fr, hpl, hh, hsa, hf, hxc, he, hr, h1, _⟩ := row_lies hH hrow
          have hbl : blk pl H r = some b := by simp [blk, hget_row hrow, hpl]
          have hnb := hO r (by simp [refs1]) b hbl
          simp only [List.length_map] at hxc he hr h1
          have hel : (ds.getD i .nilp).cells.length = e := by
            have := he i hil
            rw [getD_map_d ds i hil, cells_d] at this
            simpa using this
          cases hu with
          | ptr _ _ _ _ b' e2 c' hlt hp' =>
            rw [hpl] at hp'
            simp only [Option.some.injEq, Prod.mk.injEq] at hp'
            obtain ⟨rfl, rfl, rfl⟩ := hp'
            have hdl : ((ds.getD i .nilp).cells.drop j).length = e - j := by simp only [List.length_drop, hel]
            refine .rptr _ b (i * e + j) (fun l => arr.getD (i * e + (j + l)) undef) hnb (Array.getElem?_eq_some_iff.1 hh).1 (fun l hl => ?_) (fun l hl => h1 i (j + l) hil (by omega)) (fun l hl => ?_)
            · have := mul_add_lt (i := i) (j := j + l) (e := e) (c := c) (by omega) (by omega)
              rw [Nat.add_assoc]
              exact cell_of_block hh (by omega)
            · have := hr i (j + l) hil (by omega)
              rw [getD_d hil (by rw [hel]; omega)] at this
              have h2 := this.dd.mono E
              simpa [List.getD_eq_getElem?_getD] using h2
        · simp at h
      · simp at h
    · simp at h
  · simp at h

theorem fz_ok (hH : HR w pl Bd H) {n : Nat} {O' : Own} (E : Ext w (owned pl H) w O') (hO : ∀ r, n ≤ r → ∀ b, blk pl H r = some b → ¬ O' b) : ∀ (d : Nat) (v : V) (x : D) (u : Value), fz n d H v = some x → RV w (owned pl H) pl (hlen H) v u → RD w O' x u := by
  intro d
  induction d with
  | zero =>
    intro v x u h hu
    simp only [fz] at h
    split at h
    · simp at h; subst h; exact hu.dd.mono E
    · simp at h
  | succ d ih =>
    intro v x u h hu
    simp only [fz] at h
    split at h
    · simp at h; subst h; exact hu.dd.mono E
    · simp at h; subst h
      cases hu; exact .vals0 _ _ _
    · split at h
      · rename_i cs xs hxs
        simp at h; subst h
        obtain ⟨h1, h2⟩ := mapO_some (d := V.any) (d' := D.nilp) hxs
        cases hu with
        | agg _ us hl h1' hu => exact .agg xs us (by omega) (fun i hi => h1' i (by omega)) fun i hi => ih _ _ _ (h2 i (by omega)) (hu i (by omega))
      · simp at h
    · rename_i r g i k
      split at h
      · simp at h
      · rename_i hnr
        split at h
        · rename_i e xs hrow
          split at h
          · rename_i hle
            split at h
            · rename_i ys hys
              simp at h; subst h
              obtain ⟨m1, m2⟩ := mapO_some (d := V.any) (d' := D.nilp) hys
              obtain ⟨b, c, arr, ty, fr, hpl, hh, hsa, hf, hxc, he, hr, h1, _⟩ := row_lies hH hrow
              have hbl : blk pl H r = some b := by simp [blk, hget_row hrow, hpl]
              have hnb := hO r (by omega) b hbl
              have hlk : ((xs.drop i).take k).length = k := by simp; omega
              have hg : ∀ j, j < k → ((xs.drop i).take k).getD j .any = xs.getD (i + j) .any := fun j hj => getD_drop_take xs .any i k j hj
              cases hu with
              | slc _ _ _ _ b' e2 c' hlt hp' hk =>
                rw [hpl] at hp'
                simp only [Option.some.injEq, Prod.mk.injEq] at hp'
                obtain ⟨rfl, rfl, rfl⟩ := hp'
                -- each element as it lies, turned into data
                have hel : ∀ j, j < k → ∃ us : Array Value, (us.size = e ∧ ∀ l, l < e → us.getD l undef = arr.getD ((i + j) * e + l) undef) ∧
                    ((ys.getD j .nilp).cells.length = e ∧ ∀ l, l < e → RD w O' ((ys.getD j .nilp).cells.getD l .nilp) (us.getD l undef)) := by
                  intro j hj
                  have hz := m2 j (by omega)
                  rw [hg j hj] at hz
                  have hce := he (i + j) (by omega)
                  let us : Array Value := ((List.range e).map fun l => arr.getD ((i + j) * e + l) undef).toArray
                  have husg : ∀ l, l < e → us.getD l undef = arr.getD ((i + j) * e + l) undef := fun l hl => by
                    have hsz : l < us.size := by simp [us, hl]
                    rw [Array.getD_eq_getD_getElem?, Array.getElem?_eq_getElem hsz]
                    simp [us]
                  have hrc : RCs w (owned pl H) pl (hlen H) (xs.getD (i + j) .any).cells us := ⟨by rw [hce]; simp [us], fun l hl => by rw [husg l (by omega)]; exact hr _ _ (by omega) (by omega), fun l hl => by rw [husg l (by omega)]; exact h1 _ _ (by omega) (by omega)⟩
                  refine ⟨us, ⟨by simp [us], husg⟩, ?_⟩
                  by_cases hag : (xs.getD (i + j) .any).isAgg = true
                  · have hrv : RV w (owned pl H) pl (hlen H) (xs.getD (i + j) .any) (.agg us) := by
                      generalize xs.getD (i + j) .any = y at hag hrc
                      cases y <;> simp [V.isAgg] at hag
                      · rename_i y; cases y <;> simp [V.isAgg] at hag
                        rename_i cs
                        refine .d _ _ (.agg cs us (by simpa [V.cells] using hrc.size) (fun l hl => hrc.one l (by simpa [V.cells] using hl)) fun l hl => ?_)
                        have := hrc.rel l (by simpa [V.cells] using hl)
                        simp only [V.cells] at this
                        rw [getD_map_d cs l hl] at this
                        exact this.dd
                      · rename_i cs
                        exact .agg cs us hrc.size hrc.one hrc.rel
                    have hx := (ih _ _ _ hz hrv).cells
                    have hs : us.size = (ys.getD j .nilp).cells.length := hx.1
                    have hus : us.size = e := by simp [us]
                    exact ⟨by omega, fun l hl => (hx.2 l (by omega)).1⟩
                  · have hag' : (xs.getD (i + j) .any).isAgg = false := by simpa using hag
                    have hc1 := cells_of_one hag'
                    rw [hc1] at hce
                    have he1 : e = 1 := by simpa using hce.symm
                    have hrv := hrc.rel 0 (by rw [hc1]; simp)
                    have hone := hrc.one 0 (by rw [hc1]; simp)
                    rw [hc1] at hrv
                    simp only [List.getD_cons_zero] at hrv
                    have hx := (ih _ _ _ hz hrv).cells
                    have hus : (us.getD 0 undef).cells = #[us.getD 0 undef] := by
                      generalize us.getD 0 undef = q at hone
                      cases q <;> first | rfl | simp [Value.oneCell'] at hone
                    rw [hus] at hx
                    have h0 := hx.1
                    refine ⟨by rw [he1]; simpa using h0.symm, fun l hl => ?_⟩
                    obtain rfl : l = 0 := by omega
                    have := (hx.2 0 (by rw [← h0]; simp)).1
                    simpa using this
                refine rd_row hnb hh hsa (by omega) (by omega) (by omega) (fun j hj => (hel j hj).choose_spec.2.1) (fun j l hj hl => ?_) (fun j l hj hl => h1 _ _ (by omega) hl)
                obtain ⟨us, ⟨_, hg2⟩, _, h3⟩ := hel j hj
                rw [← hg2 l hl]
                exact h3 l hl
              | slc0 _ _ _ A cap hi hlt =>
                have : ys = [] := List.eq_nil_of_length_eq_zero (by omega)
                subst this
                exact .vals0 _ _ _
            · simp at h
          · simp at h
        · simp at h
    · rename_i r g i j
      split at h
      · simp at h
      · rename_i hnr
        split at h
        · rename_i e xs hrow
          split at h
          · rename_i y hy
            split at h
            · rename_i ys hys
              simp at h; subst h
              obtain ⟨m1, m2⟩ := mapO_some (d := V.any) (d' := D.nilp) hys
              obtain ⟨b, c, arr, ty, fr, hpl, hh, hsa, hf, hxc, he, hr, h1, _⟩ := row_lies hH hrow
              have hbl : blk pl H r = some b := by simp [blk, hget_row hrow, hpl]
              have hnb := hO r (by omega) b hbl
              have hil : i < xs.length := (List.getElem?_eq_some_iff.1 hy).1
              have hyd : xs.getD i .any = y := by simp [List.getD_eq_getElem?_getD, hy]
              have hye : y.cells.length = e := by rw [← hyd]; exact he i hil
              cases hu with
              | ptr _ _ _ _ b' e2 c' hlt hp' =>
                rw [hpl] at hp'
                simp only [Option.some.injEq, Prod.mk.injEq] at hp'
                obtain ⟨rfl, rfl, rfl⟩ := hp'
                have hdl : ys.length = e - j := by rw [m1]; simp only [List.length_drop, hye]
                refine .rptr _ b (i * e + j) (fun l => arr.getD (i * e + (j + l)) undef) hnb (Array.getElem?_eq_some_iff.1 hh).1 (fun l hl => ?_) (fun l hl => h1 i (j + l) hil (by omega)) (fun l hl => ?_)
                · have := mul_add_lt (i := i) (j := j + l) (e := e) (c := c) (by omega) (by omega)
                  rw [Nat.add_assoc]
                  exact cell_of_block hh (by omega)
                · have hz := m2 l (by omega)
                  have h2 := hr i (j + l) hil (by omega)
                  rw [hyd] at h2
                  refine ih _ _ _ hz ?_
                  simpa [List.getD_eq_getElem?_getD] using h2
            · simp at h
          · simp at h
        · simp at h
    · split at h
      · rename_i f caps xs hxs
        simp at h; subst h
        obtain ⟨h1, h2⟩ := mapO_some (d := V.any) (d' := D.nilp) hxs
        cases hu with
        | fn _ _ us hl hu => exact .fn _ xs us (by omega) fun i hi => ih _ _ _ (h2 i (by omega)) (hu i (by omega))
      · simp at h
    · rename_i r
      split at h
      · simp at h
      · rename_i hnr
        split at h
        · rename_i ks vs hrow
          split at h
          · rename_i p q hp hq
            simp at h; subst h
            obtain ⟨p1, p2⟩ := mapO_some (d := V.any) (d' := D.nilp) hp
            obtain ⟨q1, q2⟩ := mapO_some (d := V.any) (d' := D.nilp) hq
            have hor := hH.obj r _ hrow
            cases hor with
            | map _ _ b e c es clock hpl hh hk hv hrk hrv =>
              have hbl : blk pl H r = some b := by simp [blk, hrow, hpl]
              have hnb := hO r (by omega) b hbl
              cases hu with
              | mref _ b' e' c' hlt hp' =>
                rw [hpl] at hp'
                simp only [Option.some.injEq, Prod.mk.injEq] at hp'
                obtain ⟨rfl, rfl, rfl⟩ := hp'
                exact .mval _ _ b es clock hnb (Array.getElem?_eq_some_iff.1 hh).1 hh (by omega) (by omega) (fun i hi => ih _ _ _ (p2 i (by omega)) (hrk i hi)) (fun i hi => ih _ _ _ (q2 i (by omega)) (hrv i hi))
          · simp at h
        · simp at h
    · simp at h
theorem view_ok (hH : HR w pl Bd H) {v : V} {x : D} (h : view H v = some x) {u : Value} (hu : RV w (owned pl H) pl (hlen H) v u) {O' : Own} (E : Ext w (owned pl H) w O') (hO : ∀ r b, blk pl H r = some b → ¬ O' b) : RD w O' x u := by
  unfold view at h
  split at h
  · rename_i f caps
    split at h
    · rename_i xs hxs
      simp at h; subst h
      obtain ⟨h1, h2⟩ := mapO_some (d := V.any) (d' := D.nilp) hxs
      cases hu with
      | fn _ _ us hl hu =>
        refine .fn f xs us (by omega) fun i hi => view1_ok hH (h2 i (by omega)) (hu i (by omega)) E fun r hr b hb => hO r b hb
    · simp at h
  · rename_i cs
    split at h
    · rename_i xs hxs
      simp at h; subst h
      obtain ⟨h1, h2⟩ := mapO_some (d := V.any) (d' := D.nilp) hxs
      cases hu with
      | agg _ us hl ho hu =>
        refine .agg xs us (by omega) (fun i hi => ho i (by omega)) fun i hi => view1_ok hH (h2 i (by omega)) (hu i (by omega)) E fun r hr b hb => hO r b hb
    · simp at h
  · split at h
    · rename_i y hy
      simp only [Option.some.injEq] at h; subst h
      exact view1_ok hH hy hu E fun r hr b hb => hO r b hb
    · exact fz_ok hH (n := 0) E (fun r _ b hb => hO r b hb) _ _ _ _ h hu

end
end Go.Ev

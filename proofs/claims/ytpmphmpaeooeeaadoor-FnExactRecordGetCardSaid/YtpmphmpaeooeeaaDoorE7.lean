/- Each operation of compact code does what the model's operation does: stores, arithmetic, conversions, structs, literals. -/
import Derived.Test.YtpmphmpaeooeeaaDoorE6
namespace Go.Ev
open Go
set_option linter.unusedSimpArgs false
set_option linter.unusedVariables false

theorem RV.lower1 {w : World} {O : Own} {pl : Pl} {n m r : Nat} {v : V} {u : Value} (h : RV w O pl n v u) (hb : lowIn1 r v = true) (hr : r ≤ m) : RV w O pl m v u := by
  cases h with
  | d x u h => exact .d x u h
  | nils e a => exact .nils e a
  | slc r' g i k b e c hlt hp hk => exact .slc r' g i k b e c (by simp [lowIn1] at hb; omega) hp hk
  | slc0 r' g i a cap hi hlt => exact .slc0 r' g i a cap hi (by simp [lowIn1] at hb; omega)
  | ptr r' g i j b e c hlt hp => exact .ptr r' g i j b e c (by simp [lowIn1] at hb; omega) hp
  | _ => simp [lowIn1] at hb

theorem RV.lower {w : World} {O : Own} {pl : Pl} {n m r : Nat} {v : V} {u : Value} (h : RV w O pl n v u) (hb : lowIn r v = true) (hr : r ≤ m) : RV w O pl m v u := by
  cases h with
  | d x u h => exact .d x u h
  | agg cs us hl h1 h =>
    refine .agg cs us hl h1 fun i hi => (h i hi).lower1 (r := r) ?_ hr
    simp only [lowIn, List.all_eq_true] at hb
    have : cs.getD i .any = cs[i] := by simp [List.getD_eq_getElem?_getD, hi]
    rw [this]
    exact hb _ (List.getElem_mem hi)
  | nils e a => exact .nils e a
  | slc r' g i k b e c hlt hp hk => exact RV.lower1 (.slc r' g i k b e c hlt hp hk) hb hr
  | slc0 r' g i a cap hi hlt => exact RV.lower1 (.slc0 r' g i a cap hi hlt) hb hr
  | ptr r' g i j b e c hlt hp => exact RV.lower1 (.ptr r' g i j b e c hlt hp) hb hr
  | _ => simp [lowIn, lowIn1] at hb

/-- What may be laid into an object is within bounds for every call that the object lay before. -/
theorem okIn_lower {w : World} {O : Own} {pl : Pl} {Bd : Nat → Prop} {n n0 r m : Nat} {v : V} {u : Value} (h : RV w O pl n v u) (hb : okIn n0 r v = true) (hn : ∀ m, Bd m → m ≤ n0) (hm : m = n ∨ (Bd m ∧ r < m)) : RV w O pl m v u := by
  rcases hm with rfl | ⟨hm, hlt⟩
  · exact h
  · simp only [okIn, Bool.or_eq_true] at hb
    rcases hb with hb | hb
    · exact h.lower hb (by omega)
    · have h1 := Nat.le_of_ble_eq_true hb
      have h2 := hn m hm
      omega

theorem getD_set {α : Type} (xs : List α) (i k : Nat) (x d : α) : (xs.set i x).getD k d = if k = i ∧ i < xs.length then x else xs.getD k d := by
  simp only [List.getD_eq_getElem?_getD, List.getElem?_set]
  by_cases h : i = k
  · subst h
    by_cases hl : i < xs.length <;> simp [hl]
  · have : ¬ (k = i) := fun e => h e.symm
    simp [h, this]

theorem getD_splice (cs vs : List V) (j k : Nat) (hj : j + vs.length ≤ cs.length) : (cs.take j ++ vs ++ cs.drop (j + vs.length)).getD k .any = if j ≤ k ∧ k < j + vs.length then vs.getD (k - j) .any else cs.getD k .any := by
  have hj' : min j cs.length = j := by omega
  simp only [List.getD_eq_getElem?_getD, List.getElem?_append, List.length_append, List.length_take, hj', List.getElem?_take, List.getElem?_drop]
  by_cases h1 : k < j
  · rw [if_pos (by omega), if_pos h1, if_pos h1, if_neg (by omega)]
  · by_cases h2 : k < j + vs.length
    · rw [if_pos h2, if_neg h1, if_pos ⟨by omega, h2⟩]
    · rw [if_neg h2, if_neg (by omega)]
      congr 2
      omega

section
variable {P : Program} {cl : Callf} {G : Glob} {w : World} {pl : Pl} {Bd : Nat → Prop} {H : Hp} {env : Env} {a : Act}

theorem cells_of_one {v : V} (h : v.isAgg = false) : v.cells = [v] := by
  cases v <;> first | rfl | (simp [V.isAgg] at h; done) | skip
  rename_i d
  cases d <;> first | rfl | (simp [V.isAgg] at h; done)

theorem mkAgg_cells (cs : List V) : (mkAgg cs).cells = cs := by
  unfold mkAgg
  split
  · rename_i ds hd
    have := allD_some hd
    subst this
    rfl
  · rfl

theorem reCell_cells {x y : V} {cs : List V} (h : reCell x cs = some y) : y.cells = cs := by
  unfold reCell at h
  split at h
  · simp at h; subst h; exact mkAgg_cells _
  · split at h
    · simp at h
    · rename_i hv
      simp at h; subst h
      exact cells_of_one hv
  · simp at h

theorem hstore_some {r g i j : Nat} {vs : List V} {H' : Hp} (h : hstore H r g i j vs = some H') :
    ∃ e xs x y, rowOf H r g = some (e, xs) ∧ xs[i]? = some x ∧ j + vs.length ≤ x.cells.length ∧ y.cells = x.cells.take j ++ vs ++ x.cells.drop (j + vs.length) ∧ H' = hset H r (.row g e (xs.set i y)) := by
  unfold hstore at h
  split at h
  · rename_i e xs hrow
    split at h
    · rename_i x hx
      split at h
      · rename_i hle
        split at h
        · rename_i y hy
          exact ⟨e, xs, x, y, hrow, hx, hle, reCell_cells hy, by simpa using h.symm⟩
        · simp at h
      · simp at h
    · simp at h
  · simp at h

theorem run_storeVar {t n : Nat} (hsz : szIs P t n = true) {u : Value} (hn : u.cells.size = n) (h1 : ∀ k, k < n → (u.cells.getD k undef).oneCell' = true) {b off : Nat} {arr : Array Value} {ty : TypeId} {fr : Nat × Nat}
    (hh : w.heap[b]? = some (.cells arr ty fr)) (hl : off + n ≤ arr.size) (hf : Unfrozen fr arr.size) : (storeVar t ⟨b, off, none⟩ u).run P w = .ok () (w.setCells b off u.cells.toList) := by
  have hst := run_storeCells_cells (P := P) b off u.cells.toList 0 w
    (fun j hj => by rw [Nat.add_zero, cell_of_block hh (by simp at hj; omega)]; rfl)
    (fun j hj => by
      have := hf (off + 0 + j) (by simp at hj; omega)
      simp only [World.frozen?, hh]
      simp only [Bool.and_eq_false_iff, decide_eq_false_iff_not]
      omega)
    (fun v hv => by
      obtain ⟨k, hk, rfl⟩ := List.mem_iff_getElem.1 hv
      have := h1 k (by simpa [hn] using hk)
      have hk2 : k < u.cells.size := by simpa using hk
      simp only [Array.getD_eq_getD_getElem?, Array.getElem?_eq_getElem hk2, Option.getD_some] at this
      simpa using this)
  rw [Nat.add_zero] at hst
  simp [storeVar, run_sizeOf hsz, hn, hst]

theorem sim_store {n0 : Nat} (hn0 : ∀ m, Bd m → m ≤ n0) (hG : GR G w (owned pl H)) (hH : HR w pl Bd H) (hE : RE w (owned pl H) pl (hlen H) env a) {o : Oper} {t : TypeId} {A X : Operand} (ho : o.op = .store t A X) {p x : AOpd} (hp : opdOk p A = true) (hx : opdOk x X = true) {n : Nat}
    (hsz : szIs P t n = true) {r g i j : Nat} (hpe : opd G env p = .ptr r g i j) (hvn : (opd G env x).cells.length = n) (hk : (opd G env x).sto = true) (hb : okIn n0 r (opd G env x) = true) {H' : Hp} (hs : hstore H r g i j (opd G env x).cells = some H') :
    OpSim P o a w pl Bd H .und H' := by
  have hu := opd_ok hp hG hE (by rw [hpe]; rfl)
  rw [hpe] at hu
  have hv := opd_ok hx hG hE (sto_ok hk)
  obtain ⟨e, xs, y, z, hrow, hy, hle, hz, rfl⟩ := hstore_some hs
  obtain ⟨b, c, arr, ty, fr, hpl, hh, hsa, hf, hxc, he, hr, h1, hbd⟩ := row_lies hH hrow
  have hil : i < xs.length := (List.getElem?_eq_some_iff.1 hy).1
  have hyd : xs.getD i .any = y := by simp [List.getD_eq_getElem?_getD, hy]
  have hye : y.cells.length = e := by rw [← hyd]; exact he i hil
  have hc := hv.cells hk
  have hzl : z.cells.length = e := by rw [hz]; simp; omega
  generalize hue : a.eval A = u at hu
  generalize hve : a.eval X = uv at hv hc
  cases hu with
  | ptr _ _ _ _ b' e' c' hlt hp' =>
    rw [hpl] at hp'
    simp only [Option.some.injEq, Prod.mk.injEq] at hp'
    obtain ⟨rfl, rfl, rfl⟩ := hp'
    have hfit : i * e + j + n ≤ arr.size := by
      have : (i + 1) * e ≤ c * e := Nat.mul_le_mul_right _ (by omega)
      rw [Nat.add_mul] at this
      omega
    have hrun := run_storeVar (P := P) hsz (u := uv) (by rw [hc.size, hvn]) (fun k hk' => hc.one k (by omega)) hh hfit hf
    obtain ⟨s1, s2, s3, arr', s4, s5, s6⟩ := setCells_spec uv.cells.toList (i * e + j) w hh (by simp [hc.size, hvn]; omega)
    have hlen : uv.cells.toList.length = n := by simp [hc.size, hvn]
    rw [hlen] at s6
    -- the new cells, one by one
    have hnew : ∀ (R : V → Value → Prop), (∀ k, k < n → R ((opd G env x).cells.getD k .any) (uv.cells.getD k undef)) → (∀ i j, i < xs.length → j < e → R ((xs.getD i .any).cells.getD j .any) (arr.getD (i * e + j) undef)) →
        ∀ i' j', i' < (xs.set i z).length → j' < e → R (((xs.set i z).getD i' .any).cells.getD j' .any) (arr'.getD (i' * e + j') undef) := by
      intro R h1 h2 i' j' hi' hj'
      rw [List.length_set] at hi'
      rw [getD_set, s6]
      by_cases hii : i' = i
      · subst hii
        rw [if_pos ⟨rfl, hi'⟩, hz, getD_splice _ _ _ _ hle, hvn]
        by_cases hjj : j ≤ j' ∧ j' < j + n
        · rw [if_pos hjj, if_pos (by omega), show i' * e + j' - (i' * e + j) = j' - j by omega]
          have := h1 (j' - j) (by omega)
          simpa [List.getD_eq_getElem?_getD, Array.getD_eq_getD_getElem?] using this
        · rw [if_neg hjj, if_neg (by omega)]
          have := h2 i' j' hi' hj'
          rwa [hyd] at this
      · rw [if_neg (by omega), if_neg (by
          intro hcon
          rcases Nat.lt_or_gt_of_ne hii with hlt' | hgt'
          · have : (i' + 1) * e ≤ i * e := Nat.mul_le_mul_right _ hlt'
            rw [Nat.add_mul] at this
            omega
          · have : (i + 1) * e ≤ i' * e := Nat.mul_le_mul_right _ hgt'
            rw [Nat.add_mul] at this
            omega)]
        exact h2 i' j' hi' hj'
    obtain ⟨k1, k2, k3⟩ := hH.setRow (w' := w.setCells b (i * e + j) uv.cells.toList) (g' := g) (b' := b) (c' := c) (xs' := xs.set i z) (arr' := arr') (hget_row hrow) hpl (Nat.le_refl _) (fun _ => rfl) s1 (by omega)
      (fun b'' _ hne => s3 b'' hne) (.inl rfl) s4 (by omega) (by rw [s5]; exact hf) (by simpa using hxc)
      (fun i' hi' => by
        rw [List.length_set] at hi'
        rw [getD_set]
        split
        · exact hzl
        · exact he i' hi')
      (fun i' j' hi' hj' => hnew (fun _ u => u.oneCell' = true) (fun k hk' => hc.one k (by omega)) h1 i' j' hi' hj')
      (fun m hm i' j' hi' hj' => hnew (fun v u => RV w (owned pl H) pl m v u) (fun k hk' => by
          have hvm : RV w (owned pl H) pl m (opd G env x) uv := okIn_lower hv hb hn0 hm
          exact (hvm.cells hk).rel k (by omega)) (by
          rcases hm with rfl | ⟨hm, hlt'⟩
          · exact hr
          · exact hbd m hm hlt') i' j' hi' hj')
    refine .skip (w' := w.setCells b (i * e + j) uv.cells.toList) (by simp [execOp, ho, Instr.storeAt, hue, hve, Instr.sureAddr, hrun]) ⟨k1, .und, k2, k3, by rw [hlen_hset]; omega⟩
end
end Go.Ev

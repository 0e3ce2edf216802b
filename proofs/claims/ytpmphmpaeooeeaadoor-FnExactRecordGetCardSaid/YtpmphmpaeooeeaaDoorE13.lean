/- Each operation of compact code does what the model's operation does: slice literals, made slices, the least and the greatest, append. -/
import Derived.Test.YtpmphmpaeooeeaaDoorE12
namespace Go.Ev
open Go
set_option linter.unusedSimpArgs false
set_option linter.unusedVariables false

section
variable {P : Program} {cl : Callf} {G : Glob} {w : World} {pl : Pl} {Bd : Nat → Prop} {H : Hp} {env : Env} {a : Act}

theorem fillLit {O : Own} {m e : Nat} (hG : GR G w O) (hE : RE w O pl m env a) : ∀ (qs : List AOpd) (ps : List (Nat × Operand)) (k : Nat) (us : Array Value), litOk k qs ps = true →
    (∀ x ∈ qs, (opd G env x).sto = true ∧ (opd G env x).cells.length = e) → (k + qs.length) * e ≤ us.size →
    ∃ us', Instr.fill (fun i => some (i * e, e)) us (ps.map fun (i, x) => (i, a.eval x)) = some us' ∧ us'.size = us.size ∧
      (∀ i j, i < qs.length → j < e → RV w O pl m (((qs.map (opd G env)).getD i .any).cells.getD j .any) (us'.getD ((k + i) * e + j) undef) ∧ (us'.getD ((k + i) * e + j) undef).oneCell' = true) ∧
      (∀ n, n < k * e → us'.getD n undef = us.getD n undef)
  | [], [], k, us, _, _, _ => ⟨us, rfl, rfl, fun i j hi => by simp at hi, fun _ _ => rfl⟩
  | [], _ :: _, _, _, h, _, _ => by simp [litOk] at h
  | _ :: _, [], _, _, h, _, _ => by simp [litOk] at h
  | x :: qs, (i, y) :: ps, k, us, h, hx, hl => by
    simp only [litOk, Bool.and_eq_true] at h
    obtain ⟨⟨h1, h2⟩, h3⟩ := h
    have h1 := Nat.eq_of_beq_eq_true h1
    subst h1
    obtain ⟨hs, hc⟩ := hx x (by simp)
    have hv := (opd_ok h2 hG hE (sto_ok hs)).cells hs
    have hvs := hv.size
    simp only [List.length_cons] at hl
    have hfit : i * e + e ≤ us.size := by
      have : (i + 1) * e ≤ (i + (qs.length + 1)) * e := Nat.mul_le_mul_right _ (by omega)
      rw [Nat.add_mul, Nat.one_mul] at this
      omega
    have hspec := setFold (a.eval y).cells.toList us (i * e) 0 (by simp; omega)
    rw [← fold_eq] at hspec
    obtain ⟨f1, f2⟩ := hspec
    obtain ⟨us', g1, g2, g3, g4⟩ := fillLit hG hE qs ps (i + 1) ((a.eval y).cells.zipIdx.foldl (fun cs (c, j) => cs.setIfInBounds (i * e + j) c) us) h3 (fun x hx' => hx x (by simp [hx'])) (by rw [f1]; rw [show i + 1 + qs.length = i + (qs.length + 1) by omega]; exact hl)
    have hcond : ¬ (((a.eval y).cells.size ≠ e || i * e + (a.eval y).cells.size > us.size) = true) := by simp; omega
    refine ⟨us', ?_, by rw [g2, f1], fun i' j hi hj => ?_, fun n hn => ?_⟩
    · simp only [List.map_cons, Instr.fill]
      rw [if_neg (by simpa using hcond)]
      exact g1
    · cases i' with
      | zero =>
        have hlt : i * e + j < (i + 1) * e := by rw [Nat.add_mul]; omega
        rw [Nat.add_zero, g4 _ hlt, f2, if_pos (by simp; omega)]
        have := hv.rel j (by omega)
        have h1 := hv.one j (by omega)
        simp only [List.map_cons, List.getD_cons_zero, Nat.add_zero, Nat.add_sub_cancel_left]
        simp only [List.getD_eq_getElem?_getD, Array.getElem?_toList, Array.getD_eq_getD_getElem?] at this h1 ⊢
        exact ⟨this, h1⟩
      | succ i' =>
        have := g3 i' j (by simp at hi; omega) hj
        rw [show i + 1 + i' = i + (i' + 1) by omega] at this
        simpa using this
    · rw [g4 n (by rw [Nat.add_mul]; omega), f2, if_neg (by omega)]

theorem sim_lit (hG : GR G w (owned pl H)) (hH : HR w pl Bd H) (hE : RE w (owned pl H) pl (hlen H) env a) {o : Oper} {t n : Nat} {ps : Array (Nat × Operand)} (ho : o.op = .buildSlice t n ps) {e : Nat} {qs : List AOpd}
    (hc : (match sliceOf P t with | some el => szIs P el e && hasZero P el e | none => false) = true) (hlit : litOk 0 qs ps.toList = true) (hn : n = qs.length) (hbig : n * e ≤ 16777216) (he : 0 < e)
    (hall : ∀ x ∈ qs, (opd G env x).sto = true ∧ (opd G env x).cells.length = e) {v : V} {H' : Hp}
    (hv : (v = .slc (hlen H) 0 0 qs.length ∧ H' = hpush H (.row 0 e (qs.map (opd G env)))) ∨ ∃ xs, allD (qs.map (opd G env)) = some xs ∧ v = .d (.vals e xs) ∧ H' = H) : OpSim P o a w pl Bd H v H' := by
  split at hc
  · rename_i el hel
    have hds := sliceOf_some hel
    simp only [Bool.and_eq_true] at hc
    obtain ⟨hsz, hz⟩ := hc
    obtain ⟨iz, uz, hi, hu, hus, his⟩ := hasZero_some hz
    let zs : Array Value := (Array.range (n * e)).map (uz.cells[· % uz.cells.size]!)
    have hzs : zs.size = n * e := by simp [zs]
    obtain ⟨us, g1, g2, g3, _⟩ := fillLit (a := a) hG hE qs ps.toList 0 zs hlit hall (by rw [Nat.zero_add, hzs, hn]; exact Nat.le_refl _)
    have h4 : (ps.map fun (i, x) => (i, a.eval x)).toList = ps.toList.map fun (i, x) => (i, a.eval x) := by simp
    have hrun : (Instr.buildSlice t n (ps.map fun (i, x) => (i, a.eval x))).run P w = .ok (.slice (some ⟨w.heap.size, 0, none⟩) n n) { w with heap := w.heap.push (.cells us el) } := by
      have hbig' : ¬ (n * e > 2 ^ 24) := by omega
      simp only [Instr.buildSlice, Sem.run_bind, run_underlying hds, Result.andThen_ok, run_sizeOf hsz, if_neg hbig']
      by_cases h0 : n * e = 0
      · have hn0 : n = 0 := by rcases Nat.mul_eq_zero.1 h0 with h | h <;> omega
        have hz0 : zs = (Array.range (n * e)).map ((#[] : Array Value)[· % (#[] : Array Value).size]!) := by
          simp only [zs, h0, Array.range_zero']; simp
        simp only [h0, if_true]
        rw [h0] at hz0
        rw [Sem.run_bind, Sem.run_pure, Result.andThen_ok, ← hz0, h4, g1]
        simp [newRow]
      · simp only [if_neg h0, Sem.run_bind, zeroValue, typeInfo, run_program, hi, hu, Result.andThen_ok, Sem.run_pure, h4]
        have : (Array.range (n * e)).map (uz.cells[· % uz.cells.size]!) = zs := rfl
        rw [this, g1]
        simp [newRow]
    have hus2 : us.size = n * e := by rw [g2, hzs]
    have hlen : (qs.map (opd G env)).length = n := by simp [hn]
    have hel' : ∀ i, i < (qs.map (opd G env)).length → ((qs.map (opd G env)).getD i .any).cells.length = e := by
      intro i hi'
      have hi2 : i < qs.length := by simpa using hi'
      have := (hall _ (List.getElem_mem hi2)).2
      simpa [List.getD_eq_getElem?_getD, hi2] using this
    rcases hv with ⟨rfl, rfl⟩ | ⟨xs, hxs, rfl, rfl⟩
    · obtain ⟨pl', h1, h2, h3, h5⟩ := fin_row hH (w' := { w with heap := w.heap.push (.cells us el) }) (e := e) (c := n) (xs := qs.map (opd G env)) rfl ⟨rfl, rfl, rfl⟩ hus2 (unfrozen0 _) (by omega) hel'
        (fun i j hi hj => by have := (g3 i j (by simpa using hi) hj).1; rwa [Nat.zero_add] at this)
        (fun i j hi hj => by have := (g3 i j (by simpa using hi) hj).2; rwa [Nat.zero_add] at this)
      refine .value (u := .slice (some ⟨w.heap.size, 0, none⟩) n n) (by simp only [execOp, ho]; rw [Sem.run_bind, hrun]; rfl) ⟨h2, ?_, h3, h5, by rw [hlen_hpush]; omega⟩
      rw [← hn]
      exact rv_slc (by rw [hlen_hpush]; omega) h1 (by omega) (by simp) (by omega)
    · have hxe := allD_some hxs
      have hxl : xs.length = n := by rw [← hlen, hxe]; simp
      have hf := fin_free hH (w' := { w with heap := w.heap.push (.cells us el) }) (ob := .cells us el) rfl ⟨rfl, rfl, rfl⟩ (v := .d (.vals e xs)) (u := .slice (some ⟨w.heap.size, 0, none⟩) n n) (fun E => by
        rw [← hxl]
        have hcell : ∀ k, k < us.size → World.cell? { w with heap := w.heap.push (.cells us el) } ⟨w.heap.size, k, none⟩ = some (us.getD k undef) := fun k hk => by
          simp [World.cell?, hk]
        refine .d _ _ (.vals e xs w.heap.size 0 xs.length (fun i j => us.getD (i * e + j) undef) (Nat.le_refl _) (not_owned_new hH) (by simp) (fun i hi => ?_) (fun i j hi hj => ?_) (fun i j hi hj => ?_) (fun i j hi hj => ?_))
        · have := hel' i (by omega)
          rw [hxe, getD_map_d xs i hi, cells_d] at this
          simpa using this
        · rw [Nat.zero_add]
          exact hcell _ (by rw [hus2]; exact mul_add_lt (by omega) hj)
        · have := (g3 i j (by omega) hj).2
          rwa [Nat.zero_add] at this
        · have h6 := (g3 i j (by omega) hj).1
          rw [Nat.zero_add, hxe, getD_map_d xs i hi, cells_d] at h6
          have hcl : j < (xs.getD i .nilp).cells.length := by
            have := hel' i (by omega)
            rw [hxe, getD_map_d xs i hi, cells_d] at this
            simp only [List.length_map] at this; omega
          rw [getD_map_d _ j hcl] at h6
          exact (h6.mono E (PlExt.refl _ _) (Nat.le_refl _)).dd)
      exact .value (by simp only [execOp, ho]; rw [Sem.run_bind, hrun]; rfl) hf
  · simp at hc
end
end Go.Ev

/- Each operation of compact code does what the model's operation does: memory that is made, read and written. -/
import Derived.Test.YtpmphmpaeooeeaaDoorE5
namespace Go.Ev
open Go
set_option linter.unusedSimpArgs false
set_option linter.unusedVariables false

/-- What a run of stores does to a block. -/
theorem setCells_spec {b : Nat} : ∀ (vs : List Value) (o : Nat) (w : World) {arr : Array Value} {ty : TypeId} {fr : Nat × Nat}, w.heap[b]? = some (.cells arr ty fr) → o + vs.length ≤ arr.size →
    Same w (w.setCells b o vs) ∧ (w.setCells b o vs).heap.size = w.heap.size ∧ (∀ b', b' ≠ b → (w.setCells b o vs).heap[b']? = w.heap[b']?) ∧
    ∃ arr', (w.setCells b o vs).heap[b]? = some (.cells arr' ty fr) ∧ arr'.size = arr.size ∧ ∀ k, arr'.getD k undef = if o ≤ k ∧ k < o + vs.length then vs.getD (k - o) undef else arr.getD k undef
  | [], o, w, arr, ty, fr, h, _ => ⟨Same.refl w, rfl, fun _ _ => rfl, arr, h, rfl, fun k => by rw [if_neg (by simp)]⟩
  | v :: r, o, w, arr, ty, fr, h, hl => by
    have hb := (Array.getElem?_eq_some_iff.1 h).1
    have h1 : (w.setCell ⟨b, o, none⟩ v).heap[b]? = some (.cells (arr.setIfInBounds o v) ty fr) := by
      simp [World.setCell, Array.getElem?_modify, h]
    obtain ⟨s1, s2, s3, arr', s4, s5, s6⟩ := setCells_spec r (o + 1) (w.setCell ⟨b, o, none⟩ v) h1 (by simp at hl ⊢; omega)
    refine ⟨⟨s1.os, s1.tape, s1.output⟩, by rw [World.setCells, s2]; simp [World.setCell], fun b' hb' => ?_, arr', s4, by simpa using s5, fun k => ?_⟩
    · rw [World.setCells, s3 b' hb']
      simp [World.setCell, Array.getElem?_modify, Ne.symm hb']
    · rw [s6 k]
      simp only [List.length_cons] at hl ⊢
      by_cases h1 : o + 1 ≤ k ∧ k < o + 1 + r.length
      · rw [if_pos h1, if_pos (by omega)]
        obtain ⟨m, rfl⟩ : ∃ m, k = o + 1 + m := ⟨k - (o + 1), by omega⟩
        rw [show o + 1 + m - o = m + 1 by omega, show o + 1 + m - (o + 1) = m by omega]
        rfl
      · rw [if_neg h1]
        by_cases h2 : k = o
        · subst h2
          rw [if_pos (by omega)]
          simp [show k < arr.size by omega]
        · rw [if_neg (by omega)]
          simp only [Array.getD_eq_getD_getElem?]
          rw [Array.getElem?_setIfInBounds_ne (Ne.symm h2)]

section
variable {P : Program} {cl : Callf} {G : Glob} {w : World} {pl : Pl} {Bd : Nat → Prop} {H : Hp} {env : Env} {a : Act}

theorem sto_ok {v : V} (h : v.sto = true) : v.ok = true := by revert h; cases v <;> simp [V.sto, V.ok]

theorem zeroIs_some {t : Nat} {z : V} (h : zeroIs P t z = true) : ∃ i u, P.info? t = some i ∧ i.zero = some u ∧ vcstOk z u = true ∧ i.size = z.cells.length := by
  unfold zeroIs at h
  split at h
  · rename_i i hi
    split at h
    · rename_i u hu
      simp only [Bool.and_eq_true] at h
      exact ⟨i, u, hi, hu, h.1, Nat.eq_of_beq_eq_true h.2⟩
    · simp at h
  · simp at h

theorem hasZero_some {t n : Nat} (h : hasZero P t n = true) : ∃ i u, P.info? t = some i ∧ i.zero = some u ∧ u.cells.size = n ∧ i.size = n := by
  unfold hasZero at h
  split at h
  · rename_i i hi
    split at h
    · rename_i u hu
      simp only [Bool.and_eq_true] at h
      exact ⟨i, u, hi, hu, Nat.eq_of_beq_eq_true h.1, Nat.eq_of_beq_eq_true h.2⟩
    · simp at h
  · simp at h

theorem fin_box (hH : HR w pl Bd H) {v : V} {u : Value} (hv : RV w (owned pl H) pl (hlen H) v u) (hk : v.sto = true) (t : TypeId) :
    ∃ pl', Fin w pl Bd H (.ptr (hlen H) 0 0 0) (hpush H (.row 0 v.cells.length [v])) (.pointer (some ⟨w.heap.size, 0, none⟩)) { w with heap := w.heap.push (.cells u.cells t) } pl' := by
  have hc := hv.cells hk
  obtain ⟨pl', h1, h2, h3, h4⟩ := fin_row hH (w' := { w with heap := w.heap.push (.cells u.cells t) }) (e := v.cells.length) (c := 1) (xs := [v]) rfl ⟨rfl, rfl, rfl⟩ (by rw [hc.size]; simp) (unfrozen0 _) (by simp)
    (fun i hi => by obtain rfl : i = 0 := by simpa using hi
                    rfl)
    (fun i j hi hj => by obtain rfl : i = 0 := by simpa using hi
                         simpa using hc.rel j hj)
    (fun i j hi hj => by obtain rfl : i = 0 := by simpa using hi
                         simpa using hc.one j hj)
  exact ⟨pl', h2, rv_ptr (by rw [hlen_hpush]; omega) h1 (by simp), h3, h4, by rw [hlen_hpush]; omega⟩

theorem sim_alloc (hH : HR w pl Bd H) {o : Oper} {t : TypeId} (ho : o.op = .alloc t) {z : V} (hz : zeroIs P t z = true) (hk : z.sto = true) :
    OpSim P o a w pl Bd H (.ptr (hlen H) 0 0 0) (hpush H (.row 0 z.cells.length [z])) := by
  obtain ⟨i, u, hi, hu, hc, _⟩ := zeroIs_some hz
  obtain ⟨pl', hf⟩ := fin_box hH (vcstOk_ok hc) hk t
  exact .value (by simp [execOp, ho, Instr.alloc, zeroValue, typeInfo, hi, hu, newVar, newRow]) hf

theorem hget_row {r g : Nat} {e : Nat} {xs : List V} (h : rowOf H r g = some (e, xs)) : hget H r = some (.row g e xs) := by
  unfold rowOf at h
  split at h
  · rename_i g' e' xs' hg
    cases hb : Nat.beq g' g
    · simp [hb] at h
    · have := Nat.eq_of_beq_eq_true hb
      subst this
      simp [hb] at h
      rw [hg, h.1, h.2]
  · simp at h

/-- A row as it lies. -/
theorem row_lies (hH : HR w pl Bd H) {r g e : Nat} {xs : List V} (h : rowOf H r g = some (e, xs)) :
    ∃ b c arr ty fr, pl r g = some (b, e, c) ∧ w.heap[b]? = some (.cells arr ty fr) ∧ arr.size = c * e ∧ Unfrozen fr arr.size ∧ xs.length ≤ c ∧ (∀ i, i < xs.length → (xs.getD i .any).cells.length = e) ∧
      (∀ i j, i < xs.length → j < e → RV w (owned pl H) pl (hlen H) ((xs.getD i .any).cells.getD j .any) (arr.getD (i * e + j) undef)) ∧
      (∀ i j, i < xs.length → j < e → (arr.getD (i * e + j) undef).oneCell' = true) ∧
      (∀ m, Bd m → r < m → ∀ i j, i < xs.length → j < e → RV w (owned pl H) pl m ((xs.getD i .any).cells.getD j .any) (arr.getD (i * e + j) undef)) := by
  have hg := hget_row h
  have hor := hH.obj r _ hg
  cases hor with
  | row _ _ _ b c arr ty fr hp hh hs hf hx he hr h1 hgg =>
    refine ⟨b, c, arr, ty, fr, hp, hh, hs, hf, hx, he, hr, h1, fun m hm hlt => ?_⟩
    have hor2 := hH.bd m hm r _ hlt hg
    cases hor2 with
    | row _ _ _ b' c' arr' ty' fr' hp' hh' hs' hf' hx' he' hr' h1' hgg' =>
      rw [hp] at hp'
      simp only [Option.some.injEq, Prod.mk.injEq] at hp'
      obtain ⟨rfl, _, rfl⟩ := hp'
      rw [hh] at hh'
      simp only [Option.some.injEq, Go.Obj.cells.injEq] at hh'
      obtain ⟨rfl, rfl, rfl⟩ := hh'
      exact hr'

theorem cell_of_block {b k : Nat} {arr : Array Value} {ty : TypeId} {fr : Nat × Nat} (hh : w.heap[b]? = some (.cells arr ty fr)) (hk : k < arr.size) : w.cell? ⟨b, k, none⟩ = some (arr.getD k undef) := by
  simp [World.cell?, hh, Array.getElem?_eq_getElem hk, hk]

theorem mul_add_lt {i j e c : Nat} (hi : i < c) (hj : j < e) : i * e + j < c * e := by
  have : (i + 1) * e ≤ c * e := Nat.mul_le_mul_right _ hi
  rw [Nat.add_mul] at this
  omega

/-- A load through a reference. -/
theorem load_ptr (hH : HR w pl Bd H) {r g i j n : Nat} {cs : List V} (h : hload H r g i j n = some cs) {u : Value} (hu : RV w (owned pl H) pl (hlen H) (.ptr r g i j) u) :
    ∃ b off us, u = .pointer (some ⟨b, off, none⟩) ∧ RCs w (owned pl H) pl (hlen H) cs us ∧ us.size = n ∧ ∀ k, k < n → w.cell? ⟨b, off + k, none⟩ = some (us.getD k undef) := by
  unfold hload at h
  split at h
  · rename_i e xs hrow
    split at h
    · rename_i x hx
      split at h
      · rename_i hle
        simp only [Option.some.injEq] at h
        subst h
        obtain ⟨b, c, arr, ty, fr, hp, hh, hs, hf, hxc, he, hr, h1, _⟩ := row_lies hH hrow
        have hil : i < xs.length := (List.getElem?_eq_some_iff.1 hx).1
        have hxd : xs.getD i .any = x := by simp [List.getD_eq_getElem?_getD, hx]
        have hxe : x.cells.length = e := by rw [← hxd]; exact he i hil
        cases hu with
        | ptr _ _ _ _ b' e' c' hlt hp' =>
          rw [hp] at hp'
          simp only [Option.some.injEq, Prod.mk.injEq] at hp'
          obtain ⟨rfl, rfl, rfl⟩ := hp'
          refine ⟨b, i * e + j, ((List.range n).map fun k => arr.getD (i * e + j + k) undef).toArray, rfl, ⟨by simp; omega, fun k hk => ?_, fun k hk => ?_⟩, by simp, fun k hk => ?_⟩
          · have hk' : k < n := by simp at hk; omega
            have := hr i (j + k) hil (by omega)
            rw [hxd, ← Nat.add_assoc] at this
            rw [getD_drop_take x.cells .any j n k hk']
            simpa [Array.getD_eq_getD_getElem?, hk'] using this
          · have hk' : k < n := by simp at hk; omega
            have := h1 i (j + k) hil (by omega)
            rw [← Nat.add_assoc] at this
            simpa [Array.getD_eq_getD_getElem?, hk'] using this
          · have hlt2 : i * e + (j + k) < c * e := mul_add_lt (by omega) (by omega)
            rw [cell_of_block hh (by omega)]
            simp [Array.getD_eq_getD_getElem?, hk]
      · simp at h
    · simp at h
  · simp at h

theorem run_loadVar {t n : Nat} {ag : Bool} (hag : aggIs P t ag = true) (hsz : szIs P t n = true) {b off : Nat} {us : Array Value} (hn : us.size = n) (h : ∀ k, k < n → w.cell? ⟨b, off + k, none⟩ = some (us.getD k undef))
    {cs : List V} {O : Own} {m : Nat} (hc : RCs w O pl m cs us) {v : V} (hv : mkVal ag cs = some v) : ∃ u, (loadVar t ⟨b, off, none⟩).run P w = .ok u w ∧ RV w O pl m v u := by
  cases ag
  · have hv' : ∃ v', cs = [v'] ∧ v' = v := by
      match cs, hv with
      | [v'], hv => exact ⟨v', rfl, by simpa [mkVal] using hv⟩
      | [], hv => simp [mkVal] at hv
      | _ :: _ :: _, hv => simp [mkVal] at hv
    obtain ⟨v', rfl, rfl⟩ := hv'
    · have hn1 : n = 1 := by rw [← hn, hc.size]; rfl
      subst hn1
      refine ⟨us.getD 0 undef, ?_, by simpa using hc.rel 0 (by simp)⟩
      have h0 := h 0 (by omega)
      rw [Nat.add_zero] at h0
      simp [loadVar, run_isAgg hag, h0]
  · simp [mkVal] at hv
    subst hv
    refine ⟨.agg us, ?_, hc.mkAgg⟩
    have hl := run_loadCells (P := P) w ⟨b, off, none⟩ n (fun k => us.getD k undef) (fun k hk => by rw [Addr.add_lit]; exact h k hk)
    have : ((List.range n).map fun k => us.getD k undef).toArray = us := by
      apply Array.ext
      · simp [hn]
      · intro i h1 h2; simp [Array.getD_eq_getD_getElem?, h2]
    rw [this] at hl
    simp [loadVar, run_isAgg hag, run_sizeOf hsz, hl]

theorem sim_load (hG : GR G w (owned pl H)) (hH : HR w pl Bd H) (hE : RE w (owned pl H) pl (hlen H) env a) {o : Oper} {t : TypeId} {A : Operand} (ho : o.op = .load t A) {x : AOpd} (hx : opdOk x A = true) {ag : Bool} {n : Nat}
    (hag : aggIs P t ag = true) (hsz : szIs P t n = true) {r g i j : Nat} (hp : opd G env x = .ptr r g i j) {cs : List V} (hl : hload H r g i j n = some cs) {v : V} (hv : mkVal ag cs = some v) : OpSim P o a w pl Bd H v H := by
  have hu := opd_ok hx hG hE (by rw [hp]; rfl)
  rw [hp] at hu
  obtain ⟨b, off, us, hue, hc, hn, hk⟩ := load_ptr hH hl hu
  obtain ⟨u, hrun, hrv⟩ := run_loadVar hag hsz hn hk hc hv
  exact .pure hH (u := u) (by simp [execOp, ho, Instr.loadAt, hue, Instr.sureAddr, hrun]) hrv

theorem sim_loadR (hG : GR G w (owned pl H)) (hH : HR w pl Bd H) (hE : RE w (owned pl H) pl (hlen H) env a) {o : Oper} {t : TypeId} {A : Operand} (ho : o.op = .load t A) {x : AOpd} (hx : opdOk x A = true) {ag : Bool} {n : Nat}
    (hag : aggIs P t ag = true) (hsz : szIs P t n = true) {cs : List D} (hp : opd G env x = .d (.rptr cs)) (hl : n ≤ cs.length) {v : V} (hv : mkVal ag ((cs.take n).map .d) = some v) : OpSim P o a w pl Bd H v H := by
  have hu := opd_ok hx hG hE (by rw [hp]; rfl)
  rw [hp] at hu
  cases hu with
  | d _ _ hu =>
    generalize hue : a.eval A = u at hu
    cases hu with
    | rptr _ b off F hO hb hc h1 hr =>
      have hcs : RCs w (owned pl H) pl (hlen H) ((cs.take n).map .d) ((List.range n).map F).toArray := by
        refine ⟨by simp; omega, fun k hk => ?_, fun k hk => ?_⟩ <;> have hk' : k < n := by (simp at hk; omega)
        · have := RV.d (pl := pl) (n := hlen H) _ _ (hr k (by omega))
          have hkc : k < cs.length := by omega
          simpa [List.getD_eq_getElem?_getD, Array.getD_eq_getD_getElem?, hk', List.getElem?_take_of_lt hk', hkc] using this
        · simpa [Array.getD_eq_getD_getElem?, hk'] using h1 k (by omega)
      obtain ⟨u, hrun, hrv⟩ := run_loadVar hag hsz (b := b) (off := off) (us := ((List.range n).map F).toArray) (by simp) (fun k hk => by rw [hc k (by omega)]; simp [Array.getD_eq_getD_getElem?, hk]) hcs hv
      exact .pure hH (u := u) (by simp [execOp, ho, Instr.loadAt, hue, Instr.sureAddr, hrun]) hrv
end
end Go.Ev

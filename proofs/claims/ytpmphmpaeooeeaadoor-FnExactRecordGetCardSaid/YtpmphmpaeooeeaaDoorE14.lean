/- Each operation of compact code does what the model's operation does: made slices, the least and the greatest, append. -/
import Derived.Test.YtpmphmpaeooeeaaDoorE13
namespace Go.Ev
open Go
set_option linter.unusedSimpArgs false
set_option linter.unusedVariables false

section
variable {P : Program} {cl : Callf} {G : Glob} {w : World} {pl : Pl} {Bd : Nat → Prop} {H : Hp} {env : Env} {a : Act}

theorem getD_replicate (n i : Nat) (z : V) (hi : i < n) : (List.replicate n z).getD i .any = z := by
  simp [List.getD_eq_getElem?_getD, hi]

theorem sim_mkslice (hG : GR G w (owned pl H)) (hH : HR w pl Bd H) (hE : RE w (owned pl H) pl (hlen H) env a) {o : Oper} {t : Nat} {L C : Operand} (ho : o.op = .makeSlice t L C) {e b : Nat} {z : V} {l c : AOpd} (hl : opdOk l L = true) (hc : opdOk c C = true)
    (hck : (match sliceOf P t with | some el => szIs P el e && zeroIs P el z && (match P.info? el with | some i => Nat.beq i.bytes b | none => false) && decide (0 < e) && decide (0 < b) | none => false) = true)
    {n : Int} (hle : opd G env l = .d (.int .i64 n)) (hce : opd G env c = .d (.int .i64 n)) (h0 : 0 ≤ n) (hroom : n * b ≤ (room : Int)) (hze : z.cells.length = e) (hzs : z.sto = true) :
    OpSim P o a w pl Bd H (.slc (hlen H) 0 0 n.toNat) (hpush H (.row 0 e (List.replicate n.toNat z))) := by
  have hlv := opd_ok hl hG hE (by rw [hle]; rfl)
  have hcv := opd_ok hc hG hE (by rw [hce]; rfl)
  rw [hle] at hlv
  rw [hce] at hcv
  have hli := hlv.dd.int_eq
  have hci := hcv.dd.int_eq
  split at hck
  · rename_i el hel
    simp only [Bool.and_eq_true, decide_eq_true_eq] at hck
    obtain ⟨⟨⟨⟨k1, k2⟩, k3⟩, k4⟩, k5⟩ := hck
    have hds := sliceOf_some hel
    obtain ⟨iz, uz, hi, hu, hcst, his⟩ := zeroIs_some k2
    rw [hi] at k3
    have k3 := Nat.eq_of_beq_eq_true k3
    have hzr := (vcstOk_ok (w := w) (O := owned pl H) (pl := pl) (n := hlen H) hcst).cells hzs
    have huz := hzr.size
    have hbn : (iz.bytes : Int) * n ≤ 281474976710656 := by rw [k3, Int.mul_comm]; simp only [room] at hroom; omega
    have hn63 : n ≤ 9223372036854775807 := by
      have h1 : n * 1 ≤ n * (b : Int) := Int.mul_le_mul_of_nonneg_left (by omega) h0
      simp only [room] at hroom
      omega
    have hrun := run_make (P := P) w t el iz uz hds hi hu .i64 .i64 n n h0 (Int.le_refl _) hbn hn63
    have hsz : (madeCells uz.cells (n.toNat * iz.size)).size = n.toNat * e := by rw [size_madeCells, his, hze]
    have hget : ∀ i j, i < n.toNat → j < e → (madeCells uz.cells (n.toNat * iz.size)).getD (i * e + j) undef = uz.cells.getD j undef := by
      intro i j hi' hj
      have hlt : i * e + j < n.toNat * iz.size := by rw [his, hze]; exact mul_add_lt hi' hj
      have hju : j < uz.cells.size := by omega
      simp only [madeCells, Array.getD_eq_getD_getElem?, Array.getElem?_map, Array.getElem?_range, hlt, if_true, Option.map_some, Option.getD_some]
      rw [show uz.cells.size = e by omega, (div_mul_add hj).2]
      simp [hju]
    obtain ⟨pl', h1, h2, h3, h4⟩ := fin_row hH (w' := w.alloc (.cells (madeCells uz.cells (n.toNat * iz.size)) el)) (e := e) (c := n.toNat) (xs := List.replicate n.toNat z) rfl ⟨rfl, rfl, rfl⟩ hsz (unfrozen0 _) (by simp)
      (fun i hi' => by rw [getD_replicate _ _ _ (by simpa using hi')]; exact hze)
      (fun i j hi' hj => by
        have hi2 : i < n.toNat := by simpa using hi'
        rw [getD_replicate _ _ _ hi2, hget i j hi2 hj]
        exact hzr.rel j (by omega))
      (fun i j hi' hj => by
        have hi2 : i < n.toNat := by simpa using hi'
        rw [hget i j hi2 hj]
        exact hzr.one j (by omega))
    exact .value (by simp only [execOp, ho, hli, hci]; rw [Sem.run_bind, hrun]; rfl) ⟨h2, rv_slc (by rw [hlen_hpush]; omega) h1 (by omega) (by simp) (by omega), h3, h4, by rw [hlen_hpush]; omega⟩
  · simp at hck

theorem mnmx2_int {mx : Bool} {x y z : V} (h : mnmx2 mx x y = some z) : ∃ k p q, x = .d (.int k p) ∧ y = .d (.int k q) ∧ z = .d (.int k (bif mx then (if q > p then q else p) else (if q < p then q else p))) := by
  unfold mnmx2 at h
  split at h
  · split at h
    · rename_i hk
      subst hk
      simp at h
      exact ⟨_, _, _, rfl, rfl, by simpa using h.symm⟩
    · simp at h
  · simp at h

theorem run_mnmxL {mx : Bool} {O : Own} {m : Nat} : ∀ (ys : List V) (x z : V) (u : Value) (us : List Value), mnmxL mx x ys = some z → RV w O pl m x u → us.length = ys.length → (∀ i, i < ys.length → RV w O pl m (ys.getD i .any) (us.getD i undef)) →
    ∃ r, (us.foldlM (bif mx then Builtin.max2 else Builtin.min2) u).run P w = .ok r w ∧ RV w O pl m z r
  | [], x, z, u, us, h, hx, hl, _ => by
    simp [mnmxL] at h; subst h
    have : us = [] := List.eq_nil_of_length_eq_zero (by simpa using hl)
    subst this
    exact ⟨u, rfl, hx⟩
  | y :: ys, x, z, u, us, h, hx, hl, hy => by
    match us, hl with
    | v :: us, hl =>
      simp only [mnmxL] at h
      split at h
      · rename_i z1 hz1
        obtain ⟨k, p, q, rfl, rfl, rfl⟩ := mnmx2_int hz1
        have hyv := hy 0 (by simp)
        simp only [List.getD_cons_zero] at hyv
        have e1 := hx.dd.int_eq
        have e2 := hyv.dd.int_eq
        subst e1 e2
        obtain ⟨r, hr1, hr2⟩ := run_mnmxL ys _ z (.int k (bif mx then (if q > p then q else p) else (if q < p then q else p))) us h (.d _ _ (.int _ _)) (by simpa using hl) (fun i hi => by have := hy (i + 1) (by simpa using hi); simpa using this)
        refine ⟨r, ?_, hr2⟩
        rw [List.foldlM_cons, Sem.run_bind]
        cases mx
        · have : (Builtin.min2 (.int k p) (.int k q)).run P w = .ok (.int k (if q < p then q else p)) w := rfl
          simp only [cond_false, this, Result.andThen_ok] at hr1 ⊢
          exact hr1
        · have : (Builtin.max2 (.int k p) (.int k q)).run P w = .ok (.int k (if q > p then q else p)) w := rfl
          simp only [cond_true, this, Result.andThen_ok] at hr1 ⊢
          exact hr1
      · simp at h

theorem opds_ok {O : Own} {m : Nat} (hG : GR G w O) (hE : RE w O pl m env a) : ∀ (xs : List AOpd) (ys : List Operand), opdsOk xs ys = true → ys.length = xs.length ∧ ∀ i, i < xs.length → ((xs.map (opd G env)).getD i .any).ok = true → RV w O pl m ((xs.map (opd G env)).getD i .any) ((ys.map a.eval).getD i undef)
  | [], [], _ => ⟨rfl, fun i hi => by simp at hi⟩
  | [], _ :: _, h => by simp [opdsOk] at h
  | _ :: _, [], h => by simp [opdsOk] at h
  | x :: xs, y :: ys, h => by
    simp only [opdsOk, Bool.and_eq_true] at h
    obtain ⟨h1, h2⟩ := opds_ok hG hE xs ys h.2
    refine ⟨by simp [h1], fun i hi hk => ?_⟩
    cases i with
    | zero => exact opd_ok h.1 hG hE hk
    | succ i => exact h2 i (by simpa using hi) hk

theorem mnmxL_ok {mx : Bool} : ∀ (ys : List V) (x z : V), mnmxL mx x ys = some z → (ys ≠ [] → x.ok = true) ∧ ∀ i, i < ys.length → (ys.getD i .any).ok = true
  | [], _, _, _ => ⟨fun h => absurd rfl h, fun i hi => by simp at hi⟩
  | y :: ys, x, z, h => by
    simp only [mnmxL] at h
    split at h
    · rename_i z1 hz1
      obtain ⟨k, p, q, rfl, rfl, rfl⟩ := mnmx2_int hz1
      refine ⟨fun _ => rfl, fun i hi => ?_⟩
      cases i with
      | zero => rfl
      | succ i => exact (mnmxL_ok ys _ z h).2 i (by simpa using hi)
    · simp at h

theorem sim_mnmx (hG : GR G w (owned pl H)) (hH : HR w pl Bd H) (hE : RE w (owned pl H) pl (hlen H) env a) {o : Oper} {as : Array Operand} {ts : Array TypeId} {mx : Bool} (ho : o.op = .call { callee := .builtin (bif mx then .max else .min), args := as, argTypes := ts }) {x : AOpd} {xs : List AOpd} (hc : opdsOk (x :: xs) as.toList = true)
    {z : V} (hz : mnmxL mx (opd G env x) (xs.map (opd G env)) = some z) (hne : (opd G env x).ok = true) : OpSim P o a w pl Bd H z H := by
  obtain ⟨h1, h2⟩ := opds_ok hG hE (x :: xs) as.toList hc
  obtain ⟨_, k2⟩ := mnmxL_ok _ _ _ hz
  cases has : as.toList with
  | nil => rw [has] at h1; simp at h1
  | cons y ys =>
    rw [has] at h1 h2
    have hx := h2 0 (by simp) hne
    simp only [List.map_cons, List.getD_cons_zero] at hx
    obtain ⟨r, hr1, hr2⟩ := run_mnmxL (P := P) (xs.map (opd G env)) _ z _ (ys.map a.eval) hz hx (by simpa using h1) (fun i hi => by
      have := h2 (i + 1) (by simpa using hi) (by simpa using k2 i hi)
      simpa using this)
    have hmap : (as.map a.eval).toList = a.eval y :: ys.map a.eval := by rw [Array.toList_map, has]; rfl
    refine .pure hH (u := r) ?_ hr2
    simp only [execOp, ho, resolve]
    cases mx
    · simp only [cond_false, Sem.run_bind, Sem.run_pure, Result.andThen_ok, invoke, builtin, Builtin.min_, hmap] at hr1 ⊢
      rw [hr1]; rfl
    · simp only [cond_true, Sem.run_bind, Sem.run_pure, Result.andThen_ok, invoke, builtin, Builtin.max_, hmap] at hr1 ⊢
      rw [hr1]; rfl
end
end Go.Ev

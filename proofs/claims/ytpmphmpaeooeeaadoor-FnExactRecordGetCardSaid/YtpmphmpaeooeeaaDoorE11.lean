/- Each operation of compact code does what the model's operation does: fields, elements' addresses, literals, structs, made slices. -/
import Derived.Test.YtpmphmpaeooeeaaDoorE10
import Derived.Laws.MakeOwn
namespace Go.Ev
open Go
set_option linter.unusedSimpArgs false
set_option linter.unusedVariables false

section
variable {P : Program} {cl : Callf} {G : Glob} {w : World} {pl : Pl} {Bd : Nat → Prop} {H : Hp} {env : Env} {a : Act}

theorem fieldsOf_some {t : Nat} {fs : Array Field} (h : fieldsOf P t = some fs) : P.underlying t = some (.struct fs) := by
  unfold fieldsOf at h
  split at h
  · rename_i fs' h'; simp at h; subst h; exact h'
  · simp at h

/-- The check of a field's address. -/
def faddrOk (P : Program) (s f off : Nat) : Bool := match fieldsOf P s with | some fs => (match fs[f]? with | some fd => Nat.beq fd.offset off && (match P.info? fd.type with | some i => Nat.ble 1 i.size | none => false) | none => false) | none => false

theorem run_fieldAt {s f off : Nat} (h : faddrOk P s f off = true) {b o : Nat} : (Instr.fieldAt s (.pointer (some ⟨b, o, none⟩)) f).run P w = .ok (.pointer (some ⟨b, o + off, none⟩)) w := by
  unfold faddrOk at h
  split at h
  · rename_i fs hfs
    split at h
    · rename_i fd hfd
      simp only [Bool.and_eq_true] at h
      obtain ⟨h1, h2⟩ := h
      have h1 := Nat.eq_of_beq_eq_true h1
      split at h2
      · rename_i i hi
        have h2 := Nat.le_of_ble_eq_true h2
        have hne : ¬ (i.size = 0) := by omega
        simp [Instr.fieldAt, run_underlying (fieldsOf_some hfs), hfd, Instr.sureAddr, fieldPlace, sizeOf, typeInfo, hi, hne, Addr.add_lit, h1]
      · simp at h2
    · simp at h
  · simp at h

theorem sim_faddr (hG : GR G w (owned pl H)) (hH : HR w pl Bd H) (hE : RE w (owned pl H) pl (hlen H) env a) {o : Oper} {s f : Nat} {X : Operand} (ho : o.op = .fieldAddr s X f) {x : AOpd} (hx : opdOk x X = true) {off : Nat} (hc : faddrOk P s f off = true)
    {r g i j : Nat} (hp : opd G env x = .ptr r g i j) : OpSim P o a w pl Bd H (.ptr r g i (j + off)) H := by
  have hu := opd_ok hx hG hE (by rw [hp]; rfl)
  rw [hp] at hu
  generalize hue : a.eval X = u at hu
  cases hu with
  | ptr _ _ _ _ b e c hlt hpl =>
    exact .pure hH (u := .pointer (some ⟨b, i * e + j + off, none⟩)) (by simp [execOp, ho, hue, run_fieldAt hc]) (rv_ptr hlt hpl (by omega))

theorem sim_faddrR (hG : GR G w (owned pl H)) (hH : HR w pl Bd H) (hE : RE w (owned pl H) pl (hlen H) env a) {o : Oper} {s f : Nat} {X : Operand} (ho : o.op = .fieldAddr s X f) {x : AOpd} (hx : opdOk x X = true) {off : Nat} (hc : faddrOk P s f off = true)
    {cs : List D} (hp : opd G env x = .d (.rptr cs)) : OpSim P o a w pl Bd H (.d (.rptr (cs.drop off))) H := by
  have hu := opd_ok hx hG hE (by rw [hp]; rfl)
  rw [hp] at hu
  have hu := hu.dd
  generalize hue : a.eval X = u at hu
  cases hu with
  | rptr _ b o2 F hO hb hcell h1 hr =>
    refine .pure hH (u := .pointer (some ⟨b, o2 + off, none⟩)) (by simp [execOp, ho, hue, run_fieldAt hc]) (.d _ _ (.rptr _ b (o2 + off) (fun j => F (off + j)) hO hb (fun j hj => ?_) (fun j hj => h1 _ (by simp at hj; omega)) (fun j hj => ?_)))
    · have := hcell (off + j) (by simp at hj; omega)
      rwa [← Nat.add_assoc] at this
    · have := hr (off + j) (by simp at hj; omega)
      simpa [List.getD_eq_getElem?_getD] using this

theorem run_part {t n off : Nat} {ag : Bool} (hag : aggIs P t ag = true) (hsz : szIs P t n = true) {cs : List V} {us : Array Value} {O : Own} {m : Nat} (hc : RCs w O pl m cs us) (hl : off + n ≤ cs.length) {v : V} (hv : mkVal ag ((cs.drop off).take n) = some v) :
    ∃ u, (part t us off).run P w = .ok u w ∧ RV w O pl m v u := by
  have hs := hc.size
  cases ag
  · have hv' : ∃ v', (cs.drop off).take n = [v'] ∧ v' = v := by
      match hcs : (cs.drop off).take n, hv with
      | [v'], hv => exact ⟨v', rfl, by simpa [mkVal] using hv⟩
      | [], hv => simp [mkVal] at hv
      | _ :: _ :: _, hv => simp [mkVal] at hv
    obtain ⟨v', hcs, rfl⟩ := hv'
    have hn1 : n = 1 := by have := congrArg List.length hcs; simp at this; omega
    subst hn1
    have h0 : off < us.size := by omega
    refine ⟨us[off], by simp [part, run_isAgg hag, h0], ?_⟩
    have := (hc.part hl).rel 0 (by simp; omega)
    rw [hcs] at this
    have h3 : (us.extract off (off + 1)).getD 0 undef = us[off] := by rw [getD_extract (by omega) (by omega)]; simp [h0]
    rw [h3] at this
    exact this
  · simp [mkVal] at hv
    subst hv
    refine ⟨.agg (us.extract off (off + n)), by simp [part, run_isAgg hag, run_sizeOf hsz], (hc.part hl).mkAgg⟩

theorem agg_of {O : Own} {m : Nat} {v : V} {u : Value} (h : RV w O pl m v u) (ha : v.isAgg = true) : ∃ us, u = .agg us ∧ RCs w O pl m v.cells us := by
  have hs : v.sto = true := by revert ha; cases v <;> simp [V.isAgg, V.sto]
  have hc := h.cells hs
  cases h with
  | d x u h =>
    cases x <;> first | (simp [V.isAgg] at ha; done) | skip
    cases h with
    | agg _ us => exact ⟨us, rfl, hc⟩
  | agg cs us => exact ⟨us, rfl, hc⟩
  | _ => simp [V.isAgg] at ha

theorem sim_field (hG : GR G w (owned pl H)) (hH : HR w pl Bd H) (hE : RE w (owned pl H) pl (hlen H) env a) {o : Oper} {t f : Nat} {X : Operand} (ho : o.op = .field t X f) {x : AOpd} (hx : opdOk x X = true) {ag : Bool} {off n : Nat}
    (hc : (match fieldsOf P t with | some fs => (match fs[f]? with | some fd => Nat.beq fd.offset off && szIs P fd.type n && aggIs P fd.type ag | none => false) | none => false) = true)
    (hl : off + n ≤ (opd G env x).cells.length) (ha : (opd G env x).isAgg = true) {v : V} (hv : mkVal ag (((opd G env x).cells.drop off).take n) = some v) : OpSim P o a w pl Bd H v H := by
  have hu := opd_ok hx hG hE (by revert ha; cases opd G env x <;> simp [V.isAgg, V.ok])
  obtain ⟨us, hue, hcs⟩ := agg_of hu ha
  split at hc
  · rename_i fs hfs
    split at hc
    · rename_i fd hfd
      simp only [Bool.and_eq_true] at hc
      obtain ⟨⟨h1, h2⟩, h3⟩ := hc
      have h1 := Nat.eq_of_beq_eq_true h1
      obtain ⟨u, hrun, hrv⟩ := run_part (P := P) h3 h2 hcs hl hv
      exact .pure hH (u := u) (by simp [execOp, ho, Instr.field, run_underlying (fieldsOf_some hfs), hfd, hue, asAgg, h1, hrun]) hrv
    · simp at hc
  · simp at hc

theorem run_indexAt {t e : Nat} (hd : elemIs P t e = true) {b off len cap : Nat} {k : IntKind} {i : Int} (h0 : 0 ≤ i) (h1 : i < (len : Int)) :
    (Instr.indexAt t (.slice (some ⟨b, off, none⟩) len cap) (.int k i)).run P w = .ok (.pointer (some ⟨b, off + i.toNat * e, none⟩)) w := by
  unfold elemIs at hd
  split at hd
  · rename_i el hel
    have hds := sliceOf_some hel
    simp [Instr.indexAt, asIntOf, run_underlying hds, h0, h1, run_sizeOf hd, Addr.add_lit]
  · simp at hd

theorem sim_iaddrD (hG : GR G w (owned pl H)) (hH : HR w pl Bd H) (hE : RE w (owned pl H) pl (hlen H) env a) {o : Oper} {t : Nat} {X I : Operand} (ho : o.op = .indexAddr t X I) {x i : AOpd} (hx : opdOk x X = true) (hi : opdOk i I = true) {e : Nat} (hd : elemIs P t e = true)
    {k : Int} (hk : asI (opd G env i) = some k) {xs : List D} (hp : opd G env x = .d (.vals e xs)) (h0 : 0 ≤ k) (h1 : k < (xs.length : Int)) : OpSim P o a w pl Bd H (.d (.rptr (xs.getD k.toNat .nilp).cells)) H := by
  obtain ⟨kk, hke⟩ := asI_some hk
  have hu := opd_ok hx hG hE (by rw [hp]; rfl)
  have hv := opd_ok hi hG hE (by rw [hke]; rfl)
  rw [hp] at hu
  rw [hke] at hv
  have hie := hv.dd.int_eq
  have hu := hu.dd
  generalize hue : a.eval X = u at hu
  cases hu with
  | vals0 => simp at h1; omega
  | vals _ _ b off cap F hcap hO hb he hc h1c hr =>
    have hkl : k.toNat < xs.length := by omega
    have hlen := he k.toNat hkl
    refine .pure hH (u := .pointer (some ⟨b, off + k.toNat * e, none⟩)) (by simp [execOp, ho, hue, hie, run_indexAt hd h0 h1]) (.d _ _ (.rptr _ b _ (fun j => F k.toNat j) hO hb (fun j hj => ?_) (fun j hj => ?_) (fun j hj => ?_)))
    · exact hc _ _ hkl (by omega)
    · exact h1c _ _ hkl (by omega)
    · exact hr _ _ hkl (by omega)

theorem sim_iaddrS (hG : GR G w (owned pl H)) (hH : HR w pl Bd H) (hE : RE w (owned pl H) pl (hlen H) env a) {o : Oper} {t : Nat} {X I : Operand} (ho : o.op = .indexAddr t X I) {x i : AOpd} (hx : opdOk x X = true) (hi : opdOk i I = true) {e : Nat} (hd : elemIs P t e = true)
    {k : Int} (hk : asI (opd G env i) = some k) {r g j n : Nat} (hp : opd G env x = .slc r g j n) (h0 : 0 ≤ k) (h1 : k < (n : Int)) {xs : List V} (hrow : rowOf H r g = some (e, xs)) : OpSim P o a w pl Bd H (.ptr r g (j + k.toNat) 0) H := by
  obtain ⟨kk, hke⟩ := asI_some hk
  have hu := opd_ok hx hG hE (by rw [hp]; rfl)
  have hv := opd_ok hi hG hE (by rw [hke]; rfl)
  rw [hp] at hu
  rw [hke] at hv
  have hie := hv.dd.int_eq
  obtain ⟨b, c, arr, ty, fr, hpl, _⟩ := row_lies hH hrow
  generalize hue : a.eval X = u at hu
  cases hu with
  | slc _ _ _ _ b' e' c' hlt hp' hkc =>
    rw [hpl] at hp'
    simp only [Option.some.injEq, Prod.mk.injEq] at hp'
    obtain ⟨rfl, rfl, rfl⟩ := hp'
    exact .pure hH (u := .pointer (some ⟨b, j * e + k.toNat * e, none⟩)) (by simp [execOp, ho, hue, hie, run_indexAt hd h0 h1]) (rv_ptr hlt hpl (by rw [Nat.add_mul]; omega))
  | slc0 => omega

/-! ### Structs that are built -/
theorem setFold (vs : List Value) : ∀ (cs : Array Value) (off k0 : Nat), off + k0 + vs.length ≤ cs.size →
    ((vs.zipIdx k0).foldl (fun (cs : Array Value) (p : Value × Nat) => cs.setIfInBounds (off + p.2) p.1) cs).size = cs.size ∧
    ∀ k, ((vs.zipIdx k0).foldl (fun (cs : Array Value) (p : Value × Nat) => cs.setIfInBounds (off + p.2) p.1) cs).getD k undef = if off + k0 ≤ k ∧ k < off + k0 + vs.length then vs.getD (k - (off + k0)) undef else cs.getD k undef := by
  induction vs with
  | nil => intro cs off k0 _; exact ⟨rfl, fun k => by rw [if_neg (by simp)]; rfl⟩
  | cons v vs ih =>
    intro cs off k0 hl
    simp only [List.length_cons] at hl
    simp only [List.zipIdx_cons, List.foldl_cons]
    obtain ⟨h1, h2⟩ := ih (cs.setIfInBounds (off + k0) v) off (k0 + 1) (by simp; omega)
    refine ⟨by simpa using h1, fun k => ?_⟩
    rw [h2 k]
    simp only [List.length_cons]
    by_cases hk : off + (k0 + 1) ≤ k ∧ k < off + (k0 + 1) + vs.length
    · rw [if_pos hk, if_pos (by omega)]
      obtain ⟨m, rfl⟩ : ∃ m, k = off + k0 + 1 + m := ⟨k - (off + k0 + 1), by omega⟩
      rw [show off + k0 + 1 + m - (off + (k0 + 1)) = m by omega, show off + k0 + 1 + m - (off + k0) = m + 1 by omega]
      rfl
    · rw [if_neg hk]
      by_cases h0 : k = off + k0
      · subst h0
        rw [if_pos (by omega)]
        simp [show off + k0 < cs.size by omega]
      · rw [if_neg (by omega)]
        simp only [Array.getD_eq_getD_getElem?]
        rw [Array.getElem?_setIfInBounds_ne (Ne.symm h0)]

theorem fold_eq (vs : Array Value) (cs : Array Value) (off : Nat) : vs.zipIdx.foldl (fun cs (c, j) => cs.setIfInBounds (off + j) c) cs = (vs.toList.zipIdx 0).foldl (fun (cs : Array Value) (p : Value × Nat) => cs.setIfInBounds (off + p.2) p.1) cs := by
  rw [← Array.foldl_toList, Array.toList_zipIdx]

theorem RCs.setAt {O : Own} {m : Nat} {cs vs : List V} {us uv : Array Value} (hc : RCs w O pl m cs us) (hv : RCs w O pl m vs uv) {off : Nat} (hl : off + vs.length ≤ cs.length) :
    RCs w O pl m (setAt cs off vs) (uv.zipIdx.foldl (fun cs (c, j) => cs.setIfInBounds (off + j) c) us) := by
  have h1 := hc.size
  have h2 := hv.size
  rw [fold_eq]
  obtain ⟨h3, h4⟩ := setFold uv.toList us off 0 (by simp; omega)
  have hsp := getD_splice cs vs off
  refine ⟨by rw [h3, Ev.setAt]; simp; omega, fun i hi => ?_, fun i hi => ?_⟩ <;> rw [h4 i] <;> simp only [Nat.add_zero, Array.length_toList, h2] <;>
    have hi' : i < cs.length := by (simp [Ev.setAt] at hi; omega)
  · rw [Ev.setAt, hsp i hl]
    split
    · rename_i hk
      have := hv.rel (i - off) (by omega)
      simpa [List.getD_eq_getElem?_getD, Array.getD_eq_getD_getElem?] using this
    · exact hc.rel i hi'
  · split
    · rename_i hk
      have := hv.one (i - off) (by omega)
      simpa [List.getD_eq_getElem?_getD, Array.getD_eq_getD_getElem?] using this
    · exact hc.one i hi'

theorem fills_ok {O : Own} {m : Nat} (hG : GR G w O) (hE : RE w O pl m env a) (hO : O = owned pl H) {fs : Array Field} {sz : Nat → Nat} : ∀ (qs : List (Nat × Nat × AOpd)) (ps : List (Nat × Operand)) (cs : List V) (us : Array Value) (cs' : List V),
    partsOk P fs qs ps = true → fills G env cs qs = some cs' → RCs w O pl m cs us → (∀ (i : Nat) f, fs[i]? = some f → szIs P f.type (sz i) = true) →
    ∃ us', Instr.fill (fun i => (fs[i]?).map fun f => (f.offset, sz i)) us (ps.map fun (i, x) => (i, a.eval x)) = some us' ∧ RCs w O pl m cs' us'
  | [], [], cs, us, cs', _, hf, hc, _ => by simp [fills] at hf; subst hf; exact ⟨us, rfl, hc⟩
  | [], _ :: _, _, _, _, hp, _, _, _ => by simp [partsOk] at hp
  | _ :: _, [], _, _, _, hp, _, _, _ => by simp [partsOk] at hp
  | (off, n, x) :: qs, (i, y) :: ps, cs, us, cs', hp, hf, hc, hs => by
    simp only [partsOk, Bool.and_eq_true] at hp
    obtain ⟨⟨h1, h2⟩, h3⟩ := hp
    split at h1
    · rename_i f hfi
      simp only [Bool.and_eq_true] at h1
      obtain ⟨e1, e2⟩ := h1
      have e1 := Nat.eq_of_beq_eq_true e1
      have hsi := hs i f hfi
      obtain ⟨i1, hi1, hi2⟩ := szIs_some hsi
      obtain ⟨i3, hi3, hi4⟩ := szIs_some e2
      rw [hi1] at hi3
      simp only [Option.some.injEq] at hi3
      subst hi3
      simp only [fills] at hf
      split at hf
      · rename_i hcond
        obtain ⟨k1, k2, k3⟩ := hcond
        have hv := (opd_ok h2 hG hE (sto_ok k1)).cells k1
        obtain ⟨us', hr1, hr2⟩ := fills_ok hG hE hO qs ps (setAt cs off (opd G env x).cells) _ cs' h3 hf (hc.setAt hv (by omega)) hs
        refine ⟨us', ?_, hr2⟩
        have hvs := hv.size
        have hcs := hc.size
        have hcond2 : ¬ (((a.eval y).cells.size ≠ sz i || off + (a.eval y).cells.size > us.size) = true) := by simp; omega
        simp only [List.map_cons, Instr.fill, hfi, Option.map_some, e1]
        rw [if_neg (by simpa using hcond2)]
        exact hr1
      · simp at hf
    · simp at h1

theorem sim_build (hG : GR G w (owned pl H)) (hH : HR w pl Bd H) (hE : RE w (owned pl H) pl (hlen H) env a) {o : Oper} {t : Nat} {ps : Array (Nat × Operand)} (ho : o.op = .build t ps) {z : List V} {qs : List (Nat × Nat × AOpd)}
    (hc : (match fieldsOf P t with | some fs => partsOk P fs qs ps.toList && fs.all (fun f => (P.info? f.type).isSome) | none => false) = true) (hz : zeroIs P t (.agg z) = true) {cs : List V} (hf : fills G env z qs = some cs) : OpSim P o a w pl Bd H (mkAgg cs) H := by
  split at hc
  · rename_i fs hfs
    simp only [Bool.and_eq_true] at hc
    obtain ⟨hp, hall⟩ := hc
    obtain ⟨iz, u, hi, hu, hcst, _⟩ := zeroIs_some hz
    have hzr := vcstOk_ok (w := w) (O := owned pl H) (pl := pl) (n := hlen H) hcst
    obtain ⟨us, rfl, hzc⟩ := agg_of hzr rfl
    have hall' : ∀ f ∈ fs, (P.info? f.type).isSome = true := Array.all_eq_true_iff_forall_mem.1 hall
    let sz : Nat → Nat := fun i => ((fs[i]?).bind fun f => (P.info? f.type).map (·.size)).getD 0
    have hsz : ∀ (i : Nat) f, fs[i]? = some f → szIs P f.type (sz i) = true := by
      intro i f hfi
      obtain ⟨inf, hinf⟩ := Option.isSome_iff_exists.1 (hall' f (Array.mem_of_getElem? hfi))
      simp [szIs, hinf, sz, hfi]
    obtain ⟨us', hr1, hr2⟩ := fills_ok hG hE rfl qs ps.toList z us cs hp hf hzc hsz
    let sz' : Field → Nat := fun f => ((P.info? f.type).map (·.size)).getD 0
    have hm : (fs.mapM fun f => do pure (f.offset, ← sizeOf f.type) : Sem (Array (Nat × Nat))).run P w = .ok (fs.map fun f => (f.offset, sz' f)) w := by
      rw [Array.mapM_eq_mapM_toList]
      have hl : ∀ (l : List Field), (∀ f ∈ l, (P.info? f.type).isSome = true) → (l.mapM fun f => do pure (f.offset, ← sizeOf f.type) : Sem (List (Nat × Nat))).run P w = .ok (l.map fun f => (f.offset, sz' f)) w := by
        intro l
        induction l with
        | nil => intro _; rfl
        | cons f l ih =>
          intro h
          obtain ⟨inf, hinf⟩ := Option.isSome_iff_exists.1 (h f (by simp))
          have := ih (fun g hg => h g (by simp [hg]))
          simp only [List.mapM_cons, Sem.run_bind, sizeOf, typeInfo, run_program, hinf, Result.andThen_ok, Sem.run_pure] at this ⊢
          rw [this]
          simp [sz', hinf]
      have := hl fs.toList (fun f hf => hall' f (by simpa using hf))
      have h5 : (fs.toList.map fun f => (f.offset, sz' f)).toArray = fs.map fun f => (f.offset, sz' f) := by apply Array.ext'; simp
      rw [← h5, Sem.run_map, this, Result.andThen_ok]
    have hplace : (fun i => (fs.map fun f => (f.offset, sz' f))[i]?) = fun i => (fs[i]?).map fun f => (f.offset, sz i) := by
      funext i
      rw [Array.getElem?_map]
      cases hfi : fs[i]? with
      | none => rfl
      | some f => simp [sz, sz', hfi]
    have hruns : (Instr.build t (ps.map fun (i, x) => (i, a.eval x))).run P w = .ok (.agg us') w := by
      have hcells : (Value.agg us).cells = us := rfl
      simp only [Instr.build, Sem.run_bind, zeroValue, typeInfo, run_program, hi, Result.andThen_ok, Sem.run_pure, hu, run_underlying (fieldsOf_some hfs), hm, hcells]
      have h4 : (ps.map fun (i, x) => (i, a.eval x)).toList = ps.toList.map fun (i, x) => (i, a.eval x) := by simp
      rw [h4, hplace, hr1]
      rfl
    exact .pure hH (u := .agg us') (by simp only [execOp, ho]; rw [Sem.run_bind, hruns]; rfl) hr2.mkAgg
  · simp at hc
end
end Go.Ev

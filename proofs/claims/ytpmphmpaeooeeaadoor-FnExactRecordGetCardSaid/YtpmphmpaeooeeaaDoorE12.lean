/- Each operation of compact code does what the model's operation does: slices' elements, literals, bytes and strings, made slices. -/
import Derived.Test.YtpmphmpaeooeeaaDoorE11
namespace Go.Ev
open Go
set_option linter.unusedSimpArgs false
set_option linter.unusedVariables false

/-- Elements of a slice as they lie. -/
structure Lies (w : World) (O : Own) (pl : Pl) (n e : Nat) (ys : List V) (A : Option Addr) (news : List Value) : Prop where
  len : news.length = ys.length * e
  cell : ys.length = 0 ∨ ∃ b off, A = some ⟨b, off, none⟩ ∧ ∀ j u, news[j]? = some u → w.cell? ⟨b, off + j, none⟩ = some u
  el : ∀ i, i < ys.length → (ys.getD i .any).cells.length = e
  rel : ∀ i j, i < ys.length → j < e → RV w O pl n ((ys.getD i .any).cells.getD j .any) (news.getD (i * e + j) undef)
  one : ∀ i j, i < ys.length → j < e → (news.getD (i * e + j) undef).oneCell' = true

theorem div_mul_add {i j e : Nat} (hj : j < e) : (i * e + j) / e = i ∧ (i * e + j) % e = j := by
  have he : 0 < e := by omega
  rw [Nat.mul_comm]
  constructor
  · rw [Nat.mul_add_div he, Nat.div_eq_of_lt hj, Nat.add_zero]
  · rw [Nat.mul_add_mod, Nat.mod_eq_of_lt hj]

theorem div_lt_of {k n e : Nat} (h : k < n * e) : k / e < n ∧ k % e < e ∧ k / e * e + k % e = k := by
  have he : 0 < e := by
    rcases Nat.eq_zero_or_pos e with h0 | h0
    · subst h0; simp at h
    · exact h0
  refine ⟨(Nat.div_lt_iff_lt_mul he).2 h, Nat.mod_lt _ he, ?_⟩
  rw [Nat.mul_comm]; exact Nat.div_add_mod k e

section
variable {P : Program} {cl : Callf} {G : Glob} {w : World} {pl : Pl} {Bd : Nat → Prop} {H : Hp} {env : Env} {a : Act}

theorem getD_map_d (ds : List D) (i : Nat) (hi : i < ds.length) : (ds.map V.d).getD i .any = .d (ds.getD i .nilp) := by
  simp [List.getD_eq_getElem?_getD, hi]

theorem cells_d (x : D) : (V.d x).cells = x.cells.map .d := by
  cases x <;> rfl

theorem src_lies (hH : HR w pl Bd H) {v : V} {e : Nat} {ys : List V} {dat : Bool} (h : src H v = some (e, ys, dat)) {u : Value} (hu : RV w (owned pl H) pl (hlen H) v u) :
    ∃ A cap news, u = .slice A ys.length cap ∧ ys.length ≤ cap ∧ Lies w (owned pl H) pl (hlen H) e ys A news ∧ (dat = true → ∃ ds : List D, ys = ds.map .d) := by
  unfold src at h
  split at h
  · rename_i e' xs
    simp only [Option.some.injEq, Prod.mk.injEq] at h
    obtain ⟨rfl, rfl, rfl⟩ := h
    have hu := hu.dd
    cases hu with
    | vals0 _ A cap => exact ⟨A, cap, [], by simp, by simp, ⟨by simp, .inl (by simp), fun i hi => by simp at hi, fun i j hi => by simp at hi, fun i j hi => by simp at hi⟩, fun _ => ⟨[], rfl⟩⟩
    | vals _ _ b off cap F hcap hO hb he hc h1 hr =>
      have hl : (xs.map V.d).length = xs.length := by simp
      refine ⟨_, cap, (List.range (xs.length * e')).map fun k => F (k / e') (k % e'), by rw [hl], by rw [hl]; exact hcap, ⟨by simp, .inr ⟨b, off, rfl, fun j u hj => ?_⟩, fun i hi => ?_, fun i j hi hj => ?_, fun i j hi hj => ?_⟩, fun _ => ⟨xs, rfl⟩⟩
      · have hjl : j < xs.length * e' := by
          have := (List.getElem?_eq_some_iff.1 hj).1
          simpa using this
        obtain ⟨d1, d2, d3⟩ := div_lt_of hjl
        simp [List.getElem?_map, List.getElem?_range hjl] at hj
        subst hj
        have := hc (j / e') (j % e') d1 d2
        rwa [Nat.add_assoc, d3] at this
      · rw [hl] at hi
        rw [getD_map_d xs i hi, cells_d]
        simpa using he i hi
      · rw [hl] at hi
        have hk := mul_add_lt hi hj
        have hcl := he i hi
        rw [getD_map_d xs i hi, cells_d, getD_map_d _ j (by omega)]
        have h3 : ((List.range (xs.length * e')).map fun k => F (k / e') (k % e')).getD (i * e' + j) undef = F i j := by
          simp [List.getD_eq_getElem?_getD, List.getElem?_range hk, (div_mul_add hj).1, (div_mul_add hj).2]
        rw [h3]
        exact .d _ _ (hr i j hi hj)
      · rw [hl] at hi
        have hk := mul_add_lt hi hj
        have h3 : ((List.range (xs.length * e')).map fun k => F (k / e') (k % e')).getD (i * e' + j) undef = F i j := by
          simp [List.getD_eq_getElem?_getD, List.getElem?_range hk, (div_mul_add hj).1, (div_mul_add hj).2]
        rw [h3]
        exact h1 i j hi hj
  · simp only [Option.some.injEq, Prod.mk.injEq] at h
    obtain ⟨rfl, rfl, rfl⟩ := h
    cases hu with
    | nils _ A => exact ⟨A, 0, [], by simp, by simp, ⟨by simp, .inl (by simp), fun i hi => by simp at hi, fun i j hi => by simp at hi, fun i j hi => by simp at hi⟩, fun _ => ⟨[], rfl⟩⟩
  · rename_i r g i n
    split at h
    · rename_i e' xs hrow
      split at h
      · rename_i hle
        simp only [Option.some.injEq, Prod.mk.injEq] at h
        obtain ⟨rfl, rfl, rfl⟩ := h
        obtain ⟨b, c, arr, ty, fr, hpl, hh, hsa, hf, hxc, he, hr, h1, hbd⟩ := row_lies hH hrow
        have hl : ((xs.drop i).take n).length = n := by simp; omega
        have hgd : ∀ k, k < n → ((xs.drop i).take n).getD k .any = xs.getD (i + k) .any := fun k hk => getD_drop_take xs .any i n k hk
        cases hu with
        | slc _ _ _ _ b' e2 c' hlt hp' hk =>
          rw [hpl] at hp'
          simp only [Option.some.injEq, Prod.mk.injEq] at hp'
          obtain ⟨rfl, rfl, rfl⟩ := hp'
          have h3 : ∀ k j, k < n → j < e' → ((List.range (n * e')).map fun m => arr.getD (i * e' + m) undef).getD (k * e' + j) undef = arr.getD ((i + k) * e' + j) undef := by
            intro k j hk hj
            have := mul_add_lt hk hj
            simp [List.getD_eq_getElem?_getD, List.getElem?_range this, Nat.add_mul, Nat.add_assoc]
          refine ⟨_, c - i, (List.range (n * e')).map fun m => arr.getD (i * e' + m) undef, by rw [hl], by rw [hl]; omega, ⟨by rw [hl]; simp, .inr ⟨b, i * e', rfl, fun j u hj => ?_⟩, fun k hk => ?_, fun k j hk hj => ?_, fun k j hk hj => ?_⟩, fun hd => by simp at hd⟩
          · have hjl : j < n * e' := by
              have := (List.getElem?_eq_some_iff.1 hj).1
              simpa using this
            simp [List.getElem?_map, List.getElem?_range hjl] at hj
            subst hj
            obtain ⟨d1, d2, d3⟩ := div_lt_of hjl
            have := mul_add_lt (i := i + j / e') (j := j % e') (e := e') (c := c) (by omega) d2
            rw [Nat.add_mul, Nat.add_assoc, d3] at this
            rw [cell_of_block hh (by omega)]
            simp [Array.getD_eq_getD_getElem?]
          · rw [hl] at hk; rw [hgd k hk]; exact he _ (by omega)
          · rw [hl] at hk; rw [hgd k hk, h3 k j hk hj]; exact hr _ _ (by omega) hj
          · rw [hl] at hk; rw [h3 k j hk hj]; exact h1 _ _ (by omega) hj
        | slc0 _ _ _ A cap hi' hlt =>
          exact ⟨A, cap, [], by rw [hl], by rw [hl]; omega, ⟨by simp, .inl hl, fun k hk => by simp at hk, fun k j hk => by simp at hk, fun k j hk => by simp at hk⟩, fun hd => by simp at hd⟩
      · simp at h
    · simp at h
  · simp at h

/-! ### Bytes into a string, a string into bytes -/
theorem sim_cvStr (hG : GR G w (owned pl H)) (hH : HR w pl Bd H) (hE : RE w (owned pl H) pl (hlen H) env a) {o : Oper} {srcT dst : TypeId} {X : Operand} (ho : o.op = .convert srcT dst X) {x : AOpd} (hx : opdOk x X = true) (hk : (opd G env x).ok = true)
    (hd : descIs P dst isStr = true) (hs : (match sliceOf P srcT with | some e => descIs P e isU8 | none => false) = true) {vs : List V} {dat : Bool} (hsrc : src H (opd G env x) = some (1, vs, dat)) {s : List UInt8} (hst : strOf vs = some s) : OpSim P o a w pl Bd H (.d (.str s)) H := by
  have hu := opd_ok hx hG hE hk
  obtain ⟨A, cap, news, hue, hcap, hl, _⟩ := src_lies hH hsrc hu
  obtain ⟨ns, hvs, hss⟩ := strOf_nums hst
  split at hs
  · rename_i el hel
    have hds := sliceOf_some hel
    obtain ⟨de, hde, hke⟩ := descIs_some hs
    obtain ⟨dd, hdd, hkd⟩ := descIs_some hd
    have hde' : P.underlying el = some (.int .u8) := by
      cases de <;> simp [isU8] at hke
      rename_i k
      cases k <;> simp at hke
      exact hde
    have hdd' : P.underlying dst = some .string := by cases dd <;> simp [isStr] at hkd; exact hdd
    rcases hl.cell with h0 | ⟨b, off, hA, hc⟩
    · have hns : ns = [] := by rw [hvs] at h0; simpa using h0
      subst hns
      have hs0 : s = [] := by rw [hss]; rfl
      subst hs0
      rw [h0] at hue
      have hrun : (convert srcT dst (.slice A 0 cap)).run P w = .ok (.string ByteArray.empty) w := by
        cases A with
        | none => exact run_convert_bytes_nil w srcT el hds hde' 0 cap dst hdd'
        | some ad =>
          rw [run_convert_bytes_string w srcT dst el _ 0 cap hds hde' hdd']
          simp [Conv.bytesToString, loadCells, loadCellsFrom]
      exact .pure hH (u := .string ByteArray.empty) (by simp only [execOp, ho, hue]; rw [Sem.run_bind, hrun]; rfl) (.d _ _ (.str _ _ rfl))
    · subst hA
      have hlen : ns.length = vs.length := by rw [hvs]; simp
      have hrun := run_convert_bytes_arg (P := P) w srcT el hds hde' b off vs.length cap ns hlen (fun i hi => by
        have hr := hl.rel i 0 hi (by omega)
        have hlc : i < news.length := by rw [hl.len]; omega
        have hci := hc i _ (List.getElem?_eq_getElem hlc)
        have hin : i < ns.length := by omega
        have hvi : (vs.getD i .any).cells.getD 0 .any = .d (.int .u8 (ns.getD i 0)) := by
          rw [hvs]
          simp [List.getD_eq_getElem?_getD, hin, V.cells]
        rw [hvi, Nat.mul_one, Nat.add_zero] at hr
        have hni : news.getD i undef = news[i] := by simp [List.getD_eq_getElem?_getD, hlc]
        rw [hni] at hr
        rw [hci, hr.dd.int_eq]) dst hdd'
      refine .pure hH (u := .string (strOfNums ns)) (by simp only [execOp, ho, hue]; rw [Sem.run_bind, hrun]; rfl) (.d _ _ (.str _ _ ?_))
      rw [hss]; rfl
  · simp at hs

/-- A block that nobody owns. -/
theorem fin_free (hH : HR w pl Bd H) {w' : World} {ob : Go.Obj} (hw : w'.heap = w.heap.push ob) (hs : Same w w') {v : V} {u : Value} (hv : Ext w (owned pl H) w' (owned pl H) → RV w' (owned pl H) pl (hlen H) v u) : Fin w pl Bd H v H u w' pl := by
  have hget' : ∀ b, b < w.heap.size → w'.heap[b]? = w.heap[b]? := fun b hb => by rw [hw, Array.getElem?_push_lt hb, Array.getElem?_eq_getElem hb]
  have E : Ext w (owned pl H) w' (owned pl H) := ⟨hs.os, hs.tape, hs.output, by rw [hw]; simp, fun b hb hO => ⟨hget' b hb, hO⟩⟩
  have hor : ∀ r o m, hget H r = some o → OR w (owned pl H) pl m r o → OR w' (owned pl H) pl m r o := by
    intro r o m ho h
    cases h with
    | dead => exact .dead
    | row g e xs b c arr ty fr hp hh hs hf hx he hr h1 hg =>
      exact .row g e xs b c arr ty fr hp ((hget' b (Array.getElem?_eq_some_iff.1 hh).1).trans hh) hs hf hx he (fun i j hi hj => (hr i j hi hj).mono E (PlExt.refl _ _) (Nat.le_refl _)) h1 hg
    | map ks vs b e c es clock hp hh hk hv hrk hrv =>
      exact .map ks vs b e c es clock hp ((hget' b (Array.getElem?_eq_some_iff.1 hh).1).trans hh) hk hv (fun i hi => (hrk i hi).mono E (PlExt.refl _ _) (Nat.le_refl _)) (fun i hi => (hrv i hi).mono E (PlExt.refl _ _) (Nat.le_refl _))
  exact ⟨⟨fun r o ho => hor r o _ ho (hH.obj r o ho), hH.inj, fun m hm r o hlt ho => hor r o m ho (hH.bd m hm r o hlt ho), hH.le⟩, hv E, E, PlExt.refl _ _, Nat.le_refl _⟩

theorem not_owned_new (hH : HR w pl Bd H) : ¬ owned pl H w.heap.size := fun h => by have := hH.owned_lt h; omega
end
end Go.Ev

/- Each operation of compact code does what the model's operation does: append onto nil, maps. -/
import Derived.Test.YtpmphmpaeooeeaaDoorE15
namespace Go.Ev
open Go
set_option linter.unusedSimpArgs false
set_option linter.unusedVariables false

section
variable {P : Program} {cl : Callf} {G : Glob} {w : World} {pl : Pl} {Bd : Nat → Prop} {H : Hp} {env : Env} {a : Act}

theorem run_firstNone {e : Nat} {S : Option Addr} {c : Nat} {w' : World} : (Builtin.firstCells e 0 (.slice S 0 c)).run P w' = .ok #[] w' := by
  cases S with
  | none => exact run_firstCells_none w' _ _ _ _
  | some ad => simp [Builtin.firstCells, loadCells, loadCellsFrom]

theorem sim_appendNil (hG : GR G w (owned pl H)) (hH : HR w pl Bd H) (hE : RE w (owned pl H) pl (hlen H) env a) {o : Oper} {as : Array Operand} {ts : Array TypeId} (ho : o.op = .call { callee := .builtin .append, args := as, argTypes := ts }) {S X : Operand} {t : Nat} (has : as.toList = [S, X]) (hts : ts.toList = [t, t])
    {s x : AOpd} (hs : opdOk s S = true) (hx : opdOk x X = true) {e b : Nat} (hck : (match sliceOf P t with | some el => hasZero P el e && (match P.info? el with | some i => Nat.beq i.bytes b | none => false) | none => false) = true) (hb : 0 < b)
    (hse : opd G env s = .nils e) (hxk : (opd G env x).ok = true) {ys : List V} {dat : Bool} {e' : Nat} (hsrc : src H (opd G env x) = some (e', ys, dat)) {v : V} {H' : Hp}
    (hv : (ys = [] ∧ v = .nils e ∧ H' = H) ∨ (e' = e ∧ 0 < ys.length ∧ ys.length * b ≤ room ∧ v = .slc (hlen H) 0 0 ys.length ∧ H' = hpush H (.row 0 e ys))) : OpSim P o a w pl Bd H v H' := by
  have hsv := opd_ok hs hG hE (by rw [hse]; rfl)
  have hxv := opd_ok hx hG hE hxk
  rw [hse] at hsv
  obtain ⟨A, cap, news, hxe, hcap, hl, hdat⟩ := src_lies hH hsrc hxv
  have has' : as = #[S, X] := by apply Array.ext'; rw [has]
  have hts' : ts = #[t, t] := by apply Array.ext'; rw [hts]
  generalize hue : a.eval S = u at hsv
  cases hsv with
  | nils _ B =>
    split at hck
    · rename_i el hel
      have hds := sliceOf_some hel
      simp only [Bool.and_eq_true] at hck
      obtain ⟨k1, k2⟩ := hck
      obtain ⟨iz, uz, hi, hu, hus, his⟩ := hasZero_some k1
      rw [hi] at k2
      have k2 := Nat.eq_of_beq_eq_true k2
      have hexec : ∀ (r : Value) (w' : World), (Builtin.append_ #[t, t] o.type #[.slice B 0 0, .slice A ys.length cap]).run P w = .ok r w' → (execOp a.eval o).run P w = .ok (.value r) w' := by
        intro r w' h
        simp only [execOp, ho, resolve, has', hts', Sem.run_bind, Sem.run_pure, Result.andThen_ok, invoke, builtin, List.map_toArray, List.map_cons, List.map_nil, hue, hxe]
        rw [h]; rfl
      rcases hv with ⟨hy, rfl, rfl⟩ | ⟨rfl, hy, hrm, rfl, rfl⟩
      · subst hy
        refine .pure hH (u := .slice B 0 0) (hexec _ _ ?_) (.nils _ _)
        have hfc := run_firstNone (P := P) (e := iz.size) (S := A) (c := cap) (w' := w)
        cases B with
        | none => simp [Builtin.append_, run_underlying hds, sizeOf, typeInfo, hi, Builtin.lenOf, hfc]
        | some ad => simp [Builtin.append_, run_underlying hds, sizeOf, typeInfo, hi, Builtin.lenOf, hfc, storeCells]
      · have hcell : ∀ ad, w.drew.cell? ad = w.cell? ad := fun _ => rfl
        have hfc := run_firstLies (P := P) (cap := cap) hl (w' := w.drew) hcell
        have hfo := run_firstNone (P := P) (e := e') (S := B) (c := 0) (w' := w.drew)
        have hrun := run_grow (P := P) (ty := o.type) (olds := []) hds hi hu his k2 (n := 0) (c := 0) (by omega) hfo hfc (by rw [Nat.zero_add]; exact hrm) hb
        rw [Nat.zero_add] at hrun
        have hge := grownCap_ge w ys.length 0 el
        generalize hcap' : grownCap w ys.length 0 el = c2 at hrun hge
        let arr2 : Array Value := #[] ++ news.toArray ++ Builtin.zeroCells uz.cells (c2 - ys.length)
        have hsz2 : arr2.size = c2 * e' := by
          have h5 : c2 * e' = ys.length * e' + (c2 - ys.length) * e' := by rw [← Nat.add_mul]; congr 1; omega
          rw [h5]
          simp only [arr2, Array.empty_append, Array.size_append, List.size_toArray, size_zeroCells, hus, hl.len]
        have hg2 : ∀ i j, i < ys.length → j < e' → arr2.getD (i * e' + j) undef = news.getD (i * e' + j) undef := by
          intro i j hi hj
          have h3 := mul_add_lt hi hj
          simp only [arr2, Array.getD_eq_getD_getElem?, List.getD_eq_getElem?_getD, Array.empty_append]
          rw [Array.getElem?_append_left (by simp [hl.len]; omega)]
          simp
        obtain ⟨pl', h1, h2, h3, h4⟩ := fin_row hH (w' := w.drew.alloc (.cells arr2 el)) (e := e') (c := c2) (xs := ys) rfl ⟨rfl, rfl, rfl⟩ hsz2 (unfrozen0 _) hge hl.el
          (fun i j hi hj => by rw [hg2 i j hi hj]; exact hl.rel i j hi hj)
          (fun i j hi hj => by rw [hg2 i j hi hj]; exact hl.one i j hi hj)
        exact .value (hexec _ _ hrun) ⟨h2, rv_slc (by rw [hlen_hpush]; omega) h1 (by omega) (by simp) (by omega), h3, h4, by rw [hlen_hpush]; omega⟩
    · simp at hck

/-! ### Maps -/
theorem sim_mkmap (hH : HR w pl Bd H) {o : Oper} {t : Nat} {r : Option Operand} (hc : (match r with | none => true | some (.const (.int _ _)) => descIs P t (fun | .map _ _ => true | _ => false) | _ => false) = true) (ho : o.op = .makeMap t r) :
    OpSim P o a w pl Bd H (.mref (hlen H)) (hpush H (.map [] [])) := by
  have hpl : PlExt (hlen H) pl (plNew pl (hlen H) (w.heap.size, 0, 0)) := fun r hr g p hp => by rw [plNew_ne (by omega)]; exact hp
  obtain ⟨h2, h3, h4⟩ := hH.push (w' := { w with heap := w.heap.push (.map #[] 0) }) (.map [] []) (.map #[] 0) 0 0 rfl ⟨rfl, rfl, rfl⟩ (by simp [blk, hget_hpush_self, plNew_self]) (fun O' E =>
    .map [] [] w.heap.size 0 0 #[] 0 (plNew_self ..) (by simp) rfl rfl (fun i hi => by simp at hi) (fun i hi => by simp at hi))
  have hrun : (execOp a.eval o).run P w = .ok (.value (.map (some w.heap.size))) { w with heap := w.heap.push (.map #[] 0) } := by
    simp only [execOp, ho]
    split at hc
    · simp [Instr.makeMap]
    · rename_i k n
      obtain ⟨ds, hds, hk⟩ := descIs_some hc
      cases ds <;> simp at hk
      simp [Instr.makeMap, run_underlying hds, asInt, asIntOf, Act.eval]
    · simp at hc
  exact .value hrun ⟨h2, .mref _ _ _ _ (by rw [hlen_hpush]; omega) (plNew_self ..), h3, h4, by rw [hlen_hpush]; omega⟩

theorem run_checkKey {t : Nat} (hk : descIs P t isKey = true) (b : Bool) (n : Nat) (v : Value) : (Instr.checkKey b (n + 1) t v).run P w = .ok () w := by
  obtain ⟨ds, hds, hk⟩ := descIs_some hk
  cases ds <;> simp [isKey] at hk <;> simp [Instr.checkKey, run_underlying hds]

theorem beq_str {s : ByteArray} {l : List UInt8} {t : ByteArray} {l' : List UInt8} (h : s.toList = l) (h' : t.toList = l') : (s == t) = decide (l = l') := by
  rw [beq_toListBytes, h, h', Bool.eq_iff_iff]; simp

/-- A key is looked for. -/
theorem findNow_look {kd : D} {u : Value} {O : Own} (hu : RD w O kd u) {α : Type} : ∀ (ks : List D) (vs : List α) (es : List MapEntry) (i : Nat) (r : Option α), look kd ks vs = some r → es.length = ks.length → (∀ j, j < ks.length → RD w O (ks.getD j .nilp) (es.getD j default).key) →
    ∃ res, Instr.findNow .string u es i = some res ∧ ((r = none ∧ res = none) ∨ ∃ j x, r = some x ∧ vs[j]? = some x ∧ j < es.length ∧ res = some (i + j, (es.getD j default).val))
  | [], vs, es, i, r, h, hl, _ => by
    have : es = [] := List.eq_nil_of_length_eq_zero (by simpa using hl)
    subst this
    simp [look] at h; subst h
    exact ⟨none, rfl, .inl ⟨rfl, rfl⟩⟩
  | k :: ks, [], es, i, r, h, _, _ => by simp [look] at h
  | k :: ks, v :: vs, es, i, r, h, hl, hk => by
    match es, hl with
    | e :: es, hl =>
      have hk0 := hk 0 (by simp)
      simp only [List.getD_cons_zero] at hk0
      simp only [look] at h
      split at h
      · rename_i heq
        simp at h; subst h
        unfold keyEq at heq
        split at heq
        · rename_i p q
          simp at heq; subst heq
          obtain ⟨t1, rfl, e1, _⟩ := hu.str_eq
          obtain ⟨t2, h2, e2, _⟩ := hk0.str_eq
          refine ⟨some (i, e.val), ?_, .inr ⟨0, v, rfl, rfl, by simp, rfl⟩⟩
          simp only [Instr.findNow, h2, Instr.sameNow, beq_str e1 e2]
          simp
        · simp at heq
      · rename_i heq
        unfold keyEq at heq
        split at heq
        · rename_i p q
          simp at heq
          obtain ⟨t1, rfl, e1, _⟩ := hu.str_eq
          obtain ⟨t2, h2, e2, _⟩ := hk0.str_eq
          obtain ⟨res, r1, r2⟩ := findNow_look hu ks vs es (i + 1) r h (by simpa using hl) (fun j hj => by have := hk (j + 1) (by simpa using hj); simpa using this)
          refine ⟨res, ?_, ?_⟩
          · simp only [Instr.findNow, h2, Instr.sameNow, beq_str e1 e2]
            simp only [heq, decide_false]
            exact r1
          · rcases r2 with r2 | ⟨j, x, h1, h2, h3, h4⟩
            · exact .inl r2
            · exact .inr ⟨j + 1, x, h1, by simpa using h2, by simpa using h3, by rw [h4, show i + 1 + j = i + (j + 1) by omega]; rfl⟩
        · simp at heq
      · simp at h

theorem mapOf_some {t : Nat} {f : Nat → Nat → Bool} (h : (match P.underlying t with | some (.map kt et) => f kt et | _ => false) = true) : ∃ kt et, P.underlying t = some (.map kt et) ∧ f kt et = true := by
  split at h
  · rename_i kt et hd; exact ⟨kt, et, hd, h⟩
  · simp at h

theorem sim_lookup (hG : GR G w (owned pl H)) (hH : HR w pl Bd H) (hE : RE w (owned pl H) pl (hlen H) env a) {o : Oper} {t : Nat} {M K : Operand} {ok : Bool} (ho : o.op = .lookup t M K ok) {z : D} {m k : AOpd} (hm : opdOk m M = true) (hk : opdOk k K = true)
    (hc : (match P.underlying t with | some (.map kt et) => descIs P kt isKey && zeroIs P et (.d z) | _ => false) = true) {ks vs : List D} (hme : opd G env m = .d (.mval ks vs)) {kd : D} (hke : opd G env k = .d kd) {r : Option D} (hl : look kd ks vs = some r) {v : V}
    (hv : (∃ x, r = some x ∧ v = (bif ok then .tup [.d x, .d (.bool true)] else .d x)) ∨ (r = none ∧ v = (bif ok then .tup [.d z, .d (.bool false)] else .d z))) : OpSim P o a w pl Bd H v H := by
  have hmv := opd_ok hm hG hE (by rw [hme]; rfl)
  have hkv := opd_ok hk hG hE (by rw [hke]; rfl)
  rw [hme] at hmv
  rw [hke] at hkv
  obtain ⟨kt, et, hund, hf⟩ := mapOf_some hc
  simp only [Bool.and_eq_true] at hf
  obtain ⟨f1, f2⟩ := hf
  obtain ⟨iz, uz, hi, hu, hcst, _⟩ := zeroIs_some f2
  have hzr := (vcstOk_ok (w := w) (O := owned pl H) (pl := pl) (n := hlen H) hcst).dd
  obtain ⟨dk, hdk, hdk2⟩ := descIs_some f1
  have hdk3 : P.underlying kt = some .string := by cases dk <;> simp [isKey] at hdk2; exact hdk
  have hmd := hmv.dd
  have hkd := hkv.dd
  suffices hs : ∃ x u, (Instr.lookup t (a.eval M) (a.eval K) ok).run P w = .ok (if ok then .tuple #[u, .bool x] else u) w ∧ ((∃ y, r = some y ∧ x = true ∧ RD w (owned pl H) y u) ∨ (r = none ∧ x = false ∧ u = uz)) by
    obtain ⟨x, u, hrun, hcase⟩ := hs
    have htup : ∀ (y : D) (b : Bool), RD w (owned pl H) y u → RV w (owned pl H) pl (hlen H) (bif ok then .tup [.d y, .d (.bool b)] else .d y) (if ok then .tuple #[u, .bool b] else u) := by
      intro y b hy
      cases ok
      · exact .d _ _ hy
      · refine .tup _ _ rfl fun i hi => ?_
        match i, hi with
        | 0, _ => exact .d _ _ hy
        | 1, _ => exact .d _ _ (.bool _)
        | n + 2, hi => simp at hi; omega
    refine .pure hH (u := if ok then .tuple #[u, .bool x] else u) (by simp only [execOp, ho]; rw [Sem.run_bind, hrun]; rfl) ?_
    rcases hv with ⟨y, hy, rfl⟩ | ⟨hn, rfl⟩
    · rcases hcase with ⟨y', hy', rfl, hrd⟩ | ⟨hn, _⟩
      · rw [hy] at hy'
        simp only [Option.some.injEq] at hy'
        subst hy'
        exact htup _ _ hrd
      · rw [hy] at hn; simp at hn
    · rcases hcase with ⟨y', hy', _⟩ | ⟨_, rfl, rfl⟩
      · rw [hn] at hy'; simp at hy'
      · exact htup _ _ hzr
  generalize a.eval M = um at *
  generalize a.eval K = uk at *
  cases hmd with
  | mval0 =>
    simp [look] at hl; subst hl
    refine ⟨false, uz, ?_, .inr ⟨rfl, rfl, rfl⟩⟩
    have hfk : (Instr.findKey kt uk []).run P w = .ok none w := by simp [Instr.findKey, run_underlying hdk3, Instr.findNow]
    cases ok <;> simp [Instr.lookup, run_underlying hund, run_checkKey f1, hfk, zeroValue, typeInfo, hi, hu]
  | mval _ _ b es clock hO hb hheap hk1 hv1 hrk hrv =>
    obtain ⟨res, r1, r2⟩ := findNow_look hkd ks vs es.toList 0 r hl (by simpa using hk1) (fun j hj => by have := hrk j (by omega); simpa [List.getD_eq_getElem?_getD, Array.getD_eq_getD_getElem?] using this)
    have hfk : (Instr.findKey kt uk es.toList).run P w = .ok res w := by simp [Instr.findKey, run_underlying hdk3, r1]
    rcases r2 with ⟨rfl, rfl⟩ | ⟨j, x, rfl, hj1, hj2, rfl⟩
    · refine ⟨false, uz, ?_, .inr ⟨rfl, rfl, rfl⟩⟩
      cases ok <;> simp [Instr.lookup, run_underlying hund, run_checkKey f1, hfk, zeroValue, typeInfo, hi, hu, getObj, Sem.run, hheap]
    · have hj3 : j < es.size := by simpa using hj2
      have hx : vs.getD j .nilp = x := by simp [List.getD_eq_getElem?_getD, hj1]
      have hrd := hrv j hj3
      rw [hx] at hrd
      refine ⟨true, (es.getD j default).val, ?_, .inl ⟨x, rfl, rfl, hrd⟩⟩
      have hgd : es.toList.getD j default = es.getD j default := by simp [List.getD_eq_getElem?_getD, Array.getD_eq_getD_getElem?]
      cases ok <;> simp [Instr.lookup, run_underlying hund, run_checkKey f1, hfk, zeroValue, typeInfo, hi, hu, getObj, Sem.run, hheap, hgd, hj3]
end
end Go.Ev

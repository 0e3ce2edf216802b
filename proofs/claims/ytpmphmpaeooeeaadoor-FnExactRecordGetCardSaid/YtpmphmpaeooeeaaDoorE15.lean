/- Each operation of compact code does what the model's operation does: append. -/
import Derived.Test.YtpmphmpaeooeeaaDoorE14
namespace Go.Ev
open Go
set_option linter.unusedSimpArgs false
set_option linter.unusedVariables false

section
variable {P : Program} {cl : Callf} {G : Glob} {w : World} {pl : Pl} {Bd : Nat → Prop} {H : Hp} {env : Env} {a : Act}

theorem lowIn_cells {r : Nat} {v : V} (h : lowIn r v = true) {j : Nat} (hj : j < v.cells.length) : lowIn1 r (v.cells.getD j .any) = true := by
  cases v with
  | d x =>
    rw [cells_d] at hj ⊢
    rw [getD_map_d _ j (by simpa using hj)]
    rfl
  | agg cs =>
    simp only [lowIn, List.all_eq_true] at h
    simp only [V.cells] at hj ⊢
    have : cs.getD j .any = cs[j] := by simp [List.getD_eq_getElem?_getD, hj]
    rw [this]
    exact h _ (List.getElem_mem hj)
  | slc r' g i n => simp [V.cells] at hj; subst hj; simpa [lowIn, V.cells] using h
  | ptr r' g i k => simp [V.cells] at hj; subst hj; simpa [lowIn, V.cells] using h
  | nils e => simp [V.cells] at hj; subst hj; rfl
  | _ => simp [lowIn, lowIn1] at h

theorem okIn_cells {O : Own} {n n0 r m j : Nat} {v : V} {u : Value} (h : RV w O pl n (v.cells.getD j .any) u) (hj : j < v.cells.length) (hb : okIn n0 r v = true) (hn : ∀ m, Bd m → m ≤ n0) (hm : m = n ∨ (Bd m ∧ r < m)) : RV w O pl m (v.cells.getD j .any) u := by
  rcases hm with rfl | ⟨hm, hlt⟩
  · exact h
  · simp only [okIn, Bool.or_eq_true] at hb
    rcases hb with hb | hb
    · exact h.lower1 (lowIn_cells hb hj) (by omega)
    · have h1 := Nat.le_of_ble_eq_true hb
      have h2 := hn m hm
      omega

/-- Elements of a source, within every bound. -/
theorem lies_lower {n0 r e : Nat} {ys : List V} {A : Option Addr} {news : List Value} {dat : Bool} (hl : Lies w (owned pl H) pl (hlen H) e ys A news) (hd : dat = true → ∃ ds : List D, ys = ds.map .d) (hok : (dat || ys.all (okIn n0 r)) = true) (hn : ∀ m, Bd m → m ≤ n0) :
    ∀ m, (m = hlen H ∨ (Bd m ∧ r < m)) → ∀ i j, i < ys.length → j < e → RV w (owned pl H) pl m ((ys.getD i .any).cells.getD j .any) (news.getD (i * e + j) undef) := by
  intro m hm i j hi hj
  have h := hl.rel i j hi hj
  have hc := hl.el i hi
  cases hdat : dat
  · rw [hdat] at hok
    simp only [Bool.false_or, List.all_eq_true] at hok
    have hg : ys.getD i .any = ys[i] := by simp [List.getD_eq_getElem?_getD, hi]
    refine okIn_cells h (by omega) ?_ hn hm
    rw [hg]; exact hok _ (List.getElem_mem hi)
  · obtain ⟨ds, rfl⟩ := hd hdat
    have hi' : i < ds.length := by simpa using hi
    rw [getD_map_d ds i hi', cells_d] at h hc ⊢
    rw [getD_map_d _ j (by simp only [List.length_map] at hc; omega)] at h ⊢
    exact .d _ _ h.dd

theorem run_firstLies {e : Nat} {ys : List V} {A : Option Addr} {cap : Nat} {news : List Value} {O : Own} {n : Nat} (hl : Lies w O pl n e ys A news) {w' : World} (hw : ∀ a, w'.cell? a = w.cell? a) : (Builtin.firstCells e ys.length (.slice A ys.length cap)).run P w' = .ok news.toArray w' := by
  rcases hl.cell with h0 | ⟨b, off, rfl, hc⟩
  · have hn : news = [] := List.eq_nil_of_length_eq_zero (by rw [hl.len, h0, Nat.zero_mul])
    subst hn
    rw [h0]
    cases A with
    | none => exact run_firstCells_none w' _ _ _ _
    | some ad => simp [Builtin.firstCells, loadCells, loadCellsFrom]
  · exact run_firstCells_some (P := P) w' e ys.length ⟨b, off, none⟩ ys.length cap news hl.len (fun j u hj => by rw [Addr.add_lit, hw]; exact hc j u hj)

/-- The arm with room. -/
theorem run_room {t ty el e bytes : Nat} {iz : TypeInfo} (hds : P.underlying t = some (.slice el)) (hi : P.info? el = some iz) (hse : iz.size = e) {b n c m cap : Nat} {A : Option Addr} {news : List Value} (hroom : n + m ≤ c)
    (hfc : (Builtin.firstCells e m (.slice A m cap)).run P w = .ok news.toArray w) (hnl : news.length = m * e) (h1 : ∀ u ∈ news, u.oneCell' = true) {arr : Array Value} {ety : TypeId} {fr : Nat × Nat} (hh : w.heap[b]? = some (.cells arr ety fr)) (hs : arr.size = c * e) (hf : Unfrozen fr arr.size) :
    (Builtin.append_ #[t, t] ty #[.slice (some ⟨b, 0, none⟩) n c, .slice A m cap]).run P w = .ok (.slice (some ⟨b, 0, none⟩) (n + m) c) (w.setCells b (n * e) news) := by
  subst hse
  have hfit : n * iz.size + news.length ≤ arr.size := by
    rw [hnl, hs, ← Nat.add_mul]
    exact Nat.mul_le_mul_right _ hroom
  have hst := run_storeCells_cells (P := P) b (0 + n * iz.size) news 0 w (fun j hj => by rw [Nat.add_zero, Nat.zero_add, cell_of_block hh (by omega)]; rfl)
    (fun j hj => by
      have := hf (0 + n * iz.size + 0 + j) (by omega)
      simp only [World.frozen?, hh]
      simp only [Bool.and_eq_false_iff, decide_eq_false_iff_not]
      omega) h1
  simp only [Nat.add_zero, Nat.zero_add] at hst
  simp [Builtin.append_, run_underlying hds, sizeOf, typeInfo, hi, Builtin.lenOf, hroom, hfc, Addr.add_lit, hst]

/-- The arm that grows. -/
theorem run_grow {t ty el e bytes : Nat} {iz : TypeInfo} {z : Value} (hds : P.underlying t = some (.slice el)) (hi : P.info? el = some iz) (hz : iz.zero = some z) (hse : iz.size = e) (hby : iz.bytes = bytes) {S : Option Addr} {n c m cap : Nat} {A : Option Addr} {olds news : List Value} (hg : c < n + m)
    (hfo : (Builtin.firstCells e n (.slice S n c)).run P w.drew = .ok olds.toArray w.drew) (hfc : (Builtin.firstCells e m (.slice A m cap)).run P w.drew = .ok news.toArray w.drew) (hroom : (n + m) * bytes ≤ 140737488355328) (hb0 : 0 < bytes) :
    (Builtin.append_ #[t, t] ty #[.slice S n c, .slice A m cap]).run P w = .ok (.slice (some ⟨w.heap.size, 0, none⟩) (n + m) (grownCap w (n + m) c el)) (w.drew.alloc (.cells (olds.toArray ++ news.toArray ++ Builtin.zeroCells z.cells (grownCap w (n + m) c el - (n + m))) el)) := by
  subst hse
  subst hby
  have h63 : n + m ≤ 140737488355328 := by
    have := Nat.mul_le_mul_left (n + m) hb0
    omega
  have hn : ¬ (n + m ≤ c) := by omega
  have h63' : ¬ (9223372036854775807 < ((n : Int) + (m : Int))) := by omega
  have hfit := growslice_fits hg hroom
  have h48' : ¬ (281474976710656 < Builtin.nextslicecap (n + m) c * iz.bytes) := by omega
  simp [Builtin.append_, run_underlying hds, sizeOf, typeInfo, zeroValue, hi, hz, Builtin.lenOf, hn, h63', h48', Question.forced, hfc, hfo, newRow, grownCap]
  congr 2
  apply Array.ext'
  simp [List.append_assoc]

theorem mem_one {e : Nat} {ys : List V} {A : Option Addr} {news : List Value} {O : Own} {n : Nat} (hl : Lies w O pl n e ys A news) : ∀ u ∈ news, u.oneCell' = true := by
  intro u hu
  obtain ⟨k, hk, rfl⟩ := List.mem_iff_getElem.1 hu
  have hk' : k < ys.length * e := by rw [← hl.len]; exact hk
  obtain ⟨d1, d2, d3⟩ := div_lt_of hk'
  have := hl.one _ _ d1 d2
  rw [d3] at this
  simpa [List.getD_eq_getElem?_getD, hk] using this

theorem ge_of_index {i n j e : Nat} (h : n ≤ i) : n * e ≤ i * e + j := by
  have := Nat.mul_le_mul_right e h
  omega

theorem sim_append {n0 : Nat} (hn0 : ∀ m, Bd m → m ≤ n0) (hG : GR G w (owned pl H)) (hH : HR w pl Bd H) (hE : RE w (owned pl H) pl (hlen H) env a) {o : Oper} {as : Array Operand} {ts : Array TypeId} (ho : o.op = .call { callee := .builtin .append, args := as, argTypes := ts }) {S X : Operand} {t : Nat} (has : as.toList = [S, X]) (hts : ts.toList = [t, t])
    {s x : AOpd} (hs : opdOk s S = true) (hx : opdOk x X = true) {e b : Nat} (hck : (match sliceOf P t with | some el => hasZero P el e && (match P.info? el with | some i => Nat.beq i.bytes b | none => false) | none => false) = true) (hb : 0 < b)
    {r g n : Nat} (hse : opd G env s = .slc r g 0 n) {xs : List V} (hrow : rowOf H r g = some (e, xs)) (hxk : (opd G env x).ok = true) {ys : List V} {dat : Bool} (hsrc : src H (opd G env x) = some (e, ys, dat)) (hok : (dat || ys.all (okIn n0 r)) = true)
    {v : V} {H' : Hp} (hv : (n ≤ xs.length ∧ xs.length ≤ n + ys.length ∧ (n + ys.length) * b ≤ room ∧ v = .slc r (g + 1) 0 (n + ys.length) ∧ H' = hset H r (.row (g + 1) e (xs.take n ++ ys))) ∨ (n + ys.length ≤ xs.length ∧ v = .slc r g 0 (n + ys.length) ∧ H' = hset H r (.row g e (xs.take n ++ ys ++ xs.drop (n + ys.length))))) :
    OpSim P o a w pl Bd H v H' := by
  have hsv := opd_ok hs hG hE (by rw [hse]; rfl)
  have hxv := opd_ok hx hG hE hxk
  rw [hse] at hsv
  obtain ⟨A, cap, news, hxe, hcap, hl, hdat⟩ := src_lies hH hsrc hxv
  have hlow := lies_lower hl hdat hok hn0
  obtain ⟨bl, c, arr, ty, fr, hpl, hh, hsa, hf, hxc, he, hr, h1, hbd⟩ := row_lies hH hrow
  have has' : as = #[S, X] := by apply Array.ext'; rw [has]
  have hts' : ts = #[t, t] := by apply Array.ext'; rw [hts]
  generalize hue : a.eval S = u at hsv
  cases hsv with
  | slc0 _ _ _ A cap hi' hlt => omega
  | slc _ _ _ _ b' e' c' hlt hp' hk =>
    rw [hpl] at hp'
    simp only [Option.some.injEq, Prod.mk.injEq] at hp'
    obtain ⟨rfl, rfl, rfl⟩ := hp'
    rw [Nat.zero_mul, Nat.sub_zero] at hue
    split at hck
    · rename_i el hel
      have hds := sliceOf_some hel
      simp only [Bool.and_eq_true] at hck
      obtain ⟨k1, k2⟩ := hck
      obtain ⟨iz, uz, hi, hu, hus, his⟩ := hasZero_some k1
      rw [hi] at k2
      have k2 := Nat.eq_of_beq_eq_true k2
      have hexec : ∀ (r : Value) (w' : World), (Builtin.append_ #[t, t] o.type #[.slice (some ⟨bl, 0, none⟩) n c, .slice A ys.length cap]).run P w = .ok r w' → (execOp a.eval o).run P w = .ok (.value r) w' := by
        intro r w' h
        simp only [execOp, ho, resolve, has', hts', Sem.run_bind, Sem.run_pure, Result.andThen_ok, invoke, builtin, List.map_toArray, List.map_cons, List.map_nil, hue, hxe]
        rw [h]; rfl
      have hold : ∀ m, (m = hlen H ∨ (Bd m ∧ r < m)) → ∀ i j, i < xs.length → j < e → RV w (owned pl H) pl m ((xs.getD i .any).cells.getD j .any) (arr.getD (i * e + j) undef) := by
        intro m hm
        rcases hm with rfl | ⟨hm, hlt'⟩
        · exact hr
        · exact hbd m hm hlt'
      by_cases hroom : n + ys.length ≤ c
      · have hfc := run_firstLies (P := P) (cap := cap) hl (w' := w) (fun _ => rfl)
        have hrun := run_room (P := P) (ty := o.type) (bytes := b) hds hi his hroom hfc hl.len (mem_one hl) hh hsa hf
        have hfit : n * e + news.length ≤ arr.size := by rw [hl.len, hsa, ← Nat.add_mul]; exact Nat.mul_le_mul_right _ hroom
        obtain ⟨s1, s2, s3, arr', s4, s5, s6⟩ := setCells_spec news (n * e) w hh hfit
        rw [hl.len] at s6
        -- what lies in the new row
        have hnew : ∀ (zs : List V), (∀ i, i < zs.length → (zs.getD i .any = if n ≤ i ∧ i < n + ys.length then ys.getD (i - n) .any else xs.getD i .any) ∧ (¬ (n ≤ i ∧ i < n + ys.length) → i < xs.length)) →
            ∀ (R : V → Value → Prop), (∀ i j, i < ys.length → j < e → R ((ys.getD i .any).cells.getD j .any) (news.getD (i * e + j) undef)) → (∀ i j, i < xs.length → j < e → R ((xs.getD i .any).cells.getD j .any) (arr.getD (i * e + j) undef)) →
            ∀ i j, i < zs.length → j < e → R ((zs.getD i .any).cells.getD j .any) (arr'.getD (i * e + j) undef) := by
          intro zs hz R h1 h2 i j hi hj
          obtain ⟨z1, z2⟩ := hz i hi
          rw [z1, s6]
          by_cases hin : n ≤ i ∧ i < n + ys.length
          · have hge := ge_of_index (j := j) (e := e) hin.1
            have hlt2 : i * e + j < n * e + ys.length * e := by rw [← Nat.add_mul]; exact mul_add_lt hin.2 hj
            rw [if_pos hin, if_pos ⟨hge, hlt2⟩]
            have hsub : i * e + j - n * e = (i - n) * e + j := by rw [Nat.sub_mul]; have := Nat.mul_le_mul_right e hin.1; omega
            rw [hsub]
            exact h1 _ _ (by omega) hj
          · rw [if_neg hin, if_neg (by
              intro hcon
              apply hin
              constructor
              · rcases Nat.lt_or_ge i n with h | h
                · have := mul_add_lt h hj; omega
                · exact h
              · rcases Nat.lt_or_ge i (n + ys.length) with h | h
                · exact h
                · have := ge_of_index (j := j) (e := e) h
                  rw [Nat.add_mul] at this
                  omega)]
            exact h2 i j (z2 hin) hj
        have hfin : ∀ (g' : Nat) (zs : List V), (g' = g ∨ g' = g + 1) → zs.length ≤ c → (∀ i, i < zs.length → (zs.getD i .any = if n ≤ i ∧ i < n + ys.length then ys.getD (i - n) .any else xs.getD i .any) ∧ (¬ (n ≤ i ∧ i < n + ys.length) → i < xs.length)) →
            OpSim P o a w pl Bd H (.slc r g' 0 (n + ys.length)) (hset H r (.row g' e zs)) := by
          intro g' zs hg' hzl hz
          obtain ⟨q1, q2, q3⟩ := hH.setRow (w' := w.setCells bl (n * e) news) (g' := g') (b' := bl) (c' := c) (xs' := zs) (arr' := arr') (hget_row hrow) hpl (by omega) (fun _ => rfl) s1 (by omega) (fun b'' _ hne => s3 b'' hne) (.inl rfl) s4 (by omega) (by rw [s5]; exact hf) hzl
            (fun i hi => by
              obtain ⟨z1, z2⟩ := hz i hi
              rw [z1]
              split
              · rename_i hin; exact hl.el _ (by omega)
              · rename_i hin; exact he _ (z2 hin))
            (fun i j hi hj => hnew zs hz (fun _ u => u.oneCell' = true) (fun i j hi hj => hl.one i j hi hj) h1 i j hi hj)
            (fun m hm i j hi hj => hnew zs hz (fun v u => RV w (owned pl H) pl m v u) (hlow m hm) (hold m hm) i j hi hj)
          exact .value (hexec _ _ hrun) ⟨q1, rv_slc (by rw [hlen_hset]; exact hlt) (plSet_self ..) (by omega) (by simp) (by omega), q2, q3, by rw [hlen_hset]; omega⟩
        rcases hv with ⟨hn, hn2, _, rfl, rfl⟩ | ⟨hn, rfl, rfl⟩
        · have tl : (xs.take n).length = n := by simp; omega
          refine hfin (g + 1) (xs.take n ++ ys) (.inr rfl) (by simp; omega) (fun i hi => ⟨?_, fun hin => ?_⟩)
          · simp only [List.getD_eq_getElem?_getD, List.getElem?_append, tl]
            simp only [List.length_append, tl] at hi
            by_cases h : i < n
            · rw [if_pos h, if_neg (by omega), List.getElem?_take, if_pos h]
            · rw [if_neg h, if_pos (by omega)]
          · simp only [List.length_append, tl] at hi
            omega
        · refine hfin g _ (.inl rfl) (by simp; omega) (fun i hi => ⟨getD_splice xs ys n i hn, fun hin => ?_⟩)
          simp at hi
          omega
      · rcases hv with ⟨hn, hn2, hrm, rfl, rfl⟩ | ⟨hn, rfl, rfl⟩
        · have tl : (xs.take n).length = n := by simp; omega
          have hcell : ∀ ad, w.drew.cell? ad = w.cell? ad := fun _ => rfl
          have hfc := run_firstLies (P := P) (cap := cap) hl (w' := w.drew) hcell
          let olds : List Value := (List.range (n * e)).map fun k => arr.getD k undef
          have hol : olds.length = n * e := by simp [olds]
          have hog : ∀ i j, i < n → j < e → olds.getD (i * e + j) undef = arr.getD (i * e + j) undef := by
            intro i j hi hj
            have := mul_add_lt hi hj
            simp [olds, List.getD_eq_getElem?_getD, List.getElem?_range this]
          have hfo : (Builtin.firstCells e n (.slice (some ⟨bl, 0, none⟩) n c)).run P w.drew = .ok olds.toArray w.drew :=
            run_firstCells_some (P := P) w.drew e n ⟨bl, 0, none⟩ n c olds hol (fun j u hj => by
              have hjl : j < n * e := by have := (List.getElem?_eq_some_iff.1 hj).1; omega
              simp [olds, List.getElem?_map, List.getElem?_range hjl] at hj
              subst hj
              rw [Addr.add_lit, hcell]
              have : n * e ≤ c * e := Nat.mul_le_mul_right _ (by omega)
              rw [Nat.zero_add, cell_of_block hh (by omega)]
              simp [Array.getD_eq_getD_getElem?])
          have hrun := run_grow (P := P) (ty := o.type) hds hi hu his k2 (by omega) hfo hfc hrm hb
          have hge := grownCap_ge w (n + ys.length) c el
          generalize hcap' : grownCap w (n + ys.length) c el = c2 at hrun hge
          let arr2 : Array Value := olds.toArray ++ news.toArray ++ Builtin.zeroCells uz.cells (c2 - (n + ys.length))
          have hsz2 : arr2.size = c2 * e := by
            simp only [arr2, Array.size_append, List.size_toArray, size_zeroCells, hus, hol, hl.len, ← Nat.add_mul]
            congr 1; omega
          have hg1 : ∀ i j, i < n → j < e → arr2.getD (i * e + j) undef = arr.getD (i * e + j) undef := by
            intro i j hi hj
            have h3 := mul_add_lt hi hj
            rw [← hog i j hi hj]
            simp only [arr2, Array.getD_eq_getD_getElem?, List.getD_eq_getElem?_getD]
            rw [Array.getElem?_append_left (by simp [hol]; omega), Array.getElem?_append_left (by simp [hol]; omega)]
            simp
          have hg2 : ∀ i j, i < ys.length → j < e → arr2.getD ((n + i) * e + j) undef = news.getD (i * e + j) undef := by
            intro i j hi hj
            have h3 := mul_add_lt hi hj
            simp only [arr2, Array.getD_eq_getD_getElem?, List.getD_eq_getElem?_getD]
            rw [Nat.add_mul, Array.getElem?_append_left (by simp [hol, hl.len]; omega), Array.getElem?_append_right (by simp [hol]; omega)]
            simp only [List.size_toArray, hol]
            rw [show n * e + i * e + j - n * e = i * e + j by omega]
            simp
          have hnew : ∀ (R : V → Value → Prop), (∀ i j, i < ys.length → j < e → R ((ys.getD i .any).cells.getD j .any) (news.getD (i * e + j) undef)) → (∀ i j, i < xs.length → j < e → R ((xs.getD i .any).cells.getD j .any) (arr.getD (i * e + j) undef)) →
              ∀ i j, i < (xs.take n ++ ys).length → j < e → R (((xs.take n ++ ys).getD i .any).cells.getD j .any) (arr2.getD (i * e + j) undef) := by
            intro R h1 h2 i j hi hj
            simp only [List.length_append, tl] at hi
            simp only [List.getD_eq_getElem?_getD (l := xs.take n ++ ys), List.getElem?_append, tl]
            by_cases h : i < n
            · rw [if_pos h, hg1 i j (by omega) hj, List.getElem?_take, if_pos h, ← List.getD_eq_getElem?_getD]
              exact h2 i j (by omega) hj
            · rw [if_neg h]
              obtain ⟨k, rfl⟩ : ∃ k, i = n + k := ⟨i - n, by omega⟩
              rw [hg2 k j (by omega) hj, Nat.add_sub_cancel_left, ← List.getD_eq_getElem?_getD]
              exact h1 k j (by omega) hj
          obtain ⟨q1, q2, q3⟩ := hH.setRow (w' := w.drew.alloc (.cells arr2 el)) (g' := g + 1) (b' := w.heap.size) (c' := c2) (xs' := xs.take n ++ ys) (arr' := arr2) (ty := el) (fr := (0, 0)) (hget_row hrow) hpl (by omega) (fun h => by omega) ⟨rfl, rfl, rfl⟩ (by simp)
            (fun b'' hlt2 _ => heap_alloc_old w.drew _ b'' hlt2) (.inr (Nat.le_refl _)) (heap_alloc_new w.drew _) hsz2 (unfrozen0 _) (by simp; omega)
            (fun i hi => by
              simp only [List.length_append, tl] at hi
              simp only [List.getD_eq_getElem?_getD (l := xs.take n ++ ys), List.getElem?_append, tl]
              by_cases h : i < n
              · rw [if_pos h, List.getElem?_take, if_pos h, ← List.getD_eq_getElem?_getD]; exact he i (by omega)
              · rw [if_neg h, ← List.getD_eq_getElem?_getD]; exact hl.el _ (by omega))
            (fun i j hi hj => hnew (fun _ u => u.oneCell' = true) (fun i j hi hj => hl.one i j hi hj) h1 i j hi hj)
            (fun m hm i j hi hj => hnew (fun v u => RV w (owned pl H) pl m v u) (hlow m hm) (hold m hm) i j hi hj)
          exact .value (hexec _ _ hrun) ⟨q1, rv_slc (by rw [hlen_hset]; exact hlt) (plSet_self ..) (by omega) (by simp) (by omega), q2, q3, by rw [hlen_hset]; omega⟩
        · omega
    · simp at hck
end
end Go.Ev

/- Lemmas (several texts in one). -/
import Derived.Test.YtjdmiodinhlchaaGreatMBaseTick1
/- Each operation of compact code does what the model's operation does: a new entry of a map. -/
namespace Go.Ev
open Go
set_option linter.unusedSimpArgs false
set_option linter.unusedVariables false

theorem HR.setMap {w w' : World} {pl : Pl} {Bd : Nat → Prop} {H : Hp} (h : HR w pl Bd H) {r : Nat} {ks vs ks' vs' : List V} {b e c : Nat} {es' : Array MapEntry} {clock' : Nat}
    (hr : hget H r = some (.map ks vs)) (hp : pl r 0 = some (b, e, c)) (hs : Same w w') (hsz : w'.heap.size = w.heap.size) (hoth : ∀ b'', b'' ≠ b → w'.heap[b'']? = w.heap[b'']?)
    (hh : w'.heap[b]? = some (.map es' clock')) (hk : es'.size = ks'.length) (hv : es'.size = vs'.length)
    (hrel : ∀ m, (m = hlen H ∨ (Bd m ∧ r < m)) → ∀ i, i < es'.size → RV w (owned pl H) pl m (ks'.getD i .any) (es'.getD i default).key ∧ RV w (owned pl H) pl m (vs'.getD i .any) (es'.getD i default).val) :
    HR w' pl Bd (hset H r (.map ks' vs')) ∧ Ext w (owned pl H) w' (owned pl (hset H r (.map ks' vs'))) := by
  have hrl := hget_lt hr
  have hbl : blk pl H r = some b := by simp [blk, hr, hp]
  have hbk : ∀ r', blk pl (hset H r (.map ks' vs')) r' = blk pl H r' := by
    intro r'
    by_cases hne : r' = r
    · subst hne
      rw [hbl]
      simp [blk, hget_hset_self _ hrl, hp]
    · unfold blk
      rw [hget_hset_ne _ hne]
  have hown : owned pl (hset H r (.map ks' vs')) = owned pl H := by funext b'; simp only [owned, hbk]
  have E : Ext w (owned pl H) w' (owned pl (hset H r (.map ks' vs'))) := by
    rw [hown]
    exact ⟨hs.os, hs.tape, hs.output, by omega, fun b'' _ hO => ⟨hoth b'' (fun hh => hO ⟨r, by rw [hh]; exact hbl⟩), hO⟩⟩
  have hold : ∀ r' o' m, r' ≠ r → hget H r' = some o' → OR w (owned pl H) pl m r' o' → OR w' (owned pl (hset H r (.map ks' vs'))) pl m r' o' := by
    intro r' o' m hne ho' hor
    cases hor with
    | dead => exact .dead
    | row g1 e1 xs1 b1 c1 arr1 ty1 fr1 hp1 hh1 hs1 hf1 hx1 he1 hr1 h11 hg1 =>
      have hb1 : blk pl H r' = some b1 := by simp [blk, ho', hp1]
      have hne1 : b1 ≠ b := fun hh => hne (h.inj r' r b1 hb1 (by rw [hh]; exact hbl))
      exact .row g1 e1 xs1 b1 c1 arr1 ty1 fr1 hp1 ((hoth b1 hne1).trans hh1) hs1 hf1 hx1 he1 (fun i j hi hj => (hr1 i j hi hj).mono E (PlExt.refl _ _) (Nat.le_refl _)) h11 hg1
    | map ks1 vs1 b1 e1 c1 es clock hp1 hh1 hk1 hv1 hrk hrv =>
      have hb1 : blk pl H r' = some b1 := by simp [blk, ho', hp1]
      have hne1 : b1 ≠ b := fun hh => hne (h.inj r' r b1 hb1 (by rw [hh]; exact hbl))
      exact .map ks1 vs1 b1 e1 c1 es clock hp1 ((hoth b1 hne1).trans hh1) hk1 hv1 (fun i hi => (hrk i hi).mono E (PlExt.refl _ _) (Nat.le_refl _)) (fun i hi => (hrv i hi).mono E (PlExt.refl _ _) (Nat.le_refl _))
  have hnew : ∀ m, (m = hlen H ∨ (Bd m ∧ r < m)) → OR w' (owned pl (hset H r (.map ks' vs'))) pl m r (.map ks' vs') := fun m hm =>
    .map ks' vs' b e c es' clock' hp hh hk hv (fun i hi => (hrel m hm i hi).1.mono E (PlExt.refl _ _) (Nat.le_refl _)) (fun i hi => (hrel m hm i hi).2.mono E (PlExt.refl _ _) (Nat.le_refl _))
  refine ⟨⟨?_, fun r1 r2 b1 h1 h2 => by rw [hbk] at h1 h2; exact h.inj r1 r2 b1 h1 h2, ?_, fun m hm => by rw [hlen_hset]; exact h.le m hm⟩, E⟩
  · intro r' o' ho'
    rw [hlen_hset]
    by_cases hne : r' = r
    · subst hne
      rw [hget_hset_self _ hrl] at ho'
      obtain rfl := Option.some.inj ho'
      exact hnew _ (.inl rfl)
    · rw [hget_hset_ne _ hne] at ho'
      exact hold r' o' _ hne ho' (h.obj r' o' ho')
  · intro m hm r' o' hlt ho'
    by_cases hne : r' = r
    · subst hne
      rw [hget_hset_self _ hrl] at ho'
      obtain rfl := Option.some.inj ho'
      exact hnew m (.inr ⟨hm, hlt⟩)
    · rw [hget_hset_ne _ hne] at ho'
      exact hold r' o' m hne ho' (h.bd m hm r' o' hlt ho')

section
variable {P : Program} {cl : Callf} {G : Glob} {w : World} {pl : Pl} {Bd : Nat → Prop} {H : Hp} {env : Env} {a : Act}

theorem getD_snoc (xs : List V) (x : V) (i : Nat) (hi : i < xs.length + 1) : (xs ++ [x]).getD i .any = if i < xs.length then xs.getD i .any else x := by
  simp only [List.getD_eq_getElem?_getD, List.getElem?_append]
  by_cases h : i < xs.length
  · simp [h]
  · have : i - xs.length = 0 := by omega
    simp [h, this]

theorem getD_push (es : Array MapEntry) (x : MapEntry) (i : Nat) (hi : i < es.size + 1) : (es.push x).getD i default = if i < es.size then es.getD i default else x := by
  simp only [Array.getD_eq_getD_getElem?]
  by_cases h : i < es.size
  · rw [Array.getElem?_push_lt h]; simp [h]
  · obtain rfl : i = es.size := by omega
    simp

theorem sim_insert {B : Bn} (hn0 : BdOk Bd B) (hG : GR G w (owned pl H)) (hH : HR w pl Bd H) (hE : RE w (owned pl H) pl (hlen H) env a) {o : Oper} {t : Nat} {M K X : Operand} (ho : o.op = .insert t M K X ∨ o.op = .mapUpdate t M K X) {m k x : AOpd} (hm : opdOk m M = true) (hk : opdOk k K = true) (hx : opdOk x X = true)
    (hc : (match P.underlying t with | some (.map kt _) => descIs P kt isKey | _ => false) = true) {r : Nat} (hme : opd G env m = .mref r) {kd : D} (hke : opd G env k = .d kd) (hxk : (opd G env x).ok = true) {ks vs : List V} (hrow : hget H r = some (.map ks vs)) {kds : List D} (hkd : allD ks = some kds)
    (hl : look kd kds vs = some none) (hok : okIn B r (opd G env x) = true) : OpSim P o a w pl Bd H .und (hset H r (.map (ks ++ [.d kd]) (vs ++ [opd G env x]))) := by
  have hmv := opd_ok hm hG hE (by rw [hme]; rfl)
  have hkv := opd_ok hk hG hE (by rw [hke]; rfl)
  have hxv := opd_ok hx hG hE hxk
  rw [hme] at hmv
  rw [hke] at hkv
  have hkse := allD_some hkd
  obtain ⟨kt, et, hund, f1⟩ := mapOf_some (f := fun kt _ => descIs P kt isKey) hc
  obtain ⟨dk, hdk, hdk2⟩ := descIs_some f1
  have hdk3 : P.underlying kt = some .string := by cases dk <;> simp [isKey] at hdk2; exact hdk
  have hor := hH.obj r _ hrow
  generalize hue : a.eval M = um at hmv
  cases hmv with
  | mref _ b e c hlt hp =>
    cases hor with
    | map _ _ b' e' c' es clock hp' hh hk1 hv1 hrk hrv =>
      rw [hp] at hp'
      simp only [Option.some.injEq, Prod.mk.injEq] at hp'
      obtain ⟨rfl, rfl, rfl⟩ := hp'
      obtain ⟨res, r1, r2⟩ := findNow_look hkv.dd kds vs es.toList 0 none hl (by rw [hkse] at hk1; simpa using hk1) (fun j hj => by
        have := hrk j (by rw [hk1, hkse]; simpa using hj)
        rw [hkse, getD_map_d kds j hj] at this
        simpa [List.getD_eq_getElem?_getD, Array.getD_eq_getD_getElem?] using this.dd)
      have hres : res = none := by
        rcases r2 with ⟨_, h⟩ | ⟨j, x, h, _⟩
        · exact h
        · simp at h
      subst hres
      have hfk : (Instr.findKey kt (a.eval K) es.toList).run P w = .ok none w := by simp [Instr.findKey, run_underlying hdk3, r1]
      let w' : World := { w with heap := w.heap.setIfInBounds b (.map (es.push { key := a.eval K, val := a.eval X, born := clock }) (clock + 1)) }
      have hbl : b < w.heap.size := (Array.getElem?_eq_some_iff.1 hh).1
      have hrun : (Instr.mapUpdate t (.map (some b)) (a.eval K) (a.eval X)).run P w = .ok () w' := by
        simp [Instr.mapUpdate, run_underlying hund, run_checkKey f1, hfk, getObj, setObj, Sem.run, hh, w']
      have hbd := fun m (hm : Bd m) (hlt : r < m) => hH.bd m hm r _ hlt hrow
      obtain ⟨q1, q2⟩ := hH.setMap (w' := w') (ks' := ks ++ [.d kd]) (vs' := vs ++ [opd G env x]) hrow hp ⟨rfl, rfl, rfl⟩ (by simp [w']) (fun b'' hne => by simp [w', Array.getElem?_setIfInBounds_ne (Ne.symm hne)]) (by simp [w', hbl]; exact ⟨rfl, rfl⟩) (by simp [hk1]) (by simp [hv1])
        (fun m hm i hi => by
          have hi' : i < es.size + 1 := by simpa using hi
          rw [getD_push es _ i hi', getD_snoc ks _ i (by omega), getD_snoc vs _ i (by omega)]
          by_cases hlt2 : i < es.size
          · rw [if_pos hlt2, if_pos (by omega), if_pos (by omega)]
            rcases hm with rfl | ⟨hm, hlt3⟩
            · exact ⟨hrk i hlt2, hrv i hlt2⟩
            · have := hbd m hm hlt3
              cases this with
              | map _ _ b2 e2 c2 es2 clock2 hp2 hh2 hk2 hv2 hrk2 hrv2 =>
                rw [hp] at hp2
                simp only [Option.some.injEq, Prod.mk.injEq] at hp2
                obtain ⟨rfl, rfl, rfl⟩ := hp2
                rw [hh] at hh2
                simp only [Option.some.injEq, Go.Obj.map.injEq] at hh2
                obtain ⟨rfl, rfl⟩ := hh2
                exact ⟨hrk2 i hlt2, hrv2 i hlt2⟩
          · rw [if_neg hlt2, if_neg (by omega), if_neg (by omega)]
            exact ⟨.d _ _ hkv.dd, okIn_lower hxv hok hn0 hm⟩)
      refine .skip (w' := w') ?_ ⟨q1, .und, q2, PlExt.refl _ _, by rw [hlen_hset]; omega⟩
      rcases ho with ho | ho <;> (simp only [execOp, ho, hue]; rw [Sem.run_bind, hrun]; rfl)
end
end Go.Ev
/- References turned into data: what is looked at, what is handed over, what is handed back. -/
namespace Go.Ev
open Go
set_option linter.unusedSimpArgs false
set_option linter.unusedVariables false

section
variable {P : Program} {w : World} {pl : Pl} {Bd : Nat → Prop} {H : Hp}

theorem rd_row {O : Own} {b e i k c cap : Nat} {ds : List D} {arr : Array Value} {ty : TypeId} {fr : Nat × Nat} (hO : ¬ O b) (hh : w.heap[b]? = some (.cells arr ty fr)) (hs : arr.size = c * e) (hlen : ds.length = k) (hc : i + k ≤ c) (hcap : k ≤ cap)
    (he : ∀ j, j < k → (ds.getD j .nilp).cells.length = e) (hr : ∀ j l, j < k → l < e → RD w O ((ds.getD j .nilp).cells.getD l .nilp) (arr.getD ((i + j) * e + l) undef)) (h1 : ∀ j l, j < k → l < e → (arr.getD ((i + j) * e + l) undef).oneCell' = true) :
    RD w O (.vals e ds) (.slice (some ⟨b, i * e, none⟩) k cap) := by
  subst hlen
  refine .vals e ds b (i * e) cap (fun j l => arr.getD ((i + j) * e + l) undef) hcap hO (Array.getElem?_eq_some_iff.1 hh).1 he (fun j l hj hl => ?_) h1 hr
  have := mul_add_lt (i := i + j) (j := l) (e := e) (c := c) (by omega) hl
  rw [show i * e + j * e + l = (i + j) * e + l by rw [Nat.add_mul]]
  exact cell_of_block hh (by omega)

theorem getD_d {ds : List D} {i j : Nat} (hi : i < ds.length) (hj : j < (ds.getD i .nilp).cells.length) : ((ds.map V.d).getD i .any).cells.getD j .any = .d ((ds.getD i .nilp).cells.getD j .nilp) := by
  rw [getD_map_d ds i hi, cells_d, getD_map_d _ j hj]

theorem mapO_some {α β : Type} {f : α → Option β} {d : α} {d' : β} : ∀ {xs : List α} {ys : List β}, mapO f xs = some ys → ys.length = xs.length ∧ ∀ i, i < xs.length → f (xs.getD i d) = some (ys.getD i d')
  | [], ys, h => by simp [mapO] at h; subst h; exact ⟨rfl, fun i hi => by simp at hi⟩
  | x :: xs, ys, h => by
    simp only [mapO] at h
    split at h
    · rename_i b hb
      split at h
      · rename_i bs hbs
        simp at h; subst h
        obtain ⟨h1, h2⟩ := mapO_some hbs
        refine ⟨by simp [h1], fun i hi => ?_⟩
        cases i with
        | zero => exact hb
        | succ i => exact h2 i (by simpa using hi)
      · simp at h
    · simp at h

def refs1 : V → List Nat
  | .slc r _ _ _ => [r]
  | .ptr r _ _ _ => [r]
  | _ => []
theorem view1_ok (hH : HR w pl Bd H) {v : V} {x : D} (h : view1 H v = some x) {u : Value} (hu : RV w (owned pl H) pl (hlen H) v u) {O' : Own} (E : Ext w (owned pl H) w O') (hO : ∀ r ∈ refs1 v, ∀ b, blk pl H r = some b → ¬ O' b) : RD w O' x u := by
  unfold view1 at h
  split at h
  · simp at h; subst h
    exact hu.dd.mono E
  · simp at h; subst h
    cases hu; exact .vals0 _ _ _
  · rename_i r g i k
    split at h
    · rename_i e xs hrow
      split at h
      · rename_i hle
        split at h
        · rename_i ds hds
          simp at h; subst h
          have hxs := allD_some hds
          subst hxs
          obtain ⟨b, c, arr, ty, fr, hpl, hh, hsa, hf, hxc, he, hr, h1, _⟩ := row_lies hH hrow
          have hbl : blk pl H r = some b := by simp [blk, hget_row hrow, hpl]
          have hnb := hO r (by simp [refs1]) b hbl
          simp only [List.length_map] at hle hxc he hr h1
          cases hu with
          | slc _ _ _ _ b' e2 c' hlt hp' hk =>
            rw [hpl] at hp'
            simp only [Option.some.injEq, Prod.mk.injEq] at hp'
            obtain ⟨rfl, rfl, rfl⟩ := hp'
            have hg : ∀ j, j < k → ((ds.drop i).take k).getD j .nilp = ds.getD (i + j) .nilp := fun j hj => getD_drop_take ds .nilp i k j hj
            have hel : ∀ j, j < ds.length → (ds.getD j .nilp).cells.length = e := fun j hj => by
              have := he j hj
              rw [getD_map_d ds j hj, cells_d] at this
              simpa using this
            refine rd_row hnb hh hsa (by simp; omega) (by omega) (by omega) (fun j hj => by rw [hg j hj]; exact hel _ (by omega)) (fun j l hj hl => ?_) (fun j l hj hl => h1 _ _ (by omega) hl)
            rw [hg j hj]
            have := hr (i + j) l (by omega) hl
            rw [getD_d (by omega) (by rw [hel _ (by omega)]; exact hl)] at this
            exact this.dd.mono E
          | slc0 _ _ _ A cap hi hlt =>
            have : (ds.drop i).take 0 = [] := by simp
            rw [this]
            exact .vals0 _ _ _
        · simp at h
      · simp at h
    · simp at h
  · rename_i r g i j
    split at h
    · rename_i e xs hrow
      split at h
      · rename_i ds hds
        split at h
        · rename_i hil
          simp only [Option.some.injEq] at h; subst h
          have hxs := allD_some hds
          subst hxs
          obtain ⟨b, c, arr, ty, fr, hpl, hh, hsa, hf, hxc, he, hr, h1, _⟩ := row_lies hH hrow
          have hbl : blk pl H r = some b := by simp [blk, hget_row hrow, hpl]
          have hnb := hO r (by simp [refs1]) b hbl
          simp only [List.length_map] at hxc he hr h1
          have hel : (ds.getD i .nilp).cells.length = e := by
            have := he i hil
            rw [getD_map_d ds i hil, cells_d] at this
            simpa using this
          cases hu with
          | ptr _ _ _ _ b' e2 c' hlt hp' =>
            rw [hpl] at hp'
            simp only [Option.some.injEq, Prod.mk.injEq] at hp'
            obtain ⟨rfl, rfl, rfl⟩ := hp'
            have hdl : ((ds.getD i .nilp).cells.drop j).length = e - j := by simp only [List.length_drop, hel]
            refine .rptr _ b (i * e + j) (fun l => arr.getD (i * e + (j + l)) undef) hnb (Array.getElem?_eq_some_iff.1 hh).1 (fun l hl => ?_) (fun l hl => h1 i (j + l) hil (by omega)) (fun l hl => ?_)
            · have := mul_add_lt (i := i) (j := j + l) (e := e) (c := c) (by omega) (by omega)
              rw [Nat.add_assoc]
              exact cell_of_block hh (by omega)
            · have := hr i (j + l) hil (by omega)
              rw [getD_d hil (by rw [hel]; omega)] at this
              have h2 := this.dd.mono E
              simpa [List.getD_eq_getElem?_getD] using h2
        · simp at h
      · simp at h
    · simp at h
  · simp at h

theorem fz_ok (hH : HR w pl Bd H) {n : Nat} {O' : Own} (E : Ext w (owned pl H) w O') (hO : ∀ r, n ≤ r → ∀ b, blk pl H r = some b → ¬ O' b) : ∀ (d : Nat) (v : V) (x : D) (u : Value), fz n d H v = some x → RV w (owned pl H) pl (hlen H) v u → RD w O' x u := by
  intro d
  induction d with
  | zero =>
    intro v x u h hu
    simp only [fz] at h
    split at h
    · simp at h; subst h; exact hu.dd.mono E
    · simp at h
  | succ d ih =>
    intro v x u h hu
    simp only [fz] at h
    split at h
    · simp at h; subst h; exact hu.dd.mono E
    · simp at h; subst h
      cases hu; exact .vals0 _ _ _
    · split at h
      · rename_i cs xs hxs
        simp at h; subst h
        obtain ⟨h1, h2⟩ := mapO_some (d := V.any) (d' := D.nilp) hxs
        cases hu with
        | agg _ us hl h1' hu => exact .agg xs us (by omega) (fun i hi => h1' i (by omega)) fun i hi => ih _ _ _ (h2 i (by omega)) (hu i (by omega))
      · simp at h
    · rename_i r g i k
      split at h
      · simp at h
      · rename_i hnr
        split at h
        · rename_i e xs hrow
          split at h
          · rename_i hle
            split at h
            · rename_i ys hys
              simp at h; subst h
              obtain ⟨m1, m2⟩ := mapO_some (d := V.any) (d' := D.nilp) hys
              obtain ⟨b, c, arr, ty, fr, hpl, hh, hsa, hf, hxc, he, hr, h1, _⟩ := row_lies hH hrow
              have hbl : blk pl H r = some b := by simp [blk, hget_row hrow, hpl]
              have hnb := hO r (by omega) b hbl
              have hlk : ((xs.drop i).take k).length = k := by simp; omega
              have hg : ∀ j, j < k → ((xs.drop i).take k).getD j .any = xs.getD (i + j) .any := fun j hj => getD_drop_take xs .any i k j hj
              cases hu with
              | slc _ _ _ _ b' e2 c' hlt hp' hk =>
                rw [hpl] at hp'
                simp only [Option.some.injEq, Prod.mk.injEq] at hp'
                obtain ⟨rfl, rfl, rfl⟩ := hp'
                -- each element ags it lies, turned into data
                have hel : ∀ j, j < k → ∃ us : Array Value, (us.size = e ∧ ∀ l, l < e → us.getD l undef = arr.getD ((i + j) * e + l) undef) ∧
                    ((ys.getD j .nilp).cells.length = e ∧ ∀ l, l < e → RD w O' ((ys.getD j .nilp).cells.getD l .nilp) (us.getD l undef)) := by
                  intro j hj
                  have hz := m2 j (by omega)
                  rw [hg j hj] at hz
                  have hce := he (i + j) (by omega)
                  let us : Array Value := ((List.range e).map fun l => arr.getD ((i + j) * e + l) undef).toArray
                  have husg : ∀ l, l < e → us.getD l undef = arr.getD ((i + j) * e + l) undef := fun l hl => by
                    have hsz : l < us.size := by simp [us, hl]
                    rw [Array.getD_eq_getD_getElem?, Array.getElem?_eq_getElem hsz]
                    simp [us]
                  have hrc : RCs w (owned pl H) pl (hlen H) (xs.getD (i + j) .any).cells us := ⟨by rw [hce]; simp [us], fun l hl => by rw [husg l (by omega)]; exact hr _ _ (by omega) (by omega), fun l hl => by rw [husg l (by omega)]; exact h1 _ _ (by omega) (by omega)⟩
                  refine ⟨us, ⟨by simp [us], husg⟩, ?_⟩
                  by_cases hag : (xs.getD (i + j) .any).isAgg = true
                  · have hrv : RV w (owned pl H) pl (hlen H) (xs.getD (i + j) .any) (.agg us) := by
                      generalize xs.getD (i + j) .any = y at hag hrc
                      cases y <;> simp [V.isAgg] at hag
                      · rename_i y; cases y <;> simp [V.isAgg] at hag
                        rename_i cs
                        refine .d _ _ (.agg cs us (by simpa [V.cells] using hrc.size) (fun l hl => hrc.one l (by simpa [V.cells] using hl)) fun l hl => ?_)
                        have := hrc.rel l (by simpa [V.cells] using hl)
                        simp only [V.cells] at this
                        rw [getD_map_d cs l hl] at this
                        exact this.dd
                      · rename_i cs
                        exact .agg cs us hrc.size hrc.one hrc.rel
                    have hx := (ih _ _ _ hz hrv).cells
                    have hs : us.size = (ys.getD j .nilp).cells.length := hx.1
                    have hus : us.size = e := by simp [us]
                    exact ⟨by omega, fun l hl => (hx.2 l (by omega)).1⟩
                  · have hag' : (xs.getD (i + j) .any).isAgg = false := by simpa using hag
                    have hc1 := cells_of_one hag'
                    rw [hc1] at hce
                    have he1 : e = 1 := by simpa using hce.symm
                    have hrv := hrc.rel 0 (by rw [hc1]; simp)
                    have hone := hrc.one 0 (by rw [hc1]; simp)
                    rw [hc1] at hrv
                    simp only [List.getD_cons_zero] at hrv
                    have hx := (ih _ _ _ hz hrv).cells
                    have hus : (us.getD 0 undef).cells = #[us.getD 0 undef] := by
                      generalize us.getD 0 undef = q at hone
                      cases q <;> first | rfl | simp [Value.oneCell'] at hone
                    rw [hus] at hx
                    have h0 := hx.1
                    refine ⟨by rw [he1]; simpa using h0.symm, fun l hl => ?_⟩
                    obtain rfl : l = 0 := by omega
                    have := (hx.2 0 (by rw [← h0]; simp)).1
                    simpa using this
                refine rd_row hnb hh hsa (by omega) (by omega) (by omega) (fun j hj => (hel j hj).choose_spec.2.1) (fun j l hj hl => ?_) (fun j l hj hl => h1 _ _ (by omega) hl)
                obtain ⟨us, ⟨_, hg2⟩, _, h3⟩ := hel j hj
                rw [← hg2 l hl]
                exact h3 l hl
              | slc0 _ _ _ A cap hi hlt =>
                have : ys = [] := List.eq_nil_of_length_eq_zero (by omega)
                subst this
                exact .vals0 _ _ _
            · simp at h
          · simp at h
        · simp at h
    · rename_i r g i j
      split at h
      · simp at h
      · rename_i hnr
        split at h
        · rename_i e xs hrow
          split at h
          · rename_i y hy
            split at h
            · rename_i ys hys
              simp at h; subst h
              obtain ⟨m1, m2⟩ := mapO_some (d := V.any) (d' := D.nilp) hys
              obtain ⟨b, c, arr, ty, fr, hpl, hh, hsa, hf, hxc, he, hr, h1, _⟩ := row_lies hH hrow
              have hbl : blk pl H r = some b := by simp [blk, hget_row hrow, hpl]
              have hnb := hO r (by omega) b hbl
              have hil : i < xs.length := (List.getElem?_eq_some_iff.1 hy).1
              have hyd : xs.getD i .any = y := by simp [List.getD_eq_getElem?_getD, hy]
              have hye : y.cells.length = e := by rw [← hyd]; exact he i hil
              cases hu with
              | ptr _ _ _ _ b' e2 c' hlt hp' =>
                rw [hpl] at hp'
                simp only [Option.some.injEq, Prod.mk.injEq] at hp'
                obtain ⟨rfl, rfl, rfl⟩ := hp'
                have hdl : ys.length = e - j := by rw [m1]; simp only [List.length_drop, hye]
                refine .rptr _ b (i * e + j) (fun l => arr.getD (i * e + (j + l)) undef) hnb (Array.getElem?_eq_some_iff.1 hh).1 (fun l hl => ?_) (fun l hl => h1 i (j + l) hil (by omega)) (fun l hl => ?_)
                · have := mul_add_lt (i := i) (j := j + l) (e := e) (c := c) (by omega) (by omega)
                  rw [Nat.add_assoc]
                  exact cell_of_block hh (by omega)
                · have hz := m2 l (by omega)
                  have h2 := hr i (j + l) hil (by omega)
                  rw [hyd] at h2
                  refine ih _ _ _ hz ?_
                  simpa [List.getD_eq_getElem?_getD] using h2
            · simp at h
          · simp at h
        · simp at h
    · split at h
      · rename_i f caps xs hxs
        simp at h; subst h
        obtain ⟨h1, h2⟩ := mapO_some (d := V.any) (d' := D.nilp) hxs
        cases hu with
        | fn _ _ us hl hu => exact .fn _ xs us (by omega) fun i hi => ih _ _ _ (h2 i (by omega)) (hu i (by omega))
      · simp at h
    · rename_i r
      split at h
      · simp at h
      · rename_i hnr
        split at h
        · rename_i ks vs hrow
          split at h
          · rename_i p q hp hq
            simp at h; subst h
            obtain ⟨p1, p2⟩ := mapO_some (d := V.any) (d' := D.nilp) hp
            obtain ⟨q1, q2⟩ := mapO_some (d := V.any) (d' := D.nilp) hq
            have hor := hH.obj r _ hrow
            cases hor with
            | map _ _ b e c es clock hpl hh hk hv hrk hrv =>
              have hbl : blk pl H r = some b := by simp [blk, hrow, hpl]
              have hnb := hO r (by omega) b hbl
              cases hu with
              | mref _ b' e' c' hlt hp' =>
                rw [hpl] at hp'
                simp only [Option.some.injEq, Prod.mk.injEq] at hp'
                obtain ⟨rfl, rfl, rfl⟩ := hp'
                exact .mval _ _ b es clock hnb (Array.getElem?_eq_some_iff.1 hh).1 hh (by omega) (by omega) (fun i hi => ih _ _ _ (p2 i (by omega)) (hrk i hi)) (fun i hi => ih _ _ _ (q2 i (by omega)) (hrv i hi))
          · simp at h
        · simp at h
    · simp at h
theorem view_ok (hH : HR w pl Bd H) {v : V} {x : D} (h : view H v = some x) {u : Value} (hu : RV w (owned pl H) pl (hlen H) v u) {O' : Own} (E : Ext w (owned pl H) w O') (hO : ∀ r b, blk pl H r = some b → ¬ O' b) : RD w O' x u := by
  unfold view at h
  split at h
  · rename_i f caps
    split at h
    · rename_i xs hxs
      simp at h; subst h
      obtain ⟨h1, h2⟩ := mapO_some (d := V.any) (d' := D.nilp) hxs
      cases hu with
      | fn _ _ us hl hu =>
        refine .fn f xs us (by omega) fun i hi => view1_ok hH (h2 i (by omega)) (hu i (by omega)) E fun r hr b hb => hO r b hb
    · simp at h
  · rename_i cs
    split at h
    · rename_i xs hxs
      simp at h; subst h
      obtain ⟨h1, h2⟩ := mapO_some (d := V.any) (d' := D.nilp) hxs
      cases hu with
      | agg _ us hl ho hu =>
        refine .agg xs us (by omega) (fun i hi => ho i (by omega)) fun i hi => view1_ok hH (h2 i (by omega)) (hu i (by omega)) E fun r hr b hb => hO r b hb
    · simp at h
  · split at h
    · rename_i y hy
      simp only [Option.some.injEq] at h; subst h
      exact view1_ok hH hy hu E fun r hr b hb => hO r b hb
    · exact fz_ok hH (n := 0) E (fun r _ b hb => hO r b hb) _ _ _ _ h hu

end
end Go.Ev
/- Calls: what is handed over, what comes back, and what a call does to the world. -/
namespace Go.Ev
open Go
set_option linter.unusedSimpArgs false
set_option linter.unusedVariables false

def RVs (w : World) (O : Own) (pl : Pl) (n : Nat) (vs : List V) (us : Array Value) : Prop :=
  us.size = vs.length ∧ ∀ i, i < vs.length → RV w O pl n (vs.getD i .any) (us.getD i undef)

def FnOk (P : Program) (k : Nat) : Prop := ∃ fn : Func, P.funcs[k]? = some fn ∧ (fn.name == "runtime.NumGoroutine") = false ∧ fn.body.isSome = true

def CallSound (P : Program) (G : Glob) (cl : Callf) : Prop :=
  ∀ k args H v H', cl k args H = some (v, H') → FnOk P k ∧
    ∀ (w : World) (pl : Pl) (Bd : Nat → Prop) (us : Array Value), HR w pl Bd H → GR G w (owned pl H) → RVs w (owned pl H) pl (hlen H) args us →
      Calls P k us w fun e w' => ∃ u pl', e = .returned u ∧ Fin w pl Bd H v H' u w' pl'

section
variable {P : Program} {cl : Callf} {G : Glob} {w : World} {pl : Pl} {Bd : Nat → Prop} {H : Hp} {env : Env} {a : Act}

theorem FnOk.enters {k : Nat} (h : FnOk P k) (args : Array Value) (w : World) : (callFunc k args).run P w = .ok (.enter k args) w := by
  obtain ⟨fn, hf, hname, hb⟩ := h
  have h1 : fn.name ≠ "runtime.NumGoroutine" := by simpa using hname
  obtain ⟨c, hc⟩ := Option.isSome_iff_exists.1 hb
  simp [callFunc, hf, h1, hc]

theorem RVs.append {O : Own} {n : Nat} {vs ws : List V} {us xs : Array Value} (h : RVs w O pl n vs us) (k : RVs w O pl n ws xs) : RVs w O pl n (vs ++ ws) (us ++ xs) := by
  obtain ⟨h1, h2⟩ := h
  obtain ⟨k1, k2⟩ := k
  refine ⟨by simp [h1, k1], fun i hi => ?_⟩
  by_cases hl : i < vs.length
  · have e1 : (vs ++ ws).getD i .any = vs.getD i .any := by simp [List.getD_eq_getElem?_getD, List.getElem?_append_left hl]
    have e2 : (us ++ xs).getD i undef = us.getD i undef := by
      rw [Array.getD_eq_getD_getElem?, Array.getD_eq_getD_getElem?, Array.getElem?_append_left (by omega)]
    rw [e1, e2]; exact h2 i hl
  · have e1 : (vs ++ ws).getD i .any = ws.getD (i - vs.length) .any := by simp [List.getD_eq_getElem?_getD, List.getElem?_append_right (Nat.le_of_not_lt hl)]
    have e2 : (us ++ xs).getD i undef = xs.getD (i - vs.length) undef := by
      rw [Array.getD_eq_getD_getElem?, Array.getD_eq_getD_getElem?, Array.getElem?_append_right (by omega), h1]
    rw [e1, e2]
    exact k2 _ (by simp at hi; omega)

theorem RVs.mono {w' : World} {O O' : Own} {pl' : Pl} {n n' : Nat} (E : Ext w O w' O') (hp : PlExt n pl pl') (hn : n ≤ n') {vs : List V} {us : Array Value} (h : RVs w O pl n vs us) : RVs w' O' pl' n' vs us :=
  ⟨h.1, fun i hi => (h.2 i hi).mono E hp hn⟩

theorem owned_kill {r b : Nat} (hH : HR w pl Bd H) (hb : blk pl H r = some b) : ¬ owned pl (hset H r .dead) b := by
  rintro ⟨r', hr'⟩
  by_cases hne : r' = r
  · subst hne
    obtain ⟨o, ho⟩ := blk_lt hr'
    have := hget_lt ho
    rw [hlen_hset] at this
    unfold blk at hr'
    rw [hget_hset_self _ this] at hr'
    simp at hr'
  · have hb' : blk pl H r' = some b := by
      unfold blk at hr' ⊢
      rwa [hget_hset_ne _ hne] at hr'
    exact hne (hH.inj r' r b hb' hb)

theorem hand_cons (k : Bool) (x : AOpd) (r : List (Bool × AOpd)) : hand G env H ((k, x) :: r) = (match hand1 H k (opd G env x) with
    | some (v, H) => (match hand G env H r with | some (vs, H) => some (v :: vs, H) | none => none)
    | none => none) := rfl

theorem hand1_ok (hH : HR w pl Bd H) {k : Bool} {v v' : V} {H' : Hp} (h : hand1 H k v = some (v', H')) : v.ok = true ∧ HR w pl Bd H' ∧ Ext w (owned pl H) w (owned pl H') ∧ hlen H' = hlen H ∧
    ∀ u, RV w (owned pl H) pl (hlen H) v u → RV w (owned pl H') pl (hlen H) v' u := by
  unfold hand1 at h
  split at h
  · rename_i r g i n
    split at h
    · rename_i x hx
      simp only [Option.some.injEq, Prod.mk.injEq] at h
      obtain ⟨rfl, rfl⟩ := h
      obtain ⟨h1, h2⟩ := hH.kill r
      refine ⟨rfl, h1, h2, hlen_hset .., fun u hu => .d _ _ (view1_ok hH hx hu h2 fun r' hr' b hb => ?_)⟩
      simp only [refs1, List.mem_singleton] at hr'
      subst hr'
      exact owned_kill hH hb
    · simp at h
  · split at h
    · rename_i hok
      simp only [Option.some.injEq, Prod.mk.injEq] at h
      obtain ⟨rfl, rfl⟩ := h
      exact ⟨hok, hH, Ext.refl _ _, rfl, fun u hu => hu⟩
    · simp at h

theorem hand_ok : ∀ (ags : List (Bool × AOpd)) (os : List Operand) (H : Hp) (vs : List V) (H' : Hp), argsOk ags os = true → HR w pl Bd H → GR G w (owned pl H) → RE w (owned pl H) pl (hlen H) env a →
    hand G env H ags = some (vs, H') → HR w pl Bd H' ∧ Ext w (owned pl H) w (owned pl H') ∧ hlen H' = hlen H ∧ RVs w (owned pl H') pl (hlen H) vs (os.map a.eval).toArray
  | [], [], H, vs, H', _, hH, _, _, h => by
    simp only [hand, Option.some.injEq, Prod.mk.injEq] at h
    obtain ⟨rfl, rfl⟩ := h
    exact ⟨hH, Ext.refl _ _, rfl, rfl, fun i hi => by simp at hi⟩
  | [], _ :: _, _, _, _, hc, _, _, _, _ => by simp [argsOk] at hc
  | (_, _) :: _, [], _, _, _, hc, _, _, _, _ => by simp [argsOk] at hc
  | (k, x) :: ags, o :: os, H, vs, H', hc, hH, hG, hE, h => by
    simp only [argsOk, Bool.and_eq_true] at hc
    rw [hand_cons] at h
    split at h
    · rename_i v H1 h1
      obtain ⟨hok, hH1, E1, hl1, hv⟩ := hand1_ok hH h1
      split at h
      · rename_i vs' H2 h2
        simp only [Option.some.injEq, Prod.mk.injEq] at h
        obtain ⟨rfl, rfl⟩ := h
        obtain ⟨hH2, E2, hl2, hv1, hv2⟩ := hand_ok ags os H1 vs' H2 hc.2 hH1 (hG.mono E1) (by rw [hl1]; exact hE.mono E1 (PlExt.refl _ _) (Nat.le_refl _)) h2
        refine ⟨hH2, E1.trans E2, by omega, by simpa using hv1, fun i hi => ?_⟩
        cases i with
        | zero =>
          have := (hv _ (opd_ok hc.1 hG hE hok)).mono E2 (PlExt.refl _ _) (Nat.le_refl _)
          simpa using this
        | succ i =>
          have := hv2 i (by simpa using hi)
          rw [hl1] at this
          simpa using this
      · simp at h
    · simp at h

theorem frzE_ok : ∀ (ts : List Nat) {e e' : Env} {H H' : Hp}, HR w pl Bd H → RE w (owned pl H) pl (hlen H) e a → frzE ts e H = some (e', H') → HR w pl Bd H' ∧ Ext w (owned pl H) w (owned pl H') ∧ hlen H' = hlen H ∧ RE w (owned pl H') pl (hlen H) e' a
  | [], e, e', H, H', hH, hE, h => by
    simp only [frzE, Option.some.injEq, Prod.mk.injEq] at h
    obtain ⟨rfl, rfl⟩ := h
    exact ⟨hH, Ext.refl _ _, rfl, hE⟩
  | t :: ts, e, e', H, H', hH, hE, h => by
    simp only [frzE] at h
    split at h
    · rename_i v H1 h1
      obtain ⟨hok, hH1, E1, hl1, hv⟩ := hand1_ok hH h1
      have hE1 : RE w (owned pl H1) pl (hlen H1) ((t, v) :: e) a := by
        rw [hl1]
        intro k hk
        simp only [Env.get] at hk ⊢
        cases hb : Nat.beq t k with
        | true =>
          have := Nat.eq_of_beq_eq_true hb
          subst this
          exact hv _ (hE t hok)
        | false =>
          rw [hb] at hk
          exact (hE k hk).mono E1 (PlExt.refl _ _) (Nat.le_refl _)
      obtain ⟨k1, k2, k3, k4⟩ := frzE_ok ts hH1 hE1 h
      rw [hl1] at k3 k4
      exact ⟨k1, E1.trans k2, k3, k4⟩
    · simp at h

theorem owned_take {n r b : Nat} (hH : HR w pl Bd H) (hr : n ≤ r) (hb : blk pl H r = some b) : ¬ owned pl (htake H n) b := by
  rintro ⟨r', hr'⟩
  obtain ⟨o, ho⟩ := blk_lt hr'
  obtain ⟨hlt, ho'⟩ := hget_htake_some ho
  have hb' : blk pl H r' = some b := by
    unfold blk at hr' ⊢
    rwa [hget_htake hlt] at hr'
  have := hH.inj r' r b hb' hb
  omega

theorem fzC_ok (hH : HR w pl Bd H) {n : Nat} (hn : Bd n) {v v' : V} (h : fzC n H v = some v') {u : Value} (hu : RV w (owned pl H) pl (hlen H) v u) : RV w (owned pl (htake H n)) pl n v' u := by
  have E := (hH.take n hn (Bd' := fun _ => False) (fun _ h => h.elim)).2
  have hO : ∀ r, n ≤ r → ∀ b, blk pl H r = some b → ¬ owned pl (htake H n) b := fun r hr b hb => owned_take hH hr hb
  have key : ∀ {x : D}, fz n deep H v = some x → RV w (owned pl (htake H n)) pl n (.d x) u := fun hx => .d _ _ (fz_ok hH E hO deep v _ u hx hu)
  unfold fzC at h
  split at h
  · simp only [Option.some.injEq] at h; subst h
    exact .d _ _ (hu.dd.mono E)
  · split at h
    · rename_i hlt
      simp only [Option.some.injEq] at h; subst h
      cases hu with
      | slc _ _ _ _ b e c _ hp hk => exact .slc _ _ _ _ b e c hlt hp hk
      | slc0 _ _ _ A cap hi _ => exact .slc0 _ _ _ A cap hi hlt
    · split at h
      · rename_i x hx
        simp only [Option.some.injEq] at h; subst h
        exact key hx
      · simp at h
  · split at h
    · rename_i hlt
      simp only [Option.some.injEq] at h; subst h
      cases hu with
      | ptr _ _ _ _ b e c _ hp => exact .ptr _ _ _ _ b e c hlt hp
    · split at h
      · rename_i x hx
        simp only [Option.some.injEq] at h; subst h
        exact key hx
      · simp at h
  · split at h
    · rename_i x hx
      simp only [Option.some.injEq] at h; subst h
      exact key hx
    · simp at h

theorem fzV_ok (hH : HR w pl Bd H) {n : Nat} (hn : Bd n) {v v' : V} (h : fzV n H v = some v') {u : Value} (hu : RV w (owned pl H) pl (hlen H) v u) : RV w (owned pl (htake H n)) pl n v' u := by
  have E := (hH.take n hn (Bd' := fun _ => False) (fun _ h => h.elim)).2
  unfold fzV at h
  split at h
  · simp only [Option.some.injEq] at h; subst h
    exact .d _ _ (hu.dd.mono E)
  · rename_i cs
    split at h
    · rename_i xs hxs
      simp only [Option.some.injEq] at h; subst h
      obtain ⟨h1, h2⟩ := mapO_some (d := V.any) (d' := V.any) hxs
      cases hu with
      | agg _ us hl ho hr => exact RCs.mkAgg ⟨by omega, fun i hi => fzC_ok hH hn (h2 i (by omega)) (hr i (by omega)), fun i hi => ho i (by omega)⟩
    · simp at h
  · exact fzC_ok hH hn h hu

def callee (v : V) : Option (Nat × List V) := match v with | .d (.fn (.func k) caps) => some (k, caps.map V.d) | .fn (.func k) caps => some (k, caps) | _ => none

theorem callee_ok {O : Own} {n : Nat} {v : V} {k : Nat} {caps : List V} (h : callee v = some (k, caps)) {u : Value} (hu : RV w O pl n v u) : v.ok = true ∧ ∃ us, u = .func (.func k) #[] us ∧ RVs w O pl n caps us := by
  unfold callee at h
  split at h
  · simp only [Option.some.injEq, Prod.mk.injEq] at h
    obtain ⟨rfl, rfl⟩ := h
    refine ⟨rfl, ?_⟩
    have := hu.dd
    cases this with
    | fn _ _ us hl hr => exact ⟨us, rfl, by simp [hl], fun i hi => by rw [getD_map_d _ i (by simpa using hi)]; exact .d _ _ (hr i (by simpa using hi))⟩
  · simp only [Option.some.injEq, Prod.mk.injEq] at h
    obtain ⟨rfl, rfl⟩ := h
    refine ⟨rfl, ?_⟩
    cases hu with
    | fn _ _ us hl hr => exact ⟨us, rfl, hl, hr⟩
  · simp at h

theorem callee_known {v : V} {k : Nat} {caps : List V} (h : callee v = some (k, caps)) : v.ok = true := by
  unfold callee at h
  split at h <;> first | rfl | simp at h

theorem run_call {o : Oper} {F : Operand} {A : Array Operand} {ts : Array TypeId} (ho : o.op = .call { callee := .value F, args := A, argTypes := ts }) {k : Nat} {us : Array Value} (hF : a.eval F = .func (.func k) #[] us) (hk : FnOk P k) :
    (execOp a.eval o).run P w = .ok (.enter k (A.map a.eval ++ us)) w := by
  have he := hk.enters (A.map a.eval ++ us) w
  simp only [execOp, ho, resolve, hF, Deferred.ofValue, Sem.run_bind, Sem.run_pure, invoke, Array.empty_append]
  exact he

theorem Fin.from {H1 : Hp} (E : Ext w (owned pl H) w (owned pl H1)) (hl : hlen H1 = hlen H) {v : V} {H' : Hp} {u : Value} {w' : World} {pl' : Pl} (h : Fin w pl Bd H1 v H' u w' pl') : Fin w pl Bd H v H' u w' pl' :=
  ⟨h.hr, h.rv, E.trans h.ext, by rw [← hl]; exact h.ple, by rw [← hl]; exact h.le⟩

theorem sim_call (hcl : CallSound P G cl) (hG : GR G w (owned pl H)) (hH : HR w pl Bd H) (hE : RE w (owned pl H) pl (hlen H) env a) {o : Oper} {F : Operand} {A : Array Operand} {ts : Array TypeId} (ho : o.op = .call { callee := .value F, args := A, argTypes := ts })
    {f : AOpd} {ags : List (Bool × AOpd)} (hf : opdOk f F = true) (ha : argsOk ags A.toList = true) {k : Nat} {caps : List V} (hc : callee (opd G env f) = some (k, caps)) {vs : List V} {H1 : Hp} (hh : hand G env H ags = some (vs, H1))
    {v : V} {H2 : Hp} (hr : cl k (vs ++ caps) H1 = some (v, H2)) : OpSim P o a w pl Bd H v H2 := by
  have hfv := opd_ok hf hG hE (callee_known hc)
  obtain ⟨_, us, hfe, hcaps⟩ := callee_ok hc hfv
  obtain ⟨hH1, E1, hl1, hvs⟩ := hand_ok ags A.toList H vs H1 ha hH hG hE hh
  obtain ⟨hok, hcall⟩ := hcl _ _ _ _ _ hr
  intro next Q hn
  unfold Oper.wp
  rw [run_call ho hfe hok, Oper.upon_enter]
  have hargs : (A.toList.map a.eval).toArray = A.map a.eval := by cases A; simp
  rw [hargs] at hvs
  refine (hcall w pl Bd _ hH1 (hG.mono E1) (by rw [hl1]; exact hvs.append (hcaps.mono E1 (PlExt.refl _ _) (Nat.le_refl _)))).mono fun e w' he => ?_
  obtain ⟨u, pl', rfl, hfin⟩ := he
  exact hn u w' pl' (hfin.from E1 hl1)

theorem sim_callF (hcl : CallSound P G cl) (hG : GR G w (owned pl H)) (hH : HR w pl Bd H) (hE : RE w (owned pl H) pl (hlen H) env a) {o : Oper} {F : Operand} {A : Array Operand} {ts : Array TypeId} (ho : o.op = .call { callee := .value F, args := A, argTypes := ts })
    {f : AOpd} {ags : List (Bool × AOpd)} (hf : opdOk f F = true) (ha : argsOk ags A.toList = true) {k : Nat} {caps : List V} (hc : callee (opd G env f) = some (k, caps)) {vs : List V} {H1 : Hp} (hh : hand G env H ags = some (vs, H1))
    {v v' : V} {H2 : Hp} (hr : cl k (vs ++ caps) H1 = some (v, H2)) (hz : fzV (hlen H1) H2 v = some v') : OpSim P o a w pl Bd H v' (htake H2 (hlen H1)) := by
  have hfv := opd_ok hf hG hE (callee_known hc)
  obtain ⟨_, us, hfe, hcaps⟩ := callee_ok hc hfv
  obtain ⟨hH1, E1, hl1, hvs⟩ := hand_ok ags A.toList H vs H1 ha hH hG hE hh
  obtain ⟨hok, hcall⟩ := hcl _ _ _ _ _ hr
  intro next Q hn
  unfold Oper.wp
  rw [run_call ho hfe hok, Oper.upon_enter]
  have hargs : (A.toList.map a.eval).toArray = A.map a.eval := by cases A; simp
  rw [hargs] at hvs
  refine (hcall w pl _ _ hH1.enter (hG.mono E1) (by rw [hl1]; exact hvs.append (hcaps.mono E1 (PlExt.refl _ _) (Nat.le_refl _)))).mono fun e w' he => ?_
  obtain ⟨u, pl', rfl, hfin⟩ := he
  have hle := hfin.le
  obtain ⟨t1, t2⟩ := hfin.hr.take (hlen H1) (Or.inr rfl) (Bd' := Bd) (fun m hm => ⟨Or.inl hm, by have := hH.le m hm; omega⟩)
  refine hn u w' pl' ⟨t1, ?_, E1.trans (hfin.ext.trans t2), by rw [← hl1]; exact hfin.ple, by rw [hlen_htake hle]; omega⟩
  rw [hlen_htake hle]
  exact fzV_ok hfin.hr (Or.inr rfl) hz hfin.rv

theorem HR.none (w : World) (pl : Pl) : HR w pl (fun _ => False) [] := by
  refine ⟨fun r o h => ?_, fun r r' b h => ?_, fun m h => h.elim, fun m h => h.elim⟩
  · simp [hget] at h
  · simp [blk, hget] at h
theorem owned_none (pl : Pl) (b : Nat) : ¬ owned pl [] b := fun ⟨r, h⟩ => by simp [blk, hget] at h

theorem HR.mono_all {w' : World} (hH : HR w pl Bd H) (E : Ext w (fun _ => False) w' (fun _ => False)) : HR w' pl Bd H ∧ Ext w (owned pl H) w' (owned pl H) := by
  have E' : Ext w (owned pl H) w' (owned pl H) := ⟨E.os, E.tape, E.output, E.size, fun b hb hO => ⟨(E.keep b hb (fun h => h)).1, hO⟩⟩
  refine ⟨⟨fun r o ho => ?_, hH.inj, fun m hm r o hlt ho => ?_, hH.le⟩, E'⟩
  · have hor := hH.obj r o ho
    cases hor with
    | dead => exact .dead
    | row g e xs b c arr ty fr hp hh hs hf hx he hr h1 hg =>
      exact .row g e xs b c arr ty fr hp ((E.keep b (Array.getElem?_eq_some_iff.1 hh).1 (fun h => h)).1.trans hh) hs hf hx he (fun i j hi hj => (hr i j hi hj).mono E' (PlExt.refl _ _) (Nat.le_refl _)) h1 hg
    | map ks vs b e c es clock hp hh hk hv hrk hrv =>
      exact .map ks vs b e c es clock hp ((E.keep b (Array.getElem?_eq_some_iff.1 hh).1 (fun h => h)).1.trans hh) hk hv (fun i hi => (hrk i hi).mono E' (PlExt.refl _ _) (Nat.le_refl _)) (fun i hi => (hrv i hi).mono E' (PlExt.refl _ _) (Nat.le_refl _))
  · have hor := hH.bd m hm r o hlt ho
    cases hor with
    | dead => exact .dead
    | row g e xs b c arr ty fr hp hh hs hf hx he hr h1 hg =>
      exact .row g e xs b c arr ty fr hp ((E.keep b (Array.getElem?_eq_some_iff.1 hh).1 (fun h => h)).1.trans hh) hs hf hx he (fun i j hi hj => (hr i j hi hj).mono E' (PlExt.refl _ _) (Nat.le_refl _)) h1 hg
    | map ks vs b e c es clock hp hh hk hv hrk hrv =>
      exact .map ks vs b e c es clock hp ((E.keep b (Array.getElem?_eq_some_iff.1 hh).1 (fun h => h)).1.trans hh) hk hv (fun i hi => (hrk i hi).mono E' (PlExt.refl _ _) (Nat.le_refl _)) (fun i hi => (hrv i hi).mono E' (PlExt.refl _ _) (Nat.le_refl _))

theorem flat_any {x : D} (h : flatD x = true) {w' : World} {O O' : Own} {u : Value} (hu : RD w O x u) : RD w' O' x u := by
  cases hu <;> simp [flatD] at h
  · exact .bool _
  · exact .int _ _
  · rename_i hs; exact .str _ _ hs

theorem flatV_any {v : V} (h : flatV v = true) {w' : World} {O O' : Own} {pl' : Pl} {n n' : Nat} {u : Value} (hu : RV w O pl n v u) : RV w' O' pl' n' v u := by
  unfold flatV at h
  split at h
  · exact .d _ _ (flat_any h hu.dd)
  · rename_i vs
    cases hu with
    | tup _ us hl hr =>
      refine .tup vs us hl fun i hi => ?_
      have hx := List.all_eq_true.1 h (vs.getD i .any) (by rw [List.getD_eq_getElem?_getD]; simp [hi])
      have hri := hr i hi
      generalize vs.getD i .any = y at hx hri
      cases y <;> simp at hx
      exact .d _ _ (flat_any hx hri.dd)
  · simp at h

theorem pureCall_some {k : Nat} {args : List V} {v : V} (h : pureCall cl k args = some v) (H : Hp) : cl k args H = some (v, H) := by
  unfold pureCall at h
  split at h
  · rename_i hx
    simp only [Option.some.injEq] at h
    subst h
    exact hx.choose_spec H
  · simp at h

theorem isData1_view {w : World} {O : Own} {pl : Pl} {n : Nat} {H : Hp} {y : V} {x : D} {u : Value} (hd : isData1 y = true) (hv : view1 H y = some x) (hr : RV w O pl n y u) : RD w O x u := by
  cases y <;> simp [isData1] at hd
  · simp only [view1, Option.some.injEq] at hv
    subst hv
    exact hr.dd
  · simp only [view1, Option.some.injEq] at hv
    subst hv
    cases hr
    exact .vals0 _ _ _
theorem isData_view {w : World} {O : Own} {pl : Pl} {n : Nat} {H : Hp} {y : V} {x : D} {u : Value} (hd : isData y = true) (hv : view H y = some x) (hr : RV w O pl n y u) : RD w O x u := by
  cases y with
  | d z => exact isData1_view (H := H) (y := .d z) rfl (by simpa [view, view1] using hv) hr
  | nils e => exact isData1_view (H := H) (y := .nils e) rfl (by simpa [view, view1] using hv) hr
  | agg cs =>
    simp only [isData] at hd
    simp only [view] at hv
    split at hv
    · rename_i xs hxs
      simp only [Option.some.injEq] at hv
      subst hv
      obtain ⟨h1, h2⟩ := mapO_some (d := V.any) (d' := D.nilp) hxs
      cases hr with
      | agg _ us hl hone hrr =>
        refine .agg xs us (by omega) (fun i hi => hone i (by omega)) fun i hi => ?_
        have hi' : i < cs.length := by omega
        refine isData1_view ?_ (h2 i hi') (hrr i hi')
        refine List.all_eq_true.1 hd _ ?_
        rw [List.getD_eq_getElem?_getD, List.getElem?_eq_getElem hi', Option.getD_some]
        exact List.getElem_mem _
    · simp at hv
  | tup _ => simp [isData] at hd
  | slc _ _ _ _ => simp [isData] at hd
  | ptr _ _ _ _ => simp [isData] at hd
  | fn _ _ => simp [isData] at hd
  | mref _ => simp [isData] at hd
  | und => simp [isData] at hd
  | any => simp [isData] at hd
theorem sim_pcall (hcl : CallSound P G cl) (hG : GR G w (owned pl H)) (hH : HR w pl Bd H) (hE : RE w (owned pl H) pl (hlen H) env a) {o : Oper} {F : Operand} {A : Array Operand} {ts : Array TypeId} (ho : o.op = .call { callee := .value F, args := A, argTypes := ts })
    {f : AOpd} {ags : List AOpd} (hf : opdOk f F = true) (ha : opdsOk ags A.toList = true) {k : Nat} {dcaps : List D} (hc : opd G env f = .d (.fn (.func k) dcaps)) {ws : List D} (hw : mapO (view H) (ags.map (opd G env)) = some ws)
    {v : V} (hr : pureCall cl k (ws.map .d ++ dcaps.map .d) = some v) (hfl : ((ags.map (opd G env)).all isData || flatV v) = true) : OpSim P o a w pl Bd H v H := by
  have hfv := opd_ok hf hG hE (by rw [hc]; rfl)
  obtain ⟨_, us, hfe, hcaps⟩ := callee_ok (k := k) (caps := dcaps.map .d) (by rw [hc]; rfl) hfv
  obtain ⟨h1, h2⟩ := mapO_some (d := V.any) (d' := D.nilp) hw
  obtain ⟨hlen, hopd⟩ := opds_ok hG hE ags A.toList ha
  have hok := (hcl _ _ _ _ _ (pureCall_some hr [])).1
  intro next Q hn
  unfold Oper.wp
  rw [run_call ho hfe hok, Oper.upon_enter]
  have hview : ∀ i, i < ags.length → ((ags.map (opd G env)).getD i .any).ok = true ∧ view H ((ags.map (opd G env)).getD i .any) = some (ws.getD i .nilp) := by
    intro i hi
    have := h2 i (by simpa using hi)
    refine ⟨?_, this⟩
    revert this
    generalize (ags.map (opd G env)).getD i .any = y
    cases y <;> simp [V.ok, view, view1, fz, deep]
  have hws : ws.length = ags.length := by simpa using h1
  have hA : A.size = ags.length := by simpa using hlen
  have hval : ∀ i, (A.map a.eval).getD i undef = (A.toList.map a.eval).getD i undef := by
    intro i
    simp [List.getD_eq_getElem?_getD]
  have E0 : Ext w (owned pl H) w (fun _ => False) := ⟨rfl, rfl, rfl, Nat.le_refl _, fun b _ _ => ⟨rfl, fun h => h⟩⟩
  rcases Bool.or_eq_true_iff.1 hfl with hd | hflat
  · -- all data: the heap itself
    have hcall := (hcl _ _ _ _ _ (pureCall_some hr H)).2 w pl Bd (A.map a.eval ++ us) hH hG (by
      refine RVs.append ⟨by simp [hws, hA], fun i hi => ?_⟩ hcaps
      have hi' : i < ags.length := by simp at hi; omega
      obtain ⟨k1, k2⟩ := hview i hi'
      rw [getD_map_d ws i (by omega), hval i]
      have hrv := hopd i hi' k1
      have hdd := List.all_eq_true.1 hd ((ags.map (opd G env)).getD i .any) (by
        rw [List.getD_eq_getElem?_getD, List.getElem?_eq_getElem (by simpa using hi'), Option.getD_some]
        exact List.getElem_mem _)
      exact .d _ _ (isData_view hdd k2 hrv))
    refine hcall.mono fun e w' he => ?_
    obtain ⟨u, pl', rfl, hfin⟩ := he
    exact hn u w' pl' hfin
  · -- looked at: no heap
    have hG0 : GR G w (owned pl []) := (hG.mono E0).mono ⟨rfl, rfl, rfl, Nat.le_refl _, fun b _ _ => ⟨rfl, owned_none pl b⟩⟩
    have E1 : Ext w (owned pl H) w (owned pl []) := ⟨rfl, rfl, rfl, Nat.le_refl _, fun b _ _ => ⟨rfl, owned_none pl b⟩⟩
    have hcall := (hcl _ _ _ _ _ (pureCall_some hr [])).2 w pl _ (A.map a.eval ++ us) (HR.none w pl) hG0 (by
      refine RVs.append ⟨by simp [hws, hA], fun i hi => ?_⟩ ⟨hcaps.1, fun i hi => ?_⟩
      · have hi' : i < ags.length := by simp at hi; omega
        obtain ⟨k1, k2⟩ := hview i hi'
        rw [getD_map_d ws i (by omega), hval i]
        exact .d _ _ (view_ok hH k2 (hopd i hi' k1) E1 fun r b _ => owned_none pl b)
      · have hr' := hcaps.2 i hi
        rw [getD_map_d dcaps i (by simpa using hi)] at hr' ⊢
        exact .d _ _ (hr'.dd.mono E1))
    refine hcall.mono fun e w' he => ?_
    obtain ⟨u, pl', rfl, hfin⟩ := he
    obtain ⟨m1, m2⟩ := hH.mono_all (w' := w') ⟨hfin.ext.os, hfin.ext.tape, hfin.ext.output, hfin.ext.size, fun b hb _ => ⟨(hfin.ext.keep b hb (owned_none pl b)).1, fun h => h⟩⟩
    exact hn u w' pl ⟨m1, flatV_any hflat hfin.rv, m2, PlExt.refl _ _, Nat.le_refl _⟩
theorem sim_pcallF (hcl : CallSound P G cl) (hG : GR G w (owned pl H)) (hH : HR w pl Bd H) (hE : RE w (owned pl H) pl (hlen H) env a) {o : Oper} {F : Operand} {A : Array Operand} {ts : Array TypeId} (ho : o.op = .call { callee := .value F, args := A, argTypes := ts })
    {f : AOpd} {ags : List AOpd} (hf : opdOk f F = true) (ha : opdsOk ags A.toList = true) {k : Nat} {dcaps : List D} (hc : opd G env f = .d (.fn (.func k) dcaps)) {ws : List D} (hw : mapO (view H) (ags.map (opd G env)) = some ws)
    {x : V} (hr : pureFCall cl k (ws.map .d ++ dcaps.map .d) = some x) (hd : (ags.map (opd G env)).all isData = true) : OpSim P o a w pl Bd H x H := by
  obtain ⟨v, H2, hr, hz, htk⟩ := pureFCall_some hr H
  have key : OpSim P o a w pl Bd H x (htake H2 (hlen H)) := by
    have hfv := opd_ok hf hG hE (by rw [hc]; rfl)
    obtain ⟨_, us, hfe, hcaps⟩ := callee_ok (k := k) (caps := dcaps.map .d) (by rw [hc]; rfl) hfv
    obtain ⟨h1, h2⟩ := mapO_some (d := V.any) (d' := D.nilp) hw
    obtain ⟨hlen, hopd⟩ := opds_ok hG hE ags A.toList ha
    obtain ⟨hok, hcall⟩ := hcl _ _ _ _ _ hr
    intro next Q hn
    unfold Oper.wp
    rw [run_call ho hfe hok, Oper.upon_enter]
    have hws : ws.length = ags.length := by simpa using h1
    have hA : A.size = ags.length := by simpa using hlen
    have hval : ∀ i, (A.map a.eval).getD i undef = (A.toList.map a.eval).getD i undef := by
      intro i
      simp [List.getD_eq_getElem?_getD]
    refine (hcall w pl _ (A.map a.eval ++ us) hH.enter hG (by
      refine RVs.append ⟨by simp [hws, hA], fun i hi => ?_⟩ hcaps
      have hi' : i < ags.length := by simp at hi; omega
      have k2 := h2 i (by simpa using hi')
      rw [getD_map_d ws i (by omega), hval i]
      have hdd := List.all_eq_true.1 hd ((ags.map (opd G env)).getD i .any) (by
        rw [List.getD_eq_getElem?_getD, List.getElem?_eq_getElem (by simpa using hi'), Option.getD_some]
        exact List.getElem_mem _)
      have hrv := hopd i hi' (by
        revert hdd
        generalize (ags.map (opd G env)).getD i .any = y
        cases y <;> simp [isData, V.ok])
      exact .d _ _ (isData_view hdd k2 hrv))).mono fun e w' he => ?_
    obtain ⟨u, pl', rfl, hfin⟩ := he
    have hle := hfin.le
    obtain ⟨t1, t2⟩ := hfin.hr.take (Ev.hlen H) (Or.inr rfl) (Bd' := Bd) (fun m hm => ⟨Or.inl hm, by have := hH.le m hm; omega⟩)
    refine hn u w' pl' ⟨t1, ?_, hfin.ext.trans t2, hfin.ple, by rw [hlen_htake hle]; omega⟩
    rw [hlen_htake hle]
    exact fzV_ok hfin.hr (Or.inr rfl) hz hfin.rv
  rw [htk] at key
  exact key
end
end Go.Ev
/- One operation of compact code does what the model's operation does. -/
namespace Go.Ev
open Go
set_option linter.unusedSimpArgs false
set_option linter.unusedVariables false

section
variable {P : Program} {cl : Callf} {G : Glob} {w : World} {pl : Pl} {Bd : Nat → Prop} {H : Hp} {env : Env} {a : Act}

theorem src_ok {v : V} {r : Nat × List V × Bool} (h : src H v = some r) : v.ok = true := by
  unfold src at h
  split at h <;> first | rfl | simp at h

theorem allD_ok {cs : List AOpd} {xs : List D} (h : allD (cs.map (opd G env)) = some xs) : ∀ c ∈ cs, (opd G env c).ok = true := by
  intro c hc
  have := allD_some h
  have hm : opd G env c ∈ cs.map (opd G env) := List.mem_map.2 ⟨c, hc, rfl⟩
  rw [this] at hm
  obtain ⟨d, _, hd⟩ := List.mem_map.1 hm
  rw [← hd]; rfl

theorem litV_rvs {O : Own} {m : Nat} : ∀ (vs : List V) (ps : List (Nat × Operand)) (k : Nat) (qs : List AOpd), litOk k qs ps = true → vs.length = ps.length →
    (∀ i, i < vs.length → RV w O pl m (vs.getD i .any) ((ps.map fun p => a.eval p.2).getD i undef)) → LitV w O pl m a k vs ps
  | [], [], _, _, _, _, _ => trivial
  | [], _ :: _, _, _, _, h, _ => by simp at h
  | _ :: _, [], _, _, _, h, _ => by simp at h
  | v :: vs, (i, y) :: ps, k, [], h, _, _ => by simp [litOk] at h
  | v :: vs, (i, y) :: ps, k, x :: qs, h, hl, hr => by
    simp only [litOk, Bool.and_eq_true] at h
    obtain ⟨⟨h1, h2⟩, h3⟩ := h
    exact ⟨Nat.eq_of_beq_eq_true h1, by simpa using hr 0 (by simp), litV_rvs vs ps (k + 1) qs h3 (by simpa using hl) fun i hi => by simpa using hr (i + 1) (by simpa using hi)⟩
theorem litOk_args : ∀ (qs : List AOpd) (ps : List (Nat × Operand)) (k : Nat), litOk k qs ps = true → argsOk (qs.map fun x => (true, x)) (ps.map fun p => p.2) = true ∧ qs.length = ps.length
  | [], [], _, _ => ⟨rfl, rfl⟩
  | [], _ :: _, _, h => by simp [litOk] at h
  | _ :: _, [], _, h => by simp [litOk] at h
  | x :: qs, (i, y) :: ps, k, h => by
    simp only [litOk, Bool.and_eq_true] at h
    obtain ⟨h1, h2⟩ := litOk_args qs ps (k + 1) h.2
    refine ⟨?_, by simp [h2]⟩
    simp only [List.map_cons, argsOk, Bool.and_eq_true]
    exact ⟨h.1.2, h1⟩
theorem sim_litf (hG : GR G w (owned pl H)) (hH : HR w pl Bd H) (hE : RE w (owned pl H) pl (hlen H) env a) {o : Oper} {t n : Nat} {ps : Array (Nat × Operand)} (ho : o.op = .buildSlice t n ps) {e : Nat} {qs : List AOpd}
    (hc : (match sliceOf P t with | some el => szIs P el e && hasZero P el e | none => false) = true) (hlit : litOk 0 qs ps.toList = true) (hn : n = qs.length) (hbig : n * e ≤ 16777216) (he : 0 < e)
    {vs : List V} {H1 : Hp} (hh : hand G env H (qs.map fun x => (true, x)) = some (vs, H1)) (hall : ∀ x ∈ vs, x.sto = true ∧ x.cells.length = e) {xs : List D} (hxs : allD vs = some xs) : OpSim P o a w pl Bd H (.d (.vals e xs)) H1 := by
  obtain ⟨ha, hql⟩ := litOk_args qs ps.toList 0 hlit
  obtain ⟨hH1, E1, hl1, hv1, hv2⟩ := hand_ok _ _ H vs H1 ha hH hG hE hh
  have hvl : vs.length = ps.toList.length := by simpa using hv1.symm
  have lv : LitV w (owned pl H1) pl (hlen H1) a 0 vs ps.toList := litV_rvs vs ps.toList 0 qs hlit hvl fun i hi => by
    have := hv2 i hi
    rw [hl1]
    have e1 : ((ps.toList.map fun p => p.2).map a.eval).toArray.getD i undef = (ps.toList.map fun p => a.eval p.2).getD i undef := by
      rw [List.map_map]
      simp [List.getD_eq_getElem?_getD]
      rfl
    rw [e1] at this
    exact this
  have key := sim_litV hH1 ho (qs := vs) hc lv (by rw [hvl, hn, hql]) hbig he hall (.inr ⟨xs, hxs, rfl, rfl⟩)
  intro next Q hnx
  exact key next Q fun u w' pl' hf => hnx u w' pl' (hf.from E1 hl1)
theorem evOp_sound (hcl : CallSound P G cl) {B : Bn} (hn0 : BdOk Bd B) (hG : GR G w (owned pl H)) (hH : HR w pl Bd H) (hE : RE w (owned pl H) pl (hlen H) env a) {o : Oper} {x : AOp} (hc : chkOp P o.op x = true)
    {v : V} {H' : Hp} (h : evOp cl G B env H x = some (v, H')) : OpSim P o a w pl Bd H v H' := by
  generalize ho : o.op = op at hc
  unfold chkOp at hc
  split at hc
  · -- move
    simp only [evOp] at h
    split at h
    · rename_i hk
      simp only [Option.some.injEq, Prod.mk.injEq] at h; obtain ⟨rfl, rfl⟩ := h
      exact sim_mv hG hH hE (.inl ho) hc hk
    · simp at h
  · -- assign
    simp only [evOp] at h
    split at h
    · rename_i hk
      simp only [Option.some.injEq, Prod.mk.injEq] at h; obtain ⟨rfl, rfl⟩ := h
      exact sim_mv hG hH hE (.inr ho) hc hk
    · simp at h
  · -- pick
    simp only [Bool.and_eq_true] at hc
    simp only [evOp] at h
    split at h
    · rename_i t ht
      split at h
      · rename_i hk
        simp only [Option.some.injEq, Prod.mk.injEq] at h; obtain ⟨rfl, rfl⟩ := h
        exact sim_pick hG hH hE ho hc.1.1 hc.1.2 hc.2 ht hk
      · simp at h
    · simp at h
  · -- alloc
    simp only [evOp] at h
    split at h
    · rename_i hk
      simp only [Option.some.injEq, Prod.mk.injEq] at h; obtain ⟨rfl, rfl⟩ := h
      exact sim_alloc hH ho hc hk
    · simp at h
  · -- box
    simp only [evOp] at h
    split at h
    · rename_i hk
      simp only [Option.some.injEq, Prod.mk.injEq] at h; obtain ⟨rfl, rfl⟩ := h
      exact sim_box hG hH hE ho hc hk
    · simp at h
  · -- build
    rw [Bool.and_eq_true] at hc
    simp only [evOp] at h
    split at h
    · rename_i cs hcs
      simp only [Option.some.injEq, Prod.mk.injEq] at h; obtain ⟨rfl, rfl⟩ := h
      exact sim_build hG hH hE ho hc.1 hc.2 hcs
    · simp at h
  · -- buildSlice
    simp only [Bool.and_eq_true, decide_eq_true_eq] at hc
    obtain ⟨⟨⟨⟨h1, h2⟩, h3⟩, h4⟩, h5⟩ := hc
    have h3 := Nat.eq_of_beq_eq_true h3
    simp only [evOp] at h
    split at h
    · rename_i hall
      have hall' : ∀ x ∈ _, (opd G env x).sto = true ∧ (opd G env x).cells.length = _ := fun x hx => by
        have := List.all_eq_true.1 hall (opd G env x) (List.mem_map.2 ⟨x, hx, rfl⟩)
        rw [Bool.and_eq_true] at this
        exact ⟨this.2, Nat.eq_of_beq_eq_true this.1⟩
      split at h
      · simp only [Option.some.injEq, Prod.mk.injEq, List.length_map] at h; obtain ⟨rfl, rfl⟩ := h
        exact sim_lit hG hH hE ho h1 h2 h3 h4 h5 hall' (.inl ⟨rfl, rfl⟩)
      · split at h
        · rename_i xs hxs
          simp only [Option.some.injEq, Prod.mk.injEq] at h; obtain ⟨rfl, rfl⟩ := h
          exact sim_lit hG hH hE ho h1 h2 h3 h4 h5 hall' (.inr ⟨xs, hxs, rfl, rfl⟩)
        · simp at h
    · simp at h
  · -- literal, its parts handed over
    simp only [Bool.and_eq_true, decide_eq_true_eq] at hc
    obtain ⟨⟨⟨⟨h1, h2⟩, h3⟩, h4⟩, h5⟩ := hc
    have h3 := Nat.eq_of_beq_eq_true h3
    simp only [evOp] at h
    split at h
    · rename_i vs H1 hh
      split at h
      · rename_i hall
        have hall' : ∀ x ∈ vs, x.sto = true ∧ x.cells.length = _ := fun x hx => by
          have := List.all_eq_true.1 hall x hx
          rw [Bool.and_eq_true] at this
          exact ⟨this.2, Nat.eq_of_beq_eq_true this.1⟩
        split at h
        · rename_i xs hxs
          simp only [Option.some.injEq, Prod.mk.injEq] at h; obtain ⟨rfl, rfl⟩ := h
          exact sim_litf hG hH hE ho h1 h2 h3 h4 h5 hh hall' hxs
        · simp at h
      · simp at h
    · simp at h
  · -- load
    simp only [Bool.and_eq_true] at hc
    simp only [evOp] at h
    split at h
    · rename_i r g i j hp
      split at h
      · rename_i cs hcs
        split at h
        · rename_i v' hv
          simp only [Option.some.injEq, Prod.mk.injEq] at h; obtain ⟨rfl, rfl⟩ := h
          exact sim_load hG hH hE ho hc.1.1 hc.1.2 hc.2 hp hcs hv
        · simp at h
      · simp at h
    · rename_i cs hp
      split at h
      · rename_i hl
        split at h
        · rename_i v' hv
          simp only [Option.some.injEq, Prod.mk.injEq] at h; obtain ⟨rfl, rfl⟩ := h
          exact sim_loadR hG hH hE ho hc.1.1 hc.1.2 hc.2 hp hl hv
        · simp at h
      · simp at h
    · simp at h
  · -- store
    simp only [Bool.and_eq_true] at hc
    simp only [evOp] at h
    split at h
    · rename_i r g i j hp
      split at h
      · rename_i hk
        split at h
        · rename_i H1 hs
          simp only [Option.some.injEq, Prod.mk.injEq] at h; obtain ⟨rfl, rfl⟩ := h
          exact sim_store hn0 hG hH hE ho hc.1.1 hc.1.2 hc.2 hp hk.1 hk.2.1 hk.2.2 hs
        · simp at h
      · simp at h
    · simp at h
  · -- nilCheck
    simp only [evOp] at h
    split at h
    · rename_i hp
      simp only [Option.some.injEq, Prod.mk.injEq] at h; obtain ⟨rfl, rfl⟩ := h
      exact sim_nilck hG hH hE ho hc hp (.inl ⟨_, _, _, _, rfl⟩)
    · rename_i hp
      simp only [Option.some.injEq, Prod.mk.injEq] at h; obtain ⟨rfl, rfl⟩ := h
      exact sim_nilck hG hH hE ho hc hp (.inr (.inl ⟨_, rfl⟩))
    · rename_i hp
      simp only [Option.some.injEq, Prod.mk.injEq] at h; obtain ⟨rfl, rfl⟩ := h
      exact sim_nilck hG hH hE ho hc hp (.inr (.inr (.inl ⟨_, _, rfl⟩)))
    · rename_i hp
      simp only [Option.some.injEq, Prod.mk.injEq] at h; obtain ⟨rfl, rfl⟩ := h
      exact sim_nilck hG hH hE ho hc hp (.inr (.inr (.inr ⟨_, _, rfl⟩)))
    · simp at h
  · -- binOp
    simp only [Bool.and_eq_true, decide_eq_true_eq] at hc
    obtain ⟨⟨⟨rfl, h2⟩, h3⟩, h4⟩ := hc
    simp only [evOp] at h
    split at h
    · rename_i p q hp hq
      split at h
      · rename_i z hz
        simp only [Option.some.injEq, Prod.mk.injEq] at h; obtain ⟨rfl, rfl⟩ := h
        exact sim_bin hG hH hE ho h2 h3 h4 hp hq hz
      · simp at h
    · simp at h
  · -- unOp
    simp only [Bool.and_eq_true, decide_eq_true_eq] at hc
    obtain ⟨rfl, h2⟩ := hc
    simp only [evOp] at h
    split at h
    · rename_i p hp
      split at h
      · rename_i z hz
        simp only [Option.some.injEq, Prod.mk.injEq] at h; obtain ⟨rfl, rfl⟩ := h
        exact sim_un hG hH hE ho h2 hp hz
      · simp at h
    · simp at h
  · -- cvInt
    simp only [Bool.and_eq_true] at hc
    simp only [evOp] at h
    split at h
    · rename_i hp
      simp only [Option.some.injEq, Prod.mk.injEq] at h; obtain ⟨rfl, rfl⟩ := h
      exact sim_cvInt hG hH hE ho hc.1.1 hp hc.1.2 hc.2
    · simp at h
  · -- cvId
    simp only [Bool.and_eq_true] at hc
    simp only [evOp] at h
    split at h
    · rename_i hp
      simp only [Option.some.injEq, Prod.mk.injEq] at h; obtain ⟨rfl, rfl⟩ := h
      exact sim_cvId hG hH hE ho hc.1.1 hp hc.1.2 hc.2
    · simp at h
  · -- cvStr
    rw [Bool.and_eq_true, Bool.and_eq_true] at hc
    simp only [evOp] at h
    split at h
    · rename_i e vs dat hsrc
      split at h
      · rename_i s hs
        split at h
        · rename_i he
          subst he
          simp only [Option.some.injEq, Prod.mk.injEq] at h; obtain ⟨rfl, rfl⟩ := h
          exact sim_cvStr hG hH hE ho hc.1.1 (src_ok hsrc) hc.1.2 hc.2 hsrc hs
        · simp at h
      · simp at h
    · simp at h
  · -- makeFunc
    simp only [Bool.and_eq_true, decide_eq_true_eq] at hc
    obtain ⟨⟨rfl, h2⟩, h3⟩ := hc
    have h2 := Nat.eq_of_beq_eq_true h2
    simp only [evOp] at h
    split at h
    · rename_i xs hxs
      simp only [Option.some.injEq, Prod.mk.injEq] at h; obtain ⟨rfl, rfl⟩ := h
      exact sim_mkfn hG hH hE ho h2 h3 (allD_ok hxs) (.inl ⟨xs, hxs, rfl⟩)
    · split at h
      · rename_i hall
        simp only [Option.some.injEq, Prod.mk.injEq] at h; obtain ⟨rfl, rfl⟩ := h
        exact sim_mkfn hG hH hE ho h2 h3 (fun c hc => List.all_eq_true.1 hall _ (List.mem_map.2 ⟨c, hc, rfl⟩)) (.inr rfl)
      · simp at h
  · -- makeMap
    simp only [evOp, Option.some.injEq, Prod.mk.injEq] at h; obtain ⟨rfl, rfl⟩ := h
    exact sim_mkmap hH hc ho
  · -- insert
    rw [Bool.and_eq_true, Bool.and_eq_true, Bool.and_eq_true] at hc
    simp only [evOp] at h
    split at h
    · rename_i r kd hm hk
      split at h
      · rename_i ks vs hrow
        split at h
        · rename_i kds hkd
          split at h
          · rename_i hl
            split at h
            · rename_i hok
              simp only [Option.some.injEq, Prod.mk.injEq] at h; obtain ⟨rfl, rfl⟩ := h
              exact sim_insert hn0 hG hH hE (.inl ho) hc.1.1.1 hc.1.1.2 hc.1.2 hc.2 hm hk hok.1 hrow hkd hl hok.2
            · simp at h
          · simp at h
        · simp at h
      · simp at h
    · simp at h
  · -- mapUpdate
    rw [Bool.and_eq_true, Bool.and_eq_true, Bool.and_eq_true] at hc
    simp only [evOp] at h
    split at h
    · rename_i r kd hm hk
      split at h
      · rename_i ks vs hrow
        split at h
        · rename_i kds hkd
          split at h
          · rename_i hl
            split at h
            · rename_i hok
              simp only [Option.some.injEq, Prod.mk.injEq] at h; obtain ⟨rfl, rfl⟩ := h
              exact sim_insert hn0 hG hH hE (.inr ho) hc.1.1.1 hc.1.1.2 hc.1.2 hc.2 hm hk hok.1 hrow hkd hl hok.2
            · simp at h
          · simp at h
        · simp at h
      · simp at h
    · simp at h
  · -- lookup
    rw [Bool.and_eq_true, Bool.and_eq_true, Bool.and_eq_true, decide_eq_true_eq] at hc
    obtain ⟨⟨⟨rfl, h2⟩, h3⟩, h4⟩ := hc
    simp only [evOp] at h
    split at h
    · rename_i ks vs kd hm hk
      split at h
      · rename_i hl
        simp only [Option.some.injEq, Prod.mk.injEq] at h; obtain ⟨rfl, rfl⟩ := h
        exact sim_lookup hG hH hE ho h2 h3 h4 hm hk hl (.inl ⟨_, rfl, rfl⟩)
      · rename_i hl
        simp only [Option.some.injEq, Prod.mk.injEq] at h; obtain ⟨rfl, rfl⟩ := h
        exact sim_lookup hG hH hE ho h2 h3 h4 hm hk hl (.inr ⟨rfl, rfl⟩)
      · simp at h
    · simp at h
  · -- makeSlice
    rw [Bool.and_eq_true, Bool.and_eq_true] at hc
    simp only [evOp] at h
    split at h
    · rename_i n c hl hcp
      split at h
      · rename_i hk
        obtain ⟨h0, rfl, h2, h3, h4⟩ := hk
        simp only [Option.some.injEq, Prod.mk.injEq] at h; obtain ⟨rfl, rfl⟩ := h
        exact sim_mkslice hG hH hE ho hc.1.1 hc.1.2 hc.2 hl hcp h0 h2 h3 h4
      · simp at h
    · simp at h
  · -- slice
    rw [Bool.and_eq_true, Bool.and_eq_true, Bool.and_eq_true] at hc
    obtain ⟨⟨⟨h1, h2⟩, h3⟩, h4⟩ := hc
    simp only [evOp] at h
    split at h
    · rename_i s hp
      split at h
      · rename_i hi hhi
        split at h
        · rename_i l hl
          simp only [Option.some.injEq, Prod.mk.injEq] at h; obtain ⟨rfl, rfl⟩ := h
          exact sim_sliceStr hG hH hE ho h1 h2 h3 h4 hp hhi hl
        · simp at h
      · simp at h
    · rename_i e e' xs hp
      split at h
      · rename_i hi hhi
        split at h
        · rename_i l hl
          split at h
          · rename_i he
            subst he
            simp only [Option.some.injEq, Prod.mk.injEq] at h; obtain ⟨rfl, rfl⟩ := h
            exact sim_sliceVals hG hH hE ho h1 h2 h3 h4 hp hhi hl
          · simp at h
        · simp at h
      · simp at h
    · rename_i e r g i n hp
      split at h
      · rename_i e' xs hrow
        split at h
        · rename_i hi hhi
          split at h
          · rename_i l hl
            split at h
            · rename_i he
              subst he
              simp only [Option.some.injEq, Prod.mk.injEq] at h; obtain ⟨rfl, rfl⟩ := h
              exact sim_sliceSlc hG hH hE ho h1 h2 h3 h4 hp hrow hhi hl
            · simp at h
          · simp at h
        · simp at h
      · simp at h
    · simp at h
  · -- fieldAddr
    rw [Bool.and_eq_true] at hc
    simp only [evOp] at h
    split at h
    · rename_i hp
      simp only [Option.some.injEq, Prod.mk.injEq] at h; obtain ⟨rfl, rfl⟩ := h
      exact sim_faddr hG hH hE ho hc.1 hc.2 hp
    · rename_i hp
      split at h
      · simp only [Option.some.injEq, Prod.mk.injEq] at h; obtain ⟨rfl, rfl⟩ := h
        exact sim_faddrR hG hH hE ho hc.1 hc.2 hp
      · simp at h
    · simp at h
  · -- field
    rw [Bool.and_eq_true] at hc
    simp only [evOp] at h
    split at h
    · rename_i hl
      split at h
      · rename_i hv
        simp only [Option.some.injEq, Prod.mk.injEq] at h; obtain ⟨rfl, rfl⟩ := h
        exact sim_field hG hH hE ho hc.1 hc.2 hl.1 hl.2 hv
      · simp at h
    · simp at h
  · -- indexAddr
    rw [Bool.and_eq_true, Bool.and_eq_true] at hc
    simp only [evOp] at h
    split at h
    · rename_i k hk
      split at h
      · rename_i e' xs hp
        split at h
        · rename_i hb
          obtain ⟨h0, h1, rfl⟩ := hb
          simp only [Option.some.injEq, Prod.mk.injEq] at h; obtain ⟨rfl, rfl⟩ := h
          exact sim_iaddrD hG hH hE ho hc.1.1 hc.1.2 hc.2 hk hp h0 h1
        · simp at h
      · rename_i r g j n hp
        split at h
        · rename_i hb
          split at h
          · rename_i e' xs hrow
            split at h
            · rename_i he
              subst he
              simp only [Option.some.injEq, Prod.mk.injEq] at h; obtain ⟨rfl, rfl⟩ := h
              exact sim_iaddrS hG hH hE ho hc.1.1 hc.1.2 hc.2 hk hp hb.1 hb.2 hrow
            · simp at h
          · simp at h
        · simp at h
      · simp at h
    · simp at h
  · -- index
    simp only [Bool.and_eq_true] at hc
    simp only [evOp] at h
    split at h
    · rename_i s k hp hk
      split at h
      · rename_i hb
        simp only [Option.some.injEq, Prod.mk.injEq] at h; obtain ⟨rfl, rfl⟩ := h
        exact sim_idx hG hH hE ho hc.1.1 hc.1.2 hc.2 hp hk hb.1 hb.2
      · simp at h
    · simp at h
  · -- extract
    simp only [Bool.and_eq_true] at hc
    have hi := Nat.eq_of_beq_eq_true hc.2
    subst hi
    simp only [evOp] at h
    split at h
    · rename_i vs hp
      split at h
      · rename_i hv
        simp only [Option.some.injEq, Prod.mk.injEq] at h; obtain ⟨rfl, rfl⟩ := h
        exact sim_extract hG hH hE ho hc.1 hp hv
      · simp at h
    · simp at h
  · -- makeInterface
    simp only [Bool.and_eq_true] at hc
    have hi := Nat.eq_of_beq_eq_true hc.1.1
    subst hi
    simp only [evOp] at h
    split at h
    · rename_i hp
      simp only [Option.some.injEq, Prod.mk.injEq] at h; obtain ⟨rfl, rfl⟩ := h
      exact sim_mkiface hG hH hE ho hc.1.2 hp hc.2
    · simp at h
  · -- call
    rw [Bool.and_eq_true] at hc
    simp only [evOp] at h
    split at h
    · rename_i k caps hk
      split at h
      · rename_i vs H1 hh
        split at h
        · rename_i v' H2 hr
          split at h
          · simp only [Option.some.injEq, Prod.mk.injEq] at h; obtain ⟨rfl, rfl⟩ := h
            exact sim_call hcl hG hH hE ho hc.1 hc.2 hk hh hr
          · split at h
            · rename_i hz
              simp only [Option.some.injEq, Prod.mk.injEq] at h; obtain ⟨rfl, rfl⟩ := h
              exact sim_callF hcl hG hH hE ho hc.1 hc.2 hk hh hr hz
            · simp at h
        · simp at h
      · simp at h
    · simp at h
  · -- pcall
    rename_i F A ts f' ags'
    rw [Bool.and_eq_true] at hc
    simp only [evOp] at h
    split at h
    · rename_i k caps hk
      split at h
      · rename_i ws hw
        split at h
        · rename_i v' hr
          split at h
          · rename_i hfl
            simp only [Option.some.injEq, Prod.mk.injEq] at h; obtain ⟨rfl, rfl⟩ := h
            have hk' : ∃ dc, opd G env f' = .d (.fn (.func k) dc) ∧ caps = dc.map .d := by
              split at hk
              · rename_i he
                simp only [Option.some.injEq, Prod.mk.injEq] at hk
                obtain ⟨rfl, rfl⟩ := hk
                exact ⟨_, he, rfl⟩
              · simp at hk
            obtain ⟨dc, hdc, rfl⟩ := hk'
            exact sim_pcall hcl hG hH hE ho hc.1 hc.2 hdc hw hr hfl
          · simp at h
        · split at h
          · rename_i v' hr
            split at h
            · rename_i hfl
              simp only [Option.some.injEq, Prod.mk.injEq] at h; obtain ⟨rfl, rfl⟩ := h
              have hk' : ∃ dc, opd G env f' = .d (.fn (.func k) dc) ∧ caps = dc.map .d := by
                split at hk
                · rename_i he
                  simp only [Option.some.injEq, Prod.mk.injEq] at hk
                  obtain ⟨rfl, rfl⟩ := hk
                  exact ⟨_, he, rfl⟩
                · simp at hk
              obtain ⟨dc, hdc, rfl⟩ := hk'
              exact sim_pcallF hcl hG hH hE ho hc.1 hc.2 hdc hw hr hfl
            · simp at h
          · simp at h
      · simp at h
    · simp at h
  · -- len
    split at hc
    · rename_i y t has hts
      rw [Bool.and_eq_true] at hc
      simp only [evOp] at h
      split at h
      · rename_i s hp
        simp only [Option.some.injEq, Prod.mk.injEq] at h; obtain ⟨rfl, rfl⟩ := h
        exact sim_len hG hH hE ho has hts hc.1 (.inl ⟨hc.2, s, hp, rfl⟩)
      · rename_i e xs hp
        simp only [Option.some.injEq, Prod.mk.injEq] at h; obtain ⟨rfl, rfl⟩ := h
        exact sim_len hG hH hE ho has hts hc.1 (.inr ⟨hc.2, .inl ⟨e, xs, hp, rfl⟩⟩)
      · rename_i e hp
        simp only [Option.some.injEq, Prod.mk.injEq] at h; obtain ⟨rfl, rfl⟩ := h
        exact sim_len (n := 0) hG hH hE ho has hts hc.1 (.inr ⟨hc.2, .inr (.inl ⟨e, hp, rfl⟩)⟩)
      · rename_i r g i n hp
        simp only [Option.some.injEq, Prod.mk.injEq] at h; obtain ⟨rfl, rfl⟩ := h
        exact sim_len hG hH hE ho has hts hc.1 (.inr ⟨hc.2, .inr (.inr ⟨r, g, i, hp⟩)⟩)
      · simp at h
    · simp at hc
  · -- append
    split at hc
    · rename_i S X t t' has hts
      rw [Bool.and_eq_true, Bool.and_eq_true, Bool.and_eq_true, Bool.and_eq_true, Bool.and_eq_true, decide_eq_true_eq, decide_eq_true_eq] at hc
      obtain ⟨⟨⟨⟨⟨h1, h2⟩, h3⟩, h4⟩, h5⟩, h6⟩ := hc
      have h1 := Nat.eq_of_beq_eq_true h1
      subst h1
      simp only [evOp] at h
      split at h
      · rename_i ey ys dat hsrc
        split at h
        · rename_i e1 hse
          split at h
          · split at h
            · rename_i he
              subst he
              simp only [Option.some.injEq, Prod.mk.injEq] at h; obtain ⟨rfl, rfl⟩ := h
              exact sim_appendNil hG hH hE ho has hts h2 h3 h4 h6 hse (src_ok hsrc) hsrc (.inl ⟨rfl, rfl, rfl⟩)
            · simp at h
          · split at h
            · rename_i he
              obtain ⟨he1, rfl, he3⟩ := he
              simp only [Option.some.injEq, Prod.mk.injEq] at h; obtain ⟨rfl, rfl⟩ := h
              exact sim_appendNil hG hH hE ho has hts h2 h3 h4 h6 hse (src_ok hsrc) hsrc (.inr ⟨he1, by simp, he3, rfl, rfl⟩)
            · simp at h
        · rename_i r g i n hse
          split at h
          · rename_i e' xs hrow
            split at h
            · rename_i hk
              obtain ⟨rfl, rfl, k3, k4⟩ := hk
              split at h
              · rename_i hn
                split at h
                · rename_i hroom
                  simp only [Option.some.injEq, Prod.mk.injEq] at h; obtain ⟨rfl, rfl⟩ := h
                  exact sim_append hn0 hG hH hE ho has hts h2 h3 h4 h6 hse hrow (src_ok hsrc) hsrc k4 (.inl ⟨by omega, by omega, hroom, rfl, by rw [hn, List.take_length]⟩)
                · simp at h
              · split at h
                · rename_i hle
                  simp only [Option.some.injEq, Prod.mk.injEq] at h; obtain ⟨rfl, rfl⟩ := h
                  exact sim_append hn0 hG hH hE ho has hts h2 h3 h4 h6 hse hrow (src_ok hsrc) hsrc k4 (.inr ⟨hle, rfl, rfl⟩)
                · split at h
                  · rename_i hroom
                    simp only [Option.some.injEq, Prod.mk.injEq] at h; obtain ⟨rfl, rfl⟩ := h
                    exact sim_append hn0 hG hH hE ho has hts h2 h3 h4 h6 hse hrow (src_ok hsrc) hsrc k4 (.inl ⟨k3, by omega, hroom, rfl, rfl⟩)
                  · simp at h
            · simp at h
          · simp at h
        · simp at h
      · simp at h
    · simp at hc
  · -- max
    simp only [evOp] at h
    rename_i xs
    match xs, hc, h with
    | [], _, h => simp at h
    | [_], _, h => simp at h
    | y :: y2 :: ys, hc, h =>
      simp only [List.map_cons] at h
      split at h
      · rename_i z hz
        simp only [Option.some.injEq, Prod.mk.injEq] at h; obtain ⟨rfl, rfl⟩ := h
        exact sim_mnmx (mx := true) hG hH hE ho hc hz ((mnmxL_ok _ _ _ hz).1 (by simp))
      · simp at h
  · -- min
    simp only [evOp] at h
    rename_i xs
    match xs, hc, h with
    | [], _, h => simp at h
    | [_], _, h => simp at h
    | y :: y2 :: ys, hc, h =>
      simp only [List.map_cons] at h
      split at h
      · rename_i z hz
        simp only [Option.some.injEq, Prod.mk.injEq] at h; obtain ⟨rfl, rfl⟩ := h
        exact sim_mnmx (mx := false) hG hH hE ho hc hz ((mnmxL_ok _ _ _ hz).1 (by simp))
      · simp at h
  · simp at hc
end
end Go.Ev
/- Operations that may change places: what an operation looks at, and what it leaves alone. -/
namespace Go.Ev
open Go
set_option linter.unusedSimpArgs false
set_option linter.unusedVariables false

/-! ### What an operation looks at -/
def optL {α : Type} : Option α → List α
  | some x => [x]
  | none => []
def AOp.opds : AOp → List AOpd
  | .mv x => [x]
  | .pick c a b => [c, a, b]
  | .alloc _ => []
  | .box x => [x]
  | .build _ ps => ps.map (·.2.2)
  | .lit _ _ ps => ps
  | .litf _ ps => ps
  | .load _ _ a => [a]
  | .store _ a x => [a, x]
  | .nilck x => [x]
  | .bin _ _ x y => [x, y]
  | .un _ x => [x]
  | .cvInt _ x => [x]
  | .cvId x => [x]
  | .cvStr x => [x]
  | .mkfn _ cs => cs
  | .mkmap => []
  | .insert m k v => [m, k, v]
  | .lookup _ m k _ => [m, k]
  | .mkslice _ _ _ l c => [l, c]
  | .slice _ x lo hi => x :: (optL lo ++ optL hi)
  | .faddr _ x => [x]
  | .field _ _ _ x => [x]
  | .iaddr _ x i => [x, i]
  | .idx x i => [x, i]
  | .extract x _ => [x]
  | .mkiface _ x => [x]
  | .call f ags _ => f :: ags.map (·.2)
  | .pcall f ags => f :: ags
  | .len _ x => [x]
  | .append _ _ s x => [s, x]
  | .mnmx _ xs => xs

def AOpd.use : AOpd → List Nat
  | .t n => [n]
  | _ => []
def AOper.uses (o : AOper) : List Nat := o.op.opds.flatMap AOpd.use ++ (match o.guard with | some (t, _) => [t] | none => [])

theorem opd_env {G : Glob} {e e' : Env} {x : AOpd} (h : ∀ t ∈ x.use, e.get t = e'.get t) : opd G e x = opd G e' x := by
  cases x <;> simp only [opd]
  exact h _ (by simp [AOpd.use])

section
variable {cl : Callf} {G : Glob} {n0 : Bn} {H : Hp} {e e' : Env}

theorem fills_env : ∀ (qs : List (Nat × Nat × AOpd)) (cs : List V), (∀ x ∈ qs.map (·.2.2), opd G e x = opd G e' x) → fills G e cs qs = fills G e' cs qs
  | [], _, _ => rfl
  | (off, n, x) :: qs, cs, h => by
    have hx := h x (by simp)
    simp only [fills, hx]
    split
    · exact fills_env qs _ fun y hy => h y (by simp at hy ⊢; exact .inr hy)
    · rfl

theorem hand_env : ∀ (ags : List (Bool × AOpd)) (H : Hp), (∀ x ∈ ags.map (·.2), opd G e x = opd G e' x) → hand G e H ags = hand G e' H ags
  | [], _, _ => rfl
  | (k, x) :: ags, H, h => by
    have hx := h x (by simp)
    rw [hand_cons, hand_cons, hx]
    split
    · rw [hand_env ags _ fun y hy => h y (by simp at hy ⊢; exact .inr hy)]
    · rfl

theorem bound_env {d l : Nat} {x : Option AOpd} (h : ∀ y ∈ optL x, opd G e y = opd G e' y) : bound G e d l x = bound G e' d l x := by
  cases x with
  | none => rfl
  | some x => simp only [bound, h x (by simp [optL])]

theorem map_env {xs : List AOpd} (h : ∀ x ∈ xs, opd G e x = opd G e' x) : xs.map (opd G e) = xs.map (opd G e') := List.map_congr_left h

theorem evOp_env {op : AOp} (h : ∀ x ∈ op.opds, opd G e x = opd G e' x) : evOp cl G n0 e H op = evOp cl G n0 e' H op := by
  cases op <;> simp only [AOp.opds, List.mem_cons, List.not_mem_nil, or_false, forall_eq_or_imp, forall_eq, List.mem_append] at h
  case mv x => simp only [evOp, h]
  case pick c a b => simp only [evOp, h]
  case alloc z => rfl
  case box x => simp only [evOp, h]
  case build z ps => simp only [evOp, fills_env ps z h]
  case lit own e ps => simp only [evOp, map_env h]
  case litf en ps =>
    have h2 : hand G e H (ps.map fun x => (true, x)) = hand G e' H (ps.map fun x => (true, x)) := hand_env _ H fun x hx => h x (by simpa using hx)
    simp only [evOp, h2]
  case load ag n a => simp only [evOp, h]
  case store n a x => simp only [evOp, h]
  case nilck x => simp only [evOp, h]
  case bin op ty x y => simp only [evOp, h]
  case un op x => simp only [evOp, h]
  case cvInt k x => simp only [evOp, h]
  case cvId x => simp only [evOp, h]
  case cvStr x => simp only [evOp, h]
  case mkfn f cs => simp only [evOp, map_env h]
  case mkmap => rfl
  case insert m k v => simp only [evOp, h]
  case lookup z m k ok => simp only [evOp, h]
  case mkslice e b z l c => simp only [evOp, h]
  case slice oe x lo hi =>
    have h1 := h.1
    have h2 : ∀ d l, bound G e d l lo = bound G e' d l lo := fun d l => bound_env fun y hy => h.2 y (.inl hy)
    have h3 : ∀ d l, bound G e d l hi = bound G e' d l hi := fun d l => bound_env fun y hy => h.2 y (.inr hy)
    simp only [evOp, h1, h2, h3]
  case faddr off x => simp only [evOp, h]
  case field ag off n x => simp only [evOp, h]
  case iaddr e x i => simp only [evOp, h]
  case idx x i => simp only [evOp, h]
  case extract x i => simp only [evOp, h]
  case mkiface t x => simp only [evOp, h]
  case call f ags fr =>
    have h1 := h.1
    have h2 : hand G e H ags = hand G e' H ags := hand_env ags H h.2
    simp only [evOp, h1, h2]
  case pcall f ags =>
    have h1 := h.1
    have h2 := map_env h.2
    simp only [evOp, h1, h2]
  case len str x => simp only [evOp, h]
  case append el b s x => simp only [evOp, h]
  case mnmx mx xs => simp only [evOp, map_env h]

/-! ### An operation with its guard -/
noncomputable def actOf (cl : Callf) (G : Glob) (n0 : Bn) (o : AOper) (env : Env) (H : Hp) : Option (V × Hp) :=
  match o.guard with
  | none => evOp cl G n0 env H o.op
  | some (t, want) =>
    match env.get t with
    | .d (.bool b) => (bif b == want then evOp cl G n0 env H o.op else some (.und, H))
    | .und => some (.und, H)
    | _ => none

theorem evOper_eq (o : AOper) (st : St) : evOper cl G n0 o st = (match actOf cl G n0 o st.env st.hp with | some (v, H) => some ⟨st.env.put o.dst v, H⟩ | none => none) := by
  obtain ⟨dst, guard, op⟩ := o
  cases guard with
  | none => rfl
  | some p =>
    obtain ⟨t, want⟩ := p
    simp only [evOper, actOf]
    generalize st.env.get t = y
    cases y <;> try rfl
    rename_i x
    cases x <;> try rfl
    rename_i b
    cases hb : (b == want) <;> simp only [cond, hb] <;> rfl

theorem actOf_env {o : AOper} (h : ∀ t ∈ o.uses, e.get t = e'.get t) : actOf cl G n0 o e H = actOf cl G n0 o e' H := by
  have h1 : evOp cl G n0 e H o.op = evOp cl G n0 e' H o.op := evOp_env fun x hx => opd_env fun t ht => h t (by
    simp only [AOper.uses, List.mem_append, List.mem_flatMap]
    exact .inl ⟨x, hx, ht⟩)
  unfold actOf
  split
  · exact h1
  · rename_i t want hg
    rw [h t (by simp [AOper.uses, hg]), h1]

/-! ### Kinds of operations -/
def isPure : AOp → Bool
  | .mv _ | .pick .. | .build .. | .lit false _ _ | .nilck _ | .bin .. | .un .. | .cvInt .. | .cvId _ | .mkfn .. | .lookup .. | .slice none .. | .faddr .. | .field .. | .idx .. | .extract .. | .mkiface .. | .len .. | .mnmx .. => true
  | _ => false
def isRead : AOp → Bool
  | .load .. | .cvStr _ | .slice .. | .iaddr .. | .pcall .. => true
  | _ => false
def isPush : AOp → Bool
  | .alloc _ | .box _ | .lit true _ _ | .mkslice .. | .mkmap => true
  | _ => false

theorem pure_op {op : AOp} (hp : isPure op = true) {v : V} {H1 : Hp} (h : evOp cl G n0 e H op = some (v, H1)) : H1 = H ∧ ∀ H', evOp cl G n0 e H' op = some (v, H') := by
  cases op <;> simp only [isPure, Bool.false_eq_true] at hp
  case lit own en ps =>
    cases own <;> simp only [Bool.false_eq_true] at hp
    simp only [evOp] at h ⊢
    repeat' split at h
    all_goals first | (simp only [reduceCtorEq] at h; done) | (simp only [Option.some.injEq, Prod.mk.injEq] at h; obtain ⟨rfl, rfl⟩ := h; exact ⟨rfl, fun H' => by simp_all⟩)
  case slice oe x lo hi =>
    cases oe <;> simp only [Bool.false_eq_true] at hp
    simp only [evOp] at h ⊢
    repeat' split at h
    all_goals first | (simp only [reduceCtorEq] at h; done) | (simp only [Option.some.injEq, Prod.mk.injEq] at h; obtain ⟨rfl, rfl⟩ := h; exact ⟨rfl, fun H' => by simp_all⟩)
  all_goals
    simp only [evOp] at h ⊢
    repeat' split at h
    all_goals first | (simp only [reduceCtorEq] at h; done) | (simp only [Option.some.injEq, Prod.mk.injEq] at h; obtain ⟨rfl, rfl⟩ := h; exact ⟨rfl, fun H' => by simp_all⟩)

theorem hget_push {r : Nat} {o x : Obj} (h : hget H r = some x) : hget (hpush H o) r = some x := by rw [hget_hpush_lt o (hget_lt h)]; exact h
theorem rowOf_push {r g : Nat} {o : Obj} {x : Nat × List V} (h : rowOf H r g = some x) : rowOf (hpush H o) r g = some x := by
  unfold rowOf at h ⊢
  split at h
  · rename_i hr; rw [hget_push hr]; exact h
  · simp at h
theorem hload_push {r g i j n : Nat} {o : Obj} {cs : List V} (h : hload H r g i j n = some cs) : hload (hpush H o) r g i j n = some cs := by
  unfold hload at h ⊢
  split at h
  · rename_i hr; rw [rowOf_push hr]; exact h
  · simp at h
theorem src_push {v : V} {o : Obj} {x : Nat × List V × Bool} (h : src H v = some x) : src (hpush H o) v = some x := by
  unfold src at h ⊢
  split at h
  · exact h
  · exact h
  · split at h
    · rename_i hr
      simp only [rowOf_push hr]; exact h
    · simp at h
  · simp at h
theorem view1_push {v : V} {o : Obj} {x : D} (h : view1 H v = some x) : view1 (hpush H o) v = some x := by
  unfold view1 at h ⊢
  split at h
  · exact h
  · exact h
  · split at h
    · rename_i hr
      simp only [rowOf_push hr]; exact h
    · simp at h
  · split at h
    · rename_i hr
      simp only [rowOf_push hr]; exact h
    · simp at h
  · simp at h
theorem mapO_mono {α β : Type} {f g : α → Option β} (h : ∀ a b, f a = some b → g a = some b) : ∀ {xs : List α} {ys : List β}, mapO f xs = some ys → mapO g xs = some ys
  | [], _, hx => hx
  | x :: xs, ys, hx => by
    simp only [mapO] at hx ⊢
    split at hx
    · rename_i b hb
      split at hx
      · rename_i bs hbs
        rw [h _ _ hb]
        simp only [mapO_mono h hbs]
        exact hx
      · simp at hx
    · simp at hx
theorem fz_push {n : Nat} {o : Obj} : ∀ (d : Nat) (v : V) (x : D), fz n d H v = some x → fz n d (hpush H o) v = some x
  | 0, v, x, h => by simpa only [fz] using h
  | d + 1, v, x, h => by
    have ih := fz_push (n := n) (o := o) d
    cases v <;> simp only [fz] at h ⊢ <;> try exact h
    · split at h
      · rename_i hx
        simp only [mapO_mono ih hx]; exact h
      · simp at h
    · split at h
      · simp at h
      · rename_i hn
        rw [if_neg hn]
        split at h
        · rename_i hr
          simp only [rowOf_push hr]
          split at h
          · rename_i hi
            rw [if_pos hi]
            split at h
            · rename_i hx
              simp only [mapO_mono ih hx]; exact h
            · simp at h
          · simp at h
        · simp at h
    · split at h
      · simp at h
      · rename_i hn
        rw [if_neg hn]
        split at h
        · rename_i hr
          simp only [rowOf_push hr]
          split at h
          · rename_i hi
            try simp only [hi]
            split at h
            · rename_i hx
              simp only [mapO_mono ih hx]; exact h
            · simp at h
          · simp at h
        · simp at h
    · split at h
      · rename_i hx
        simp only [mapO_mono ih hx]; exact h
      · simp at h
    · split at h
      · simp at h
      · rename_i hn
        rw [if_neg hn]
        split at h
        · rename_i hr
          simp only [hget_push hr]
          split at h
          · rename_i h1 h2
            simp only [mapO_mono ih h1, mapO_mono ih h2]; exact h
          · simp at h
        · simp at h
theorem view1_none_push {n d : Nat} {v : V} {o : Obj} {x : D} (h : view1 H v = none) (hz : fz n (d + 1) H v = some x) : view1 (hpush H o) v = none := by
  cases v <;> simp only [view1] at h ⊢ <;> simp only [fz] at hz <;> try (first | exact h | (simp at h; done))
  · split at hz
    · simp at hz
    · split at hz
      · rename_i hr
        simp only [rowOf_push hr]
        simp only [hr] at h
        exact h
      · simp at hz
  · split at hz
    · simp at hz
    · split at hz
      · rename_i hr
        simp only [rowOf_push hr]
        simp only [hr] at h
        exact h
      · simp at hz
theorem view_push {v : V} {o : Obj} {x : D} (h : view H v = some x) : view (hpush H o) v = some x := by
  unfold view at h ⊢
  split at h
  · split at h
    · rename_i hx
      simp only [mapO_mono (fun _ _ => view1_push) hx]; exact h
    · simp at h
  · split at h
    · rename_i hx
      simp only [mapO_mono (fun _ _ => view1_push) hx]; exact h
    · simp at h
  · split at h
    · rename_i hy
      simp only [view1_push hy]; exact h
    · rename_i hy
      simp only [view1_none_push (d := 7) hy h]
      exact fz_push _ _ _ h

theorem read_op {op : AOp} (hp : isRead op = true) {v : V} {H1 : Hp} (h : evOp cl G n0 e H op = some (v, H1)) : H1 = H ∧ ∀ ob, evOp cl G n0 e (hpush H ob) op = some (v, hpush H ob) := by
  cases op <;> simp only [isRead, Bool.false_eq_true] at hp
  case load ag n a =>
    simp only [evOp] at h ⊢
    split at h
    · split at h
      · rename_i hl
        simp only [hload_push hl]
        split at h
        · simp only [Option.some.injEq, Prod.mk.injEq] at h; obtain ⟨rfl, rfl⟩ := h
          exact ⟨rfl, fun ob => by simp_all⟩
        · simp at h
      · simp at h
    · split at h
      · split at h
        · simp only [Option.some.injEq, Prod.mk.injEq] at h; obtain ⟨rfl, rfl⟩ := h
          exact ⟨rfl, fun ob => by simp_all⟩
        · simp at h
      · simp at h
    · simp at h
  case cvStr x =>
    simp only [evOp] at h ⊢
    split at h
    · rename_i hs
      simp only [src_push hs]
      split at h
      · split at h
        · simp only [Option.some.injEq, Prod.mk.injEq] at h; obtain ⟨rfl, rfl⟩ := h
          exact ⟨rfl, fun ob => by simp_all⟩
        · simp at h
      · simp at h
    · simp at h
  case slice oe x lo hi =>
    simp only [evOp] at h ⊢
    split at h
    · repeat' split at h
      all_goals first | (simp only [reduceCtorEq] at h; done) | (simp only [Option.some.injEq, Prod.mk.injEq] at h; obtain ⟨rfl, rfl⟩ := h; exact ⟨rfl, fun H' => by simp_all⟩)
    · repeat' split at h
      all_goals first | (simp only [reduceCtorEq] at h; done) | (simp only [Option.some.injEq, Prod.mk.injEq] at h; obtain ⟨rfl, rfl⟩ := h; exact ⟨rfl, fun H' => by simp_all⟩)
    · split at h
      · rename_i hr
        simp only [rowOf_push hr]
        repeat' split at h
        all_goals first | (simp only [reduceCtorEq] at h; done) | (simp only [Option.some.injEq, Prod.mk.injEq] at h; obtain ⟨rfl, rfl⟩ := h; exact ⟨rfl, fun H' => by simp_all⟩)
      · simp at h
    · simp at h
  case iaddr el x i =>
    simp only [evOp] at h ⊢
    split at h
    · split at h
      · split at h
        · simp only [Option.some.injEq, Prod.mk.injEq] at h; obtain ⟨rfl, rfl⟩ := h
          exact ⟨rfl, fun ob => by simp_all⟩
        · simp at h
      · split at h
        · split at h
          · rename_i hr
            simp only [rowOf_push hr]
            split at h
            · simp only [Option.some.injEq, Prod.mk.injEq] at h; obtain ⟨rfl, rfl⟩ := h
              exact ⟨rfl, fun ob => by simp_all⟩
            · simp at h
          · simp at h
        · simp at h
      · simp at h
    · simp at h
  case pcall f ags =>
    simp only [evOp] at h ⊢
    split at h
    · split at h
      · rename_i hm
        simp only [mapO_mono (fun _ _ => view_push) hm]
        split at h
        · split at h
          · simp only [Option.some.injEq, Prod.mk.injEq] at h; obtain ⟨rfl, rfl⟩ := h
            exact ⟨rfl, fun ob => by simp_all⟩
          · simp at h
        · split at h
          · split at h
            · simp only [Option.some.injEq, Prod.mk.injEq] at h; obtain ⟨rfl, rfl⟩ := h
              exact ⟨rfl, fun ob => by simp_all⟩
            · simp at h
          · simp at h
      · simp at h
    · simp at h

theorem push_op {op : AOp} (hp : isPush op = true) {v : V} {H1 : Hp} (h : evOp cl G n0 e H op = some (v, H1)) : ∃ ob, H1 = hpush H ob := by
  cases op <;> simp only [isPush, Bool.false_eq_true] at hp
  case lit own en ps =>
    cases own <;> simp only [Bool.false_eq_true] at hp
    simp only [evOp] at h
    split at h
    · simp only [Option.some.injEq, Prod.mk.injEq] at h; exact ⟨_, h.2.symm⟩
    · simp at h
  case mkmap => simp only [evOp, Option.some.injEq, Prod.mk.injEq] at h; exact ⟨_, h.2.symm⟩
  case mkslice en b z l c =>
    simp only [evOp] at h
    split at h
    · split at h
      · simp only [Option.some.injEq, Prod.mk.injEq] at h; exact ⟨_, h.2.symm⟩
      · simp at h
    · simp at h
  all_goals
    simp only [evOp] at h
    split at h
    · simp only [Option.some.injEq, Prod.mk.injEq] at h; exact ⟨_, h.2.symm⟩
    · simp at h
end
end Go.Ev
/- Operations of one step: with guards, one after another, and in any order that the program's rules leave open. -/
namespace Go.Ev
open Go
set_option linter.unusedSimpArgs false
set_option linter.unusedVariables false

def EqEnv (e e' : Env) : Prop := ∀ t, e.get t = e'.get t
def EqSt (s s' : St) : Prop := s.hp = s'.hp ∧ EqEnv s.env s'.env
theorem EqSt.refl (s : St) : EqSt s s := ⟨rfl, fun _ => rfl⟩
theorem EqSt.trans {s s1 s2 : St} (h : EqSt s s1) (k : EqSt s1 s2) : EqSt s s2 := ⟨h.1.trans k.1, fun t => (h.2 t).trans (k.2 t)⟩
theorem EqSt.symm {s s1 : St} (h : EqSt s s1) : EqSt s1 s := ⟨h.1.symm, fun t => (h.2 t).symm⟩

theorem blt_lt {a b : Nat} (h : Nat.blt a b = true) : a < b := by simpa using h

theorem get_put (env : Env) (d : Option Nat) (v : V) (t : Nat) : (env.put d v).get t = if d = some t then v else env.get t := by
  cases d with
  | none => simp [Env.put]
  | some d =>
    simp only [Env.put, Env.get, Option.some.injEq]
    by_cases h : d = t
    · subst h; simp
    · have : Nat.beq d t = false := by
        cases hb : Nat.beq d t with
        | false => rfl
        | true => exact absurd (Nat.eq_of_beq_eq_true hb) h
      simp [this, h]

def apartA (x y : AOper) : Bool :=
  (match x.dst with | some d => !(y.uses.contains d) && decide (y.dst ≠ some d) | none => true) && (match y.dst with | some d => !(x.uses.contains d) | none => true)

def commA (x y : AOper) : Bool := apartA x y && (isPure x.op || isPure y.op || (isRead x.op && isRead y.op) || (isRead x.op && isPush y.op))

section
variable {cl : Callf} {G : Glob} {n0 : Bn}

theorem act_pure {o : AOper} (hp : isPure o.op = true) {e : Env} {H : Hp} {v : V} {H1 : Hp} (h : actOf cl G n0 o e H = some (v, H1)) : H1 = H ∧ ∀ H', actOf cl G n0 o e H' = some (v, H') := by
  unfold actOf at h ⊢
  split at h
  · exact pure_op hp h
  · split at h
    · rename_i want _ _ b _
      cases hb : (b == want) <;> simp only [hb, cond_true, cond_false] at h ⊢
      · simp only [Option.some.injEq, Prod.mk.injEq] at h; obtain ⟨rfl, rfl⟩ := h; exact ⟨rfl, fun _ => rfl⟩
      · exact pure_op hp h
    · simp only [Option.some.injEq, Prod.mk.injEq] at h; obtain ⟨rfl, rfl⟩ := h; exact ⟨rfl, fun _ => rfl⟩
    · simp at h

theorem act_read {o : AOper} (hp : isRead o.op = true) {e : Env} {H : Hp} {v : V} {H1 : Hp} (h : actOf cl G n0 o e H = some (v, H1)) : H1 = H ∧ ∀ ob, actOf cl G n0 o e (hpush H ob) = some (v, hpush H ob) := by
  unfold actOf at h ⊢
  split at h
  · exact read_op hp h
  · split at h
    · rename_i want _ _ b _
      cases hb : (b == want) <;> simp only [hb, cond_true, cond_false] at h ⊢
      · simp only [Option.some.injEq, Prod.mk.injEq] at h; obtain ⟨rfl, rfl⟩ := h; exact ⟨rfl, fun _ => rfl⟩
      · exact read_op hp h
    · simp only [Option.some.injEq, Prod.mk.injEq] at h; obtain ⟨rfl, rfl⟩ := h; exact ⟨rfl, fun _ => rfl⟩
    · simp at h

theorem act_push {o : AOper} (hp : isPush o.op = true) {e : Env} {H : Hp} {v : V} {H1 : Hp} (h : actOf cl G n0 o e H = some (v, H1)) : H1 = H ∨ ∃ ob, H1 = hpush H ob := by
  unfold actOf at h
  split at h
  · exact .inr (push_op hp h)
  · split at h
    · rename_i want _ _ b _
      cases hb : (b == want) <;> simp only [hb, cond_true, cond_false] at h
      · simp only [Option.some.injEq, Prod.mk.injEq] at h; exact .inl h.2.symm
      · exact .inr (push_op hp h)
    · simp only [Option.some.injEq, Prod.mk.injEq] at h; exact .inl h.2.symm
    · simp at h

theorem evOper_some {o : AOper} {st s1 : St} (h : evOper cl G n0 o st = some s1) : ∃ v H, actOf cl G n0 o st.env st.hp = some (v, H) ∧ s1 = ⟨st.env.put o.dst v, H⟩ := by
  rw [evOper_eq] at h
  split at h
  · rename_i v H hh
    exact ⟨v, H, hh, by simpa using h.symm⟩
  · simp at h

theorem evOper_of {o : AOper} {st : St} {v : V} {H : Hp} (h : actOf cl G n0 o st.env st.hp = some (v, H)) : evOper cl G n0 o st = some ⟨st.env.put o.dst v, H⟩ := by
  rw [evOper_eq, h]

theorem evOper_congr {o : AOper} {st s s1 : St} (he : EqSt st s) (h : evOper cl G n0 o st = some s1) : ∃ s', evOper cl G n0 o s = some s' ∧ EqSt s1 s' := by
  obtain ⟨v, H, ha, rfl⟩ := evOper_some h
  rw [actOf_env (e' := s.env) (fun t _ => he.2 t), he.1] at ha
  exact ⟨_, evOper_of ha, rfl, fun t => by simp only [get_put]; split <;> simp [he.2 t]⟩

theorem apart_spec {x y : AOper} (h : apartA x y = true) : (∀ d, x.dst = some d → d ∉ y.uses) ∧ (∀ d, x.dst = some d → y.dst ≠ some d) ∧ (∀ d, y.dst = some d → d ∉ x.uses) := by
  unfold apartA at h
  rw [Bool.and_eq_true] at h
  refine ⟨fun d hd => ?_, fun d hd => ?_, fun d hd => ?_⟩
  · have := h.1; simp only [hd] at this; simp at this; exact this.1
  · have := h.1; simp only [hd] at this; simp at this; exact this.2
  · have := h.2; simp only [hd] at this; simpa using this

theorem act_put {x : AOper} {e : Env} {H : Hp} {d : Option Nat} {v : V} (h : ∀ t, d = some t → t ∉ x.uses) : actOf cl G n0 x (e.put d v) H = actOf cl G n0 x e H :=
  actOf_env fun t ht => by
    rw [get_put]
    split
    · rename_i hd; exact absurd ht (h t hd)
    · rfl

theorem comm_step {x y : AOper} (hc : commA x y = true) {st s1 s2 : St} (h1 : evOper cl G n0 x st = some s1) (h2 : evOper cl G n0 y s1 = some s2) :
    ∃ t1 t2, evOper cl G n0 y st = some t1 ∧ evOper cl G n0 x t1 = some t2 ∧ EqSt s2 t2 := by
  unfold commA at hc
  rw [Bool.and_eq_true] at hc
  obtain ⟨ha, hk⟩ := hc
  obtain ⟨a1, a2, a3⟩ := apart_spec ha
  obtain ⟨v, H1, hx, rfl⟩ := evOper_some h1
  obtain ⟨u, H2, hy, rfl⟩ := evOper_some h2
  rw [act_put a1] at hy
  have main : ∀ Hy, actOf cl G n0 y st.env st.hp = some (u, Hy) → actOf cl G n0 x st.env Hy = some (v, H2) →
      ∃ t1 t2, evOper cl G n0 y st = some t1 ∧ evOper cl G n0 x t1 = some t2 ∧ EqSt ⟨(st.env.put x.dst v).put y.dst u, H2⟩ t2 := by
    intro Hy k1 k2
    refine ⟨_, _, evOper_of k1, evOper_of (by rw [act_put a3]; exact k2), rfl, fun t => ?_⟩
    simp only [get_put]
    by_cases e1 : y.dst = some t <;> by_cases e2 : x.dst = some t <;> simp only [e1, e2, if_true, if_false]
    exact absurd e1 (a2 t e2)
  simp only [Bool.or_eq_true, Bool.and_eq_true] at hk
  rcases hk with ((hk | hk) | hk) | hk
  · obtain ⟨rfl, hall⟩ := act_pure hk hx
    exact main _ hy (hall _)
  · obtain ⟨rfl, hall⟩ := act_pure hk hy
    exact main _ (hall _) hx
  · obtain ⟨rfl, _⟩ := act_read hk.1 hx
    obtain ⟨rfl, _⟩ := act_read hk.2 hy
    exact main _ hy hx
  · obtain ⟨rfl, hm⟩ := act_read hk.1 hx
    rcases act_push hk.2 hy with rfl | ⟨ob, rfl⟩
    · exact main _ hy hx
    · exact main _ hy (hm ob)

/-! ### Operations by their numbers -/
noncomputable def evIx (cl : Callf) (G : Glob) (n0 : Bn) (aos : List AOper) : List Nat → St → Option St
  | [], st => some st
  | i :: r, st =>
    match aos[i]? with
    | some o => (match evOper cl G n0 o st with | some st' => evIx cl G n0 aos r st' | none => none)
    | none => evIx cl G n0 aos r st

theorem evOps_range' (pre aos : List AOper) (st : St) : evOps cl G n0 aos st = evIx cl G n0 (pre ++ aos) (List.range' pre.length aos.length) st := by
  induction aos generalizing pre st with
  | nil => rfl
  | cons o aos ih =>
    have hg : (pre ++ o :: aos)[pre.length]? = some o := by simp
    simp only [List.length_cons, List.range'_succ, evIx, evOps, hg]
    cases evOper cl G n0 o st with
    | none => rfl
    | some st' =>
      have := ih (pre ++ [o]) st'
      simp only [List.append_assoc, List.singleton_append, List.length_append, List.length_singleton] at this
      exact this

theorem evOps_range (aos : List AOper) (st : St) : evOps cl G n0 aos st = evIx cl G n0 aos (List.range aos.length) st := by
  rw [List.range_eq_range']
  exact evOps_range' [] aos st

theorem evIx_congr {aos : List AOper} : ∀ (l : List Nat) {st s st' : St}, EqSt st s → evIx cl G n0 aos l st = some st' → ∃ s', evIx cl G n0 aos l s = some s' ∧ EqSt st' s'
  | [], _, _, _, he, h => by simp only [evIx, Option.some.injEq] at h ⊢; subst h; exact ⟨_, rfl, he⟩
  | i :: l, st, s, st', he, h => by
    simp only [evIx] at h ⊢
    cases ho : aos[i]? with
    | none =>
      simp only [ho] at h ⊢
      exact evIx_congr l he h
    | some o =>
      simp only [ho] at h ⊢
      cases h1 : evOper cl G n0 o st with
      | none => simp only [h1] at h; simp at h
      | some s1 =>
        simp only [h1] at h
        obtain ⟨s1', h1', e1⟩ := evOper_congr he h1
        simp only [h1']
        exact evIx_congr l e1 h

theorem evIx_front {aos : List AOper} {i : Nat} {oi : AOper} (hi : aos[i]? = some oi) : ∀ (p q : List Nat) {st st' : St}, (∀ j ∈ p, ∃ oj, aos[j]? = some oj ∧ commA oj oi = true) →
    evIx cl G n0 aos (p ++ i :: q) st = some st' → ∃ s1 s', evOper cl G n0 oi st = some s1 ∧ evIx cl G n0 aos (p ++ q) s1 = some s' ∧ EqSt st' s'
  | [], q, st, st', _, h => by
    simp only [List.nil_append, evIx, hi] at h ⊢
    split at h
    · rename_i s1 h1
      exact ⟨s1, st', h1, h, EqSt.refl _⟩
    · simp at h
  | j :: p, q, st, st', hc, h => by
    obtain ⟨oj, hj, hcm⟩ := hc j (by simp)
    simp only [List.cons_append, evIx, hj] at h ⊢
    split at h
    · rename_i sj h1
      obtain ⟨sji, s', h2, h3, h4⟩ := evIx_front hi p q (fun k hk => hc k (by simp [hk])) h
      obtain ⟨t1, t2, k1, k2, k3⟩ := comm_step hcm h1 h2
      obtain ⟨s'', m1, m2⟩ := evIx_congr (p ++ q) k3 h3
      exact ⟨t1, s'', k1, by rw [k2]; exact m1, h4.trans m2⟩
    · simp at h
end

/-! ### A step of the program -/
structure Rel (G : Glob) (Bd : Nat → Prop) (w0 : World) (O0 : Own) (pl0 : Pl) (n0 nt : Nat) (st : St) (a : Act) (w : World) : Prop where
  ex : ∃ pl, HR w pl Bd st.hp ∧ RE w (owned pl st.hp) pl (hlen st.hp) st.env a ∧ GR G w (owned pl st.hp) ∧ Ext w0 O0 w (owned pl st.hp) ∧ PlExt n0 pl0 pl ∧ n0 ≤ hlen st.hp
  nt : nt ≤ a.tmps.size
  df : a.defers = []

def chkOper (P : Program) (ops : Array Oper) (nt : Nat) (o : Oper) (ao : AOper) : Bool :=
  decide (o.dst = ao.dst) && (match o.dst with | some d => Nat.blt d nt | none => true) &&
  (match o.guard, ao.guard with
    | none, none => true
    | some (g, want), some (t, want') => (want == want') && decide ((ops[g]?).bind (·.dst) = some t) && Nat.blt t nt
    | _, _ => false) && chkOp P o.op ao.op

section
variable {P : Program} {cl : Callf} {G : Glob} {Bd : Nat → Prop} {w0 : World} {O0 : Own} {pl0 : Pl} {n0 nt : Nat} {B : Bn}

theorem Rel.congr {st s : St} {a : Act} {w : World} (h : Rel G Bd w0 O0 pl0 n0 nt st a w) (he : EqSt st s) : Rel G Bd w0 O0 pl0 n0 nt s a w := by
  obtain ⟨⟨pl, h1, h2, h3, h4, h5, h6⟩, h7, h8⟩ := h
  obtain ⟨e1, e2⟩ := he
  rw [e1] at h1 h2 h3 h4 h6
  exact ⟨⟨pl, h1, fun t ht => by rw [← e2 t] at ht ⊢; exact h2 t ht, h3, h4, h5, h6⟩, h7, h8⟩

theorem re_put {w : World} {O : Own} {pl : Pl} {n : Nat} {env : Env} {a : Act} (hE : RE w O pl n env a) {d : Option Nat} {v : V} {u : Value} (hv : RV w O pl n v u) (hd : ∀ t, d = some t → t < a.tmps.size) : RE w O pl n (env.put d v) (a.put d u) := by
  intro t ht
  rw [get_put] at ht ⊢
  cases d with
  | none => simp only [reduceCtorEq, if_false] at ht ⊢; exact hE t ht
  | some d =>
    by_cases h : d = t
    · subst h
      simp only [if_true, Act.put]
      have := hd d rfl
      rw [Array.getD_eq_getD_getElem?, Array.getElem?_setIfInBounds_self_of_lt this]
      exact hv
    · have hne : ¬ (some d = some t) := by simpa using h
      rw [if_neg hne] at ht ⊢
      simp only [Act.put]
      rw [Array.getD_eq_getD_getElem?, Array.getElem?_setIfInBounds_ne h, ← Array.getD_eq_getD_getElem?]
      exact hE t ht

theorem put_size (a : Act) (d : Option Nat) (u : Value) : (a.put d u).tmps.size = a.tmps.size := by cases d <;> simp [Act.put]
theorem put_def (a : Act) (d : Option Nat) (u : Value) : (a.put d u).defers = a.defers := by cases d <;> rfl

theorem step_ok (hcl : CallSound P G cl) (hn0 : BdOk Bd B) {ops : Array Oper} {i : Nat} {o : Oper} {ao : AOper} (ho : ops[i]? = some o) (hc : chkOper P ops nt o ao = true) {st s1 : St} {a : Act} {w : World} (hR : Rel G Bd w0 O0 pl0 n0 nt st a w)
    (h : evOper cl G B ao st = some s1) {Q : Exit → Act → World → Prop} {K : Act → World → Prop} (hK : ∀ a' w', Rel G Bd w0 O0 pl0 n0 nt s1 a' w' → K a' w') : wpOp P ops Q i K a w := by
  unfold chkOper at hc
  rw [Bool.and_eq_true, Bool.and_eq_true, Bool.and_eq_true, decide_eq_true_eq] at hc
  obtain ⟨⟨⟨hd, hdn⟩, hg⟩, hop⟩ := hc
  obtain ⟨v, H1, hact, rfl⟩ := evOper_some h
  obtain ⟨⟨pl, h1, h2, h3, h4, h5, h6⟩, h7, h8⟩ := hR
  have hlt : ∀ t, o.dst = some t → t < a.tmps.size := fun t ht => by
    rw [ht] at hdn
    exact Nat.lt_of_lt_of_le (blt_lt hdn) h7
  -- the operation is run
  have run : evOp cl G B st.env st.hp ao.op = some (v, H1) → o.wp P a w K Q := by
    intro hev
    refine evOp_sound hcl hn0 h3 h1 h2 hop hev K Q fun u w' pl' hf => hK _ _ ⟨⟨pl', hf.hr, ?_, h3.mono hf.ext, h4.trans hf.ext, h5.trans (hf.ple.le h6), Nat.le_trans h6 hf.le⟩, by rw [put_size]; exact h7, by rw [put_def]; exact h8⟩
    rw [← hd]
    exact re_put (h2.mono hf.ext hf.ple hf.le) hf.rv hlt
  -- it is left out
  have skip : v = .und → H1 = st.hp → K (a.put o.dst undef) w := by
    rintro rfl rfl
    refine hK _ _ ⟨⟨pl, h1, ?_, h3, h4, h5, h6⟩, by rw [put_size]; exact h7, by rw [put_def]; exact h8⟩
    rw [← hd]
    exact re_put h2 .und hlt
  unfold wpOp
  simp only [ho]
  unfold actOf at hact
  split at hg
  · rename_i g1 g2
    simp only [g2] at hact
    have hw : Region.wanted o (yielded ops a.tmps) = true := by simp [Region.wanted, g1]
    rw [if_pos hw]
    exact .inl (run hact)
  · rename_i g want t want' g1 g2
    rw [Bool.and_eq_true, Bool.and_eq_true, decide_eq_true_eq] at hg
    obtain ⟨⟨hwant, htt⟩, htn⟩ := hg
    have hwant : want = want' := by simpa using hwant
    subst hwant
    have htl : t < a.tmps.size := Nat.lt_of_lt_of_le (blt_lt htn) h7
    have hyi : yielded ops a.tmps g = match a.tmps[t]? with | some (.bool b) => some b | _ => none := by
      simp only [yielded, htt, Option.bind_some]
      rfl
    simp only [g2] at hact
    split at hact
    · rename_i b hb
      have hv := h2 t (by rw [hb]; rfl)
      rw [hb] at hv
      have he := hv.bool_eq
      have hx : a.tmps[t]? = some (.bool b) := by
        rw [Array.getD_eq_getD_getElem?, Array.getElem?_eq_getElem htl] at he
        rw [Array.getElem?_eq_getElem htl]
        simpa using he
      have hw : Region.wanted o (yielded ops a.tmps) = (b == want) := by
        simp only [Region.wanted, g1, hyi, hx]
        cases b <;> cases want <;> rfl
      cases hbw : (b == want) with
      | true =>
        rw [hw, hbw, if_pos rfl]
        simp only [hbw, cond_true] at hact
        exact .inl (run hact)
      | false =>
        rw [hw, hbw, if_neg (by simp)]
        simp only [hbw, cond_false, Option.some.injEq, Prod.mk.injEq] at hact
        exact skip hact.1.symm hact.2.symm
    · rename_i hb
      have hv := h2 t (by rw [hb]; rfl)
      rw [hb] at hv
      have he : a.tmps.getD t undef = undef := by
        generalize a.tmps.getD t undef = q at hv
        cases hv; rfl
      have hx : a.tmps[t]? = some undef := by
        rw [Array.getD_eq_getD_getElem?, Array.getElem?_eq_getElem htl] at he
        rw [Array.getElem?_eq_getElem htl]
        simpa using he
      have hw : Region.wanted o (yielded ops a.tmps) = false := by
        simp only [Region.wanted, g1, hyi, hx, undef]
        rfl
      rw [hw, if_neg (by simp)]
      simp only [Option.some.injEq, Prod.mk.injEq] at hact
      exact skip hact.1.symm hact.2.symm
    · simp at hact
  · simp at hg

def chkOps (P : Program) (all : Array Oper) (nt : Nat) : List Oper → List AOper → Bool
  | [], [] => true
  | o :: os, a :: ags => chkOper P all nt o a && chkOps P all nt os ags
  | _, _ => false

theorem chkOps_get {all : Array Oper} : ∀ {os : List Oper} {ags : List AOper}, chkOps P all nt os ags = true → os.length = ags.length ∧ ∀ (i : Nat) (o : Oper), os[i]? = some o → ∃ a, ags[i]? = some a ∧ chkOper P all nt o a = true
  | [], [], _ => ⟨rfl, fun i o h => by simp at h⟩
  | [], _ :: _, h => by simp [chkOps] at h
  | _ :: _, [], h => by simp [chkOps] at h
  | o :: os, a :: ags, h => by
    simp only [chkOps, Bool.and_eq_true] at h
    obtain ⟨h1, h2⟩ := chkOps_get h.2
    refine ⟨by simp [h1], fun i o' hi => ?_⟩
    cases i with
    | zero => simp at hi; subst hi; exact ⟨a, rfl, h.1⟩
    | succ i => exact h2 i o' (by simpa using hi)

theorem ix_sound (hcl : CallSound P G cl) (hn0 : BdOk Bd B) {ops : Array Oper} {aos : List AOper} (hc : chkOps P ops nt ops.toList aos = true) {Q : Exit → Act → World → Prop} : ∀ (l : List Nat) {st st' : St} {a : Act} {w : World}, Rel G Bd w0 O0 pl0 n0 nt st a w →
    evIx cl G B aos l st = some st' → (∀ a' w', Rel G Bd w0 O0 pl0 n0 nt st' a' w' → Q .normal a' w') → wpOps P ops Q l a w
  | [], st, st', a, w, hR, h, hQ => by simp only [evIx, Option.some.injEq] at h; subst h; exact hQ a w hR
  | i :: l, st, st', a, w, hR, h, hQ => by
    rw [wpOps_cons]
    simp only [evIx] at h
    obtain ⟨hl, hget⟩ := chkOps_get hc
    cases ho : ops[i]? with
    | none =>
      have : aos[i]? = none := by
        rw [List.getElem?_eq_none_iff, ← hl]
        simpa using ho
      simp only [this] at h
      unfold wpOp
      simp only [ho]
      exact ix_sound hcl hn0 hc l hR h hQ
    | some o =>
      obtain ⟨ao, hao, hck⟩ := hget i o (by simpa using ho)
      simp only [hao] at h
      split at h
      · rename_i s1 h1
        exact step_ok hcl hn0 ho hck hR h1 fun a' w' hR' => ix_sound hcl hn0 hc l hR' h hQ
      · simp at h

/-! ### Any order -/
def reach (ops : Array Oper) : Nat → Nat → Nat → Bool
  | 0, _, _ => false
  | f + 1, i, j => match ops[i]? with | some o => o.after.any (fun e => Region.binds .any e && (Nat.beq e.on j || reach ops f e.on j)) | none => false

def backward (ops : Array Oper) : Bool := (List.range ops.size).all fun i => match ops[i]? with | some o => o.after.all (fun e => !Region.binds .any e || Nat.blt e.on i) | none => true
def ordOk (ops : Array Oper) (aos : List AOper) : Bool :=
  backward ops && (List.range ops.size).all fun i => (List.range i).all fun j => (match aos[j]?, aos[i]? with | some x, some y => commA x y | _, _ => false) || reach ops ops.size i j

def Down (ops : Array Oper) (listed : Array Bool) : Prop := ∀ (k : Nat) (o : Oper), listed.getD k false = true → ops[k]? = some o → ∀ e ∈ o.after, Region.binds .any e = true → listed.getD e.on false = true

theorem reach_listed {ops : Array Oper} {listed : Array Bool} (hd : Down ops listed) : ∀ (f : Nat) (i j : Nat), (∀ o, ops[i]? = some o → ∀ e ∈ o.after, Region.binds .any e = true → listed.getD e.on false = true) → reach ops f i j = true → listed.getD j false = true
  | 0, _, _, _, h => by simp [reach] at h
  | f + 1, i, j, hp, h => by
    simp only [reach] at h
    split at h
    · rename_i o ho
      obtain ⟨e, he, hb⟩ := Array.any_eq_true'.1 h
      rw [Bool.and_eq_true, Bool.or_eq_true] at hb
      have hl := hp o ho e he hb.1
      rcases hb.2 with hb | hb
      · have := Nat.eq_of_beq_eq_true hb
        subst this; exact hl
      · exact reach_listed hd f e.on j (fun o' ho' e' he' hb' => hd e.on o' hl ho' e' he' hb') hb
    · simp at h

def rest (listed : Array Bool) (n : Nat) : List Nat := (List.range n).filter fun i => !listed.getD i true

theorem range_split {n a : Nat} {l₁ l₂ : List Nat} (h : List.range n = l₁ ++ a :: l₂) : ∀ j, j < a → j ∈ l₁ := by
  have h1 : (List.range n)[l₁.length]? = some a := by rw [h]; simp
  have h2 : l₁.length = a := by
    rw [List.getElem?_range (by
      have : (List.range n).length = l₁.length + (l₂.length + 1) := by rw [h]; simp
      simp at this; omega)] at h1
    simpa using h1
  intro j hj
  have hjn : j < l₁.length := by omega
  have h3 : (List.range n)[j]? = l₁[j]? := by rw [h, List.getElem?_append_left hjn]
  have hn : j < n := by
    have : (List.range n).length = l₁.length + (l₂.length + 1) := by rw [h]; simp
    simp at this; omega
  rw [List.getElem?_range hn] at h3
  exact List.mem_of_getElem? h3.symm

theorem getD_false_of {listed : Array Bool} {i : Nat} (hl : i < listed.size) (h : listed.getD i true = true) : listed.getD i false = true := by
  simp [hl] at h ⊢; exact h

theorem any_sound (hcl : CallSound P G cl) (hn0 : BdOk Bd B) {ops : Array Oper} {aos : List AOper} (hc : chkOps P ops nt ops.toList aos = true) (hord : ordOk ops aos = true) {Q : Exit → Act → World → Prop} : ∀ (fuel : Nat) (listed : Array Bool) {st st' : St} {a : Act} {w : World},
    listed.size = ops.size → Down ops listed → Rel G Bd w0 O0 pl0 n0 nt st a w → evIx cl G B aos (rest listed ops.size) st = some st' → (rest listed ops.size).length ≤ fuel → (∀ a' w', Rel G Bd w0 O0 pl0 n0 nt st' a' w' → Q .normal a' w') →
    wpAny P .any ops Q fuel listed a w := by
  obtain ⟨hl, hget⟩ := chkOps_get hc
  unfold ordOk at hord
  rw [Bool.and_eq_true] at hord
  have hback : ∀ i o, ops[i]? = some o → ∀ e ∈ o.after, Region.binds .any e = true → e.on < i := by
    intro i o ho e he hb
    have hi := (Array.getElem?_eq_some_iff.1 ho).1
    have := List.all_eq_true.1 hord.1 i (List.mem_range.2 hi)
    simp only [ho] at this
    have := Array.all_eq_true_iff_forall_mem.1 this e he
    simp [hb] at this
    exact this
  have hready : ∀ listed : Array Bool, rest listed ops.size = [] → Region.ready .any ops listed = [] := by
    intro listed hr
    unfold Region.ready
    rw [List.filter_eq_nil_iff]
    intro i hi hh
    have : i ∈ rest listed ops.size := by
      unfold rest
      rw [List.mem_filter]
      simp only [Bool.and_eq_true] at hh
      exact ⟨hi, hh.1⟩
    rw [hr] at this
    cases this
  intro fuel
  induction fuel with
  | zero =>
    intro listed st st' a w hs hd hR h hf hQ
    have hr : rest listed ops.size = [] := List.eq_nil_of_length_eq_zero (by omega)
    rw [hr] at h
    simp only [evIx, Option.some.injEq] at h; subst h
    exact ⟨hready listed hr, hQ a w hR⟩
  | succ fuel ih =>
    intro listed st st' a w hs hd hR h hf hQ
    refine ⟨fun hemp => ?_, fun i hi => ?_⟩
    · -- nothing is ready: nothing is left
      have hr : rest listed ops.size = [] := by
        cases hr : rest listed ops.size with
        | nil => rfl
        | cons i q =>
          exfalso
          unfold rest at hr
          obtain ⟨l₁, l₂, e1, e2, e3, _⟩ := List.filter_eq_cons_iff.1 hr
          have hin : i < ops.size := by
            have : i ∈ List.range ops.size := by rw [e1]; simp
            exact List.mem_range.1 this
          have : i ∈ Region.ready .any ops listed := by
            rw [mem_ready]
            refine ⟨by simpa using e3, ops[i], Array.getElem?_eq_getElem hin, fun e he hb => ?_⟩
            have hlt := hback i _ (Array.getElem?_eq_getElem hin) e he hb
            have hm := range_split e1 e.on hlt
            have := e2 _ hm
            exact getD_false_of (by omega) (by simpa using this)
          rw [hemp] at this
          cases this
      rw [hr] at h
      simp only [evIx, Option.some.injEq] at h; subst h
      exact hQ a w hR
    · obtain ⟨hun, o, ho, hall⟩ := mem_ready.1 hi
      have hin := (Array.getElem?_eq_some_iff.1 ho).1
      obtain ⟨ao, hao, hck⟩ := hget i o (by simpa using ho)
      have hmem : i ∈ rest listed ops.size := by
        unfold rest
        rw [List.mem_filter]
        exact ⟨List.mem_range.2 hin, by simp only [hun]; rfl⟩
      obtain ⟨p, q, hpq⟩ := List.append_of_mem hmem
      have hsort : (rest listed ops.size).Pairwise (· < ·) := List.Pairwise.filter _ List.pairwise_lt_range
      have hcomm : ∀ j ∈ p, ∃ oj, aos[j]? = some oj ∧ commA oj ao = true := by
        intro j hj
        rw [hpq] at hsort
        have hji : j < i := (List.pairwise_append.1 hsort).2.2 j hj i (by simp)
        have hjr : j ∈ rest listed ops.size := by rw [hpq]; simp [hj]
        unfold rest at hjr
        rw [List.mem_filter] at hjr
        have := List.all_eq_true.1 (List.all_eq_true.1 hord.2 i (List.mem_range.2 hin)) j (List.mem_range.2 hji)
        rw [Bool.or_eq_true] at this
        rcases this with h1 | h1
        · split at h1
          · rename_i x y hx hy
            rw [hao] at hy
            simp only [Option.some.injEq] at hy; subst hy
            exact ⟨x, hx, h1⟩
          · simp at h1
        · exfalso
          have := reach_listed hd _ i j (fun o' ho' e he hb => by
            rw [ho] at ho'
            simp only [Option.some.injEq] at ho'; subst ho'
            exact hall e he hb) h1
          have h2 := hjr.2
          have hjs : j < listed.size := by rw [hs]; exact List.mem_range.1 hjr.1
          simp [hjs] at this h2
          rw [h2] at this; cases this
      rw [hpq] at h
      obtain ⟨s1, s', k1, k2, k3⟩ := evIx_front hao p q hcomm h
      have hnd : (rest listed ops.size).Nodup := List.Pairwise.imp (fun h => Nat.ne_of_lt h) hsort
      have hrest : rest (listed.setIfInBounds i true) ops.size = p ++ q := by
        have h1 : rest (listed.setIfInBounds i true) ops.size = (rest listed ops.size).filter (fun k => k != i) := by
          unfold rest
          rw [List.filter_filter]
          refine List.filter_congr fun k hk => ?_
          by_cases hki : k = i
          · subst hki
            simp [hs, hin]
          · rw [getD_set_ne true (Ne.symm hki)]
            simp [hki]
        rw [h1, hpq]
        rw [hpq] at hnd
        have hip : i ∉ p ∧ i ∉ q := by
          obtain ⟨n1, n2, n3⟩ := List.nodup_append.1 hnd
          exact ⟨fun hm => n3 i hm i (by simp) rfl, (List.nodup_cons.1 n2).1⟩
        rw [List.filter_append, List.filter_cons_of_neg (by simp), List.filter_eq_self.2 (fun k hk => by simp; rintro rfl; exact hip.1 hk), List.filter_eq_self.2 (fun k hk => by simp; rintro rfl; exact hip.2 hk)]
      refine step_ok hcl hn0 ho hck hR k1 fun a' w' hR' => ih _ (by simpa using hs) ?_ hR' (by rw [hrest]; exact k2) ?_ fun a2 w2 hR2 => hQ a2 w2 (hR2.congr k3.symm)
      · intro k ok hk hok e he hb
        by_cases hki : k = i
        · subst hki
          rw [ho] at hok
          simp only [Option.some.injEq] at hok; subst hok
          exact getD_set_true (hall e he hb)
        · rw [getD_set_ne false (Ne.symm hki)] at hk
          exact getD_set_true (hd k ok hk hok e he hb)
      · rw [hrest]
        rw [hpq] at hf
        simp at hf ⊢
        omega

/-! ### Any order, told in another order -/
def ordP (ops : Array Oper) (aos : List AOper) : List Nat → List Nat → Bool
  | _, [] => true
  | pre, i :: r =>
    !pre.contains i && Nat.blt i ops.size && (match ops[i]? with | some o => o.after.all (fun e => !Region.binds .any e || pre.contains e.on) | none => false) &&
      pre.all (fun j => (match aos[j]?, aos[i]? with | some x, some y => commA x y | _, _ => false) || reach ops ops.size i j) && ordP ops aos (i :: pre) r

theorem ordP_at {ops : Array Oper} {aos : List AOper} : ∀ {pre σ : List Nat}, ordP ops aos pre σ = true → ∀ {l₁ : List Nat} {i : Nat} {l₂ : List Nat}, σ = l₁ ++ i :: l₂ →
    i ∉ pre ∧ i ∉ l₁ ∧ i < ops.size ∧ (∀ o, ops[i]? = some o → ∀ e ∈ o.after, Region.binds .any e = true → e.on ∈ pre ∨ e.on ∈ l₁) ∧
      ∀ j, j ∈ pre ∨ j ∈ l₁ → (∃ x y, aos[j]? = some x ∧ aos[i]? = some y ∧ commA x y = true) ∨ reach ops ops.size i j = true
  | pre, [], h, l₁, i, l₂, e => by simp at e
  | pre, a :: r, h, l₁, i, l₂, e => by
    simp only [ordP, Bool.and_eq_true] at h
    obtain ⟨⟨⟨⟨h1, h2⟩, h3⟩, h4⟩, h5⟩ := h
    cases l₁ with
    | nil =>
      simp only [List.nil_append, List.cons.injEq] at e
      obtain ⟨rfl, rfl⟩ := e
      refine ⟨by simpa using h1, by simp, blt_lt h2, fun o ho e he hb => .inl ?_, fun j hj => ?_⟩
      · simp only [ho] at h3
        have := Array.all_eq_true_iff_forall_mem.1 h3 e he
        simpa [hb] using this
      · have hj : j ∈ pre := by simpa using hj
        have := List.all_eq_true.1 h4 j hj
        rw [Bool.or_eq_true] at this
        rcases this with h | h
        · split at h
          · rename_i x y hx hy
            exact .inl ⟨x, y, hx, hy, h⟩
          · simp at h
        · exact .inr h
    | cons b l₁ =>
      simp only [List.cons_append, List.cons.injEq] at e
      obtain ⟨rfl, rfl⟩ := e
      obtain ⟨k1, k2, k3, k4, k5⟩ := ordP_at h5 rfl
      simp only [List.mem_cons, not_or] at k1
      refine ⟨k1.2, by simp [k1.1, k2], k3, fun o ho e he hb => ?_, fun j hj => k5 j ?_⟩
      · rcases k4 o ho e he hb with h | h
        · rcases List.mem_cons.1 h with rfl | h
          · exact .inr (by simp)
          · exact .inl h
        · exact .inr (by simp [h])
      · rcases hj with h | h
        · exact .inl (by simp [h])
        · rcases List.mem_cons.1 h with rfl | h
          · exact .inl (by simp)
          · exact .inr h

theorem ordP_nodup {ops : Array Oper} {aos : List AOper} : ∀ {pre σ : List Nat}, ordP ops aos pre σ = true → σ.Nodup ∧ ∀ i ∈ σ, i ∉ pre
  | pre, [], _ => ⟨List.nodup_nil, fun i hi => by simp at hi⟩
  | pre, a :: r, h => by
    have h0 := h
    simp only [ordP, Bool.and_eq_true] at h
    obtain ⟨n1, n2⟩ := ordP_nodup h.2
    have ha : a ∉ pre := by simpa using h.1.1.1.1
    refine ⟨List.nodup_cons.2 ⟨fun hm => n2 a hm (by simp), n1⟩, fun i hi => ?_⟩
    rcases List.mem_cons.1 hi with rfl | hi
    · exact ha
    · intro hp
      exact n2 i hi (by simp [hp])

def restP (σ : List Nat) (listed : Array Bool) : List Nat := σ.filter fun i => !listed.getD i true

theorem anyP_sound (hcl : CallSound P G cl) (hn0 : BdOk Bd B) {ops : Array Oper} {aos : List AOper} (hc : chkOps P ops nt ops.toList aos = true) {σ : List Nat} (hord : ordP ops aos [] σ = true) (hall : ∀ i, i < ops.size → i ∈ σ) {Q : Exit → Act → World → Prop} : ∀ (fuel : Nat) (listed : Array Bool) {st st' : St} {a : Act} {w : World},
    listed.size = ops.size → Down ops listed → Rel G Bd w0 O0 pl0 n0 nt st a w → evIx cl G B aos (restP σ listed) st = some st' → (restP σ listed).length ≤ fuel → (∀ a' w', Rel G Bd w0 O0 pl0 n0 nt st' a' w' → Q .normal a' w') →
    wpAny P .any ops Q fuel listed a w := by
  obtain ⟨hl, hget⟩ := chkOps_get hc
  have hsn := (ordP_nodup hord).1
  have hready : ∀ listed : Array Bool, restP σ listed = [] → Region.ready .any ops listed = [] := by
    intro listed hr
    unfold Region.ready
    rw [List.filter_eq_nil_iff]
    intro i hi hh
    have : i ∈ restP σ listed := by
      unfold restP
      rw [List.mem_filter]
      simp only [Bool.and_eq_true] at hh
      exact ⟨hall i (List.mem_range.1 hi), hh.1⟩
    rw [hr] at this
    cases this
  intro fuel
  induction fuel with
  | zero =>
    intro listed st st' a w hs hd hR h hf hQ
    have hr : restP σ listed = [] := List.eq_nil_of_length_eq_zero (by omega)
    rw [hr] at h
    simp only [evIx, Option.some.injEq] at h; subst h
    exact ⟨hready listed hr, hQ a w hR⟩
  | succ fuel ih =>
    intro listed st st' a w hs hd hR h hf hQ
    refine ⟨fun hemp => ?_, fun i hi => ?_⟩
    · have hr : restP σ listed = [] := by
        cases hr : restP σ listed with
        | nil => rfl
        | cons i q =>
          exfalso
          unfold restP at hr
          obtain ⟨l₁, l₂, e1, e2, e3, _⟩ := List.filter_eq_cons_iff.1 hr
          obtain ⟨_, _, hin, hdep, _⟩ := ordP_at hord e1
          have : i ∈ Region.ready .any ops listed := by
            rw [mem_ready]
            refine ⟨by simpa using e3, ops[i], Array.getElem?_eq_getElem hin, fun e he hb => ?_⟩
            have hm : e.on ∈ l₁ := by
              rcases hdep _ (Array.getElem?_eq_getElem hin) e he hb with h | h
              · simp at h
              · exact h
            obtain ⟨m1, m2, em⟩ := List.append_of_mem hm
            have e1' : σ = m1 ++ e.on :: (m2 ++ i :: l₂) := by rw [e1, em]; simp
            have hlt := (ordP_at hord e1').2.2.1
            have := e2 _ hm
            exact getD_false_of (by omega) (by simpa using this)
          rw [hemp] at this
          cases this
      rw [hr] at h
      simp only [evIx, Option.some.injEq] at h; subst h
      exact hQ a w hR
    · obtain ⟨hun, o, ho, hall'⟩ := mem_ready.1 hi
      have hin := (Array.getElem?_eq_some_iff.1 ho).1
      obtain ⟨ao, hao, hck⟩ := hget i o (by simpa using ho)
      have hmem : i ∈ restP σ listed := by
        unfold restP
        rw [List.mem_filter]
        exact ⟨hall i hin, by simp only [hun]; rfl⟩
      obtain ⟨p, q, hpq⟩ := List.append_of_mem hmem
      have hsp : ∃ l₁ l₂, σ = l₁ ++ i :: l₂ ∧ ∀ j ∈ p, j ∈ l₁ := by
        have h0 := hpq
        unfold restP at h0
        obtain ⟨m1, m2, e1, e2, e3⟩ := List.filter_eq_append_iff.1 h0
        obtain ⟨k1, k2, e4, e5, _, _⟩ := List.filter_eq_cons_iff.1 e3
        refine ⟨m1 ++ k1, k2, by rw [e1, e4]; simp, fun j hj => ?_⟩
        rw [← e2] at hj
        exact List.mem_append_left _ (List.mem_filter.1 hj).1
      obtain ⟨l₁, l₂, hσ, hpl⟩ := hsp
      obtain ⟨_, _, _, _, hcom⟩ := ordP_at hord hσ
      have hcomm : ∀ j ∈ p, ∃ oj, aos[j]? = some oj ∧ commA oj ao = true := by
        intro j hj
        have hjr : j ∈ restP σ listed := by rw [hpq]; simp [hj]
        unfold restP at hjr
        rw [List.mem_filter] at hjr
        rcases hcom j (.inr (hpl j hj)) with ⟨x, y, hx, hy, h1⟩ | h1
        · rw [hao] at hy
          simp only [Option.some.injEq] at hy; subst hy
          exact ⟨x, hx, h1⟩
        · exfalso
          have := reach_listed hd _ i j (fun o' ho' e he hb => by
            rw [ho] at ho'
            simp only [Option.some.injEq] at ho'; subst ho'
            exact hall' e he hb) h1
          have h2 := hjr.2
          obtain ⟨m1, m2, em⟩ := List.append_of_mem hjr.1
          have hjs : j < listed.size := by rw [hs]; exact (ordP_at hord em).2.2.1
          simp [hjs] at this h2
          rw [h2] at this; cases this
      rw [hpq] at h
      obtain ⟨s1, s', k1, k2, k3⟩ := evIx_front hao p q hcomm h
      have hnd : (restP σ listed).Nodup := List.Pairwise.filter _ hsn
      have hrest : restP σ (listed.setIfInBounds i true) = p ++ q := by
        have h1 : restP σ (listed.setIfInBounds i true) = (restP σ listed).filter (fun k => k != i) := by
          unfold restP
          rw [List.filter_filter]
          refine List.filter_congr fun k hk => ?_
          by_cases hki : k = i
          · subst hki
            simp [hs, hin]
          · rw [getD_set_ne true (Ne.symm hki)]
            simp [hki]
        rw [h1, hpq]
        rw [hpq] at hnd
        have hip : i ∉ p ∧ i ∉ q := by
          obtain ⟨n1, n2, n3⟩ := List.nodup_append.1 hnd
          exact ⟨fun hm => n3 i hm i (by simp) rfl, (List.nodup_cons.1 n2).1⟩
        rw [List.filter_append, List.filter_cons_of_neg (by simp), List.filter_eq_self.2 (fun k hk => by simp; rintro rfl; exact hip.1 hk), List.filter_eq_self.2 (fun k hk => by simp; rintro rfl; exact hip.2 hk)]
      refine step_ok hcl hn0 ho hck hR k1 fun a' w' hR' => ih _ (by simpa using hs) ?_ hR' (by rw [hrest]; exact k2) ?_ fun a2 w2 hR2 => hQ a2 w2 (hR2.congr k3.symm)
      · intro k ok hk hok e he hb
        by_cases hki : k = i
        · subst hki
          rw [ho] at hok
          simp only [Option.some.injEq] at hok; subst hok
          exact getD_set_true (hall' e he hb)
        · rw [getD_set_ne false (Ne.symm hki)] at hk
          exact getD_set_true (hd k ok hk hok e he hb)
      · rw [hrest]
        rw [hpq] at hf
        simp at hf ⊢
        omega

def unperm (n : Nat) (σ : List Nat) (aos : List AOper) : List AOper := (List.range n).map fun i => aos.getD (σ.idxOf i) default
theorem evIx_of {u : List AOper} : ∀ {aos : List AOper} {σ : List Nat}, aos.length = σ.length → (∀ (k i : Nat), σ[k]? = some i → u[i]? = aos[k]?) → ∀ st, evOps cl G B aos st = evIx cl G B u σ st
  | [], [], _, _, st => rfl
  | [], _ :: _, h, _, _ => by simp at h
  | _ :: _, [], h, _, _ => by simp at h
  | a :: aos, i :: σ, h, hk, st => by
    have h0 : u[i]? = some a := by simpa using hk 0 i rfl
    simp only [evOps, evIx, h0]
    cases evOper cl G B a st with
    | none => rfl
    | some s => exact evIx_of (by simpa using h) (fun k j hj => by simpa using hk (k + 1) j (by simpa using hj)) s
theorem unperm_at {n : Nat} {σ : List Nat} {aos : List AOper} (hn : σ.Nodup) (hl : aos.length = σ.length) (hs : ∀ i ∈ σ, i < n) : ∀ (k i : Nat), σ[k]? = some i → (unperm n σ aos)[i]? = aos[k]? := by
  intro k i hk
  obtain ⟨hkl, rfl⟩ := List.getElem?_eq_some_iff.1 hk
  have hi := hs _ (List.getElem_mem hkl)
  have e : σ.idxOf σ[k] = k := hn.idxOf_getElem k hkl
  simp only [unperm, List.getElem?_map, List.getElem?_range hi, Option.map_some, e]
  rw [List.getD_eq_getElem?_getD, List.getElem?_eq_getElem (by omega)]
  rfl

def pickIx (P : Program) (ops : Array Oper) (nt : Nat) (a : AOper) (used : List Nat) : Option Nat :=
  (List.range ops.size).find? fun i => !used.contains i && (match ops[i]? with | some o => chkOper P ops nt o a | none => false)
def matchP (P : Program) (ops : Array Oper) (nt : Nat) : List AOper → List Nat → Option (List Nat)
  | [], _ => some []
  | a :: ags, used =>
    match pickIx P ops nt a used with
    | some i => (match matchP P ops nt ags (i :: used) with | some r => some (i :: r) | none => none)
    | none => none
def chkPerm (P : Program) (ops : Array Oper) (nt : Nat) (aos : List AOper) : Bool :=
  match matchP P ops nt aos [] with
  | some σ => Nat.beq aos.length σ.length && Nat.ble σ.length ops.size && chkOps P ops nt ops.toList (unperm ops.size σ aos) && ordP ops (unperm ops.size σ aos) [] σ && (List.range ops.size).all (fun i => σ.contains i)
  | none => false

theorem Rel.drawn {st : St} {a : Act} {w : World} (h : Rel G Bd w0 O0 pl0 n0 nt st a w) : Rel G Bd w0 O0 pl0 n0 nt st a { w with drawn := w.drawn + 1 } := by
  obtain ⟨⟨pl, h1, h2, h3, h4, h5, h6⟩, h7, h8⟩ := h
  obtain ⟨m1, m2⟩ := h1.mono_all (w' := { w with drawn := w.drawn + 1 }) ⟨rfl, rfl, rfl, Nat.le_refl _, fun b _ _ => ⟨rfl, fun h => h⟩⟩
  exact ⟨⟨pl, m1, h2.mono m2 (PlExt.refl _ _) (Nat.le_refl _), h3.mono m2, h4.trans m2, h5, h6⟩, h7, h8⟩

theorem reg_sound (hm : P.follows .mixedOrders = true) (hcl : CallSound P G cl) (hn0 : BdOk Bd B) {id : Nat} {ops : Array Oper} {draw : Bool} {aos : List AOper} (hc : chkOps P ops nt ops.toList aos = true) (hord : draw = true → ordOk ops aos = true) {Q : Exit → Act → World → Prop}
    {st st' : St} {a : Act} {w : World} (hR : Rel G Bd w0 O0 pl0 n0 nt st a w) (h : evOps cl G B aos st = some st') (hQ : ∀ a' w', Rel G Bd w0 O0 pl0 n0 nt st' a' w' → Q .normal a' w') : (Code.region id ops draw).wp P Q a w := by
  have hlen : ops.size = aos.length := by simpa using (chkOps_get hc).1
  rw [evOps_range, ← hlen] at h
  cases draw with
  | false => exact wp_region (ix_sound hcl hn0 hc _ hR h hQ)
  | true =>
    refine wp_region_any hm ?_
    have hrest : rest (Array.replicate ops.size false) ops.size = List.range ops.size := by
      unfold rest
      refine List.filter_eq_self.2 fun i hi => ?_
      have := List.mem_range.1 hi
      simp [this]
    refine any_sound hcl hn0 hc (hord rfl) ops.size _ (by simp) (fun k o hk => ?_) hR.drawn (by rw [hrest]; exact h) (by rw [hrest]; simp) hQ
    exfalso
    simp [Array.getElem?_replicate] at hk
    split at hk <;> simp at hk
theorem regP_sound (hm : P.follows .mixedOrders = true) (hcl : CallSound P G cl) (hn0 : BdOk Bd B) {id : Nat} {ops : Array Oper} {aos : List AOper} (hc : chkPerm P ops nt aos = true) {Q : Exit → Act → World → Prop}
    {st st' : St} {a : Act} {w : World} (hR : Rel G Bd w0 O0 pl0 n0 nt st a w) (h : evOps cl G B aos st = some st') (hQ : ∀ a' w', Rel G Bd w0 O0 pl0 n0 nt st' a' w' → Q .normal a' w') : (Code.region id ops true).wp P Q a w := by
  unfold chkPerm at hc
  split at hc
  · rename_i σ _
    simp only [Bool.and_eq_true] at hc
    obtain ⟨⟨⟨⟨h1, h0⟩, h2⟩, h3⟩, h4⟩ := hc
    have hl := Nat.eq_of_beq_eq_true h1
    have hle := Nat.le_of_ble_eq_true h0
    have hall : ∀ i, i < ops.size → i ∈ σ := fun i hi => by
      have := List.all_eq_true.1 h4 i (List.mem_range.2 hi)
      simpa using this
    have hs : ∀ i ∈ σ, i < ops.size := fun i hi => by
      obtain ⟨m1, m2, em⟩ := List.append_of_mem hi
      exact (ordP_at h3 em).2.2.1
    rw [evIx_of hl (unperm_at (ordP_nodup h3).1 hl hs)] at h
    refine wp_region_any hm ?_
    have hrest : restP σ (Array.replicate ops.size false) = σ := by
      unfold restP
      refine List.filter_eq_self.2 fun i hi => ?_
      have := hs i hi
      simp [this]
    refine anyP_sound hcl hn0 h2 h3 hall ops.size _ (by simp) (fun k o hk => ?_) hR.drawn (by rw [hrest]; exact h) ?_ hQ
    · exfalso
      simp [Array.getElem?_replicate] at hk
      split at hk <;> simp at hk
    · rw [hrest]; exact hle
  · simp at hc

/-! ### Any order, with reads told again behind the changes that may come ahead of them -/
def sameOpd : AOpd → AOpd → Bool
  | .t n, .t m => Nat.beq n m
  | .c (.int k n), .c (.int k' n') => decide (k = k') && decide (n = n')
  | .c (.str x), .c (.str y) => decide (x = y)
  | .c (.bool x), .c (.bool y) => decide (x = y)
  | .f k, .f j => Nat.beq k j
  | .g k, .g j => Nat.beq k j
  | _, _ => false
theorem sameOpd_eq {x y : AOpd} (h : sameOpd x y = true) : x = y := by
  unfold sameOpd at h
  split at h <;> first | (simp at h; done) | skip
  · rw [Nat.eq_of_beq_eq_true h]
  · rw [Bool.and_eq_true, decide_eq_true_eq, decide_eq_true_eq] at h; rw [h.1, h.2]
  · rw [decide_eq_true_eq] at h; rw [h]
  · rw [decide_eq_true_eq] at h; rw [h]
  · rw [Nat.eq_of_beq_eq_true h]
  · rw [Nat.eq_of_beq_eq_true h]
def sameOpds : List AOpd → List AOpd → Bool
  | [], [] => true
  | x :: xs, y :: ys => sameOpd x y && sameOpds xs ys
  | _, _ => false
theorem sameOpds_eq : ∀ {x y : List AOpd}, sameOpds x y = true → x = y
  | [], [], _ => rfl
  | [], _ :: _, h => by simp [sameOpds] at h
  | _ :: _, [], h => by simp [sameOpds] at h
  | x :: xs, y :: ys, h => by
    simp only [sameOpds, Bool.and_eq_true] at h
    rw [sameOpd_eq h.1, sameOpds_eq h.2]
def sameOpt : Option AOpd → Option AOpd → Bool
  | none, none => true
  | some x, some y => sameOpd x y
  | _, _ => false
theorem sameOpt_eq {x y : Option AOpd} (h : sameOpt x y = true) : x = y := by
  cases x <;> cases y <;> first | rfl | (simp [sameOpt] at h; done) | rw [sameOpd_eq h]
def sameOp : AOp → AOp → Bool
  | .load a n x, .load a' n' x' => decide (a = a') && Nat.beq n n' && sameOpd x x'
  | .cvStr x, .cvStr y => sameOpd x y
  | .slice e x l h, .slice e' x' l' h' => decide (e = e') && sameOpd x x' && sameOpt l l' && sameOpt h h'
  | .iaddr e x i, .iaddr e' x' i' => Nat.beq e e' && sameOpd x x' && sameOpd i i'
  | .pcall f ags, .pcall f' ags' => sameOpd f f' && sameOpds ags ags'
  | _, _ => false
theorem sameOp_eq {x y : AOp} (h : sameOp x y = true) : x = y := by
  unfold sameOp at h
  split at h <;> first | (simp at h; done) | skip
  · rw [Bool.and_eq_true, Bool.and_eq_true, decide_eq_true_eq] at h; rw [h.1.1, Nat.eq_of_beq_eq_true h.1.2, sameOpd_eq h.2]
  · rw [sameOpd_eq h]
  · rw [Bool.and_eq_true, Bool.and_eq_true, Bool.and_eq_true, decide_eq_true_eq] at h; rw [h.1.1.1, sameOpd_eq h.1.1.2, sameOpt_eq h.1.2, sameOpt_eq h.2]
  · rw [Bool.and_eq_true, Bool.and_eq_true] at h; rw [Nat.eq_of_beq_eq_true h.1.1, sameOpd_eq h.1.2, sameOpd_eq h.2]
  · rw [Bool.and_eq_true] at h; rw [sameOpd_eq h.1, sameOpds_eq h.2]
def sameOper (x y : AOper) : Bool := decide (x.dst = y.dst) && decide (x.guard = y.guard) && sameOp x.op y.op
theorem sameOper_eq {x y : AOper} (h : sameOper x y = true) : x = y := by
  obtain ⟨a, b, c⟩ := x
  obtain ⟨a', b', c'⟩ := y
  simp only [sameOper, Bool.and_eq_true, decide_eq_true_eq] at h
  rw [h.1.1, h.1.2, sameOp_eq h.2]

def isW (o : AOper) : Bool := !(isPure o.op || isRead o.op)
def exs : List Nat → List (Bool × AOper) → List (Nat × AOper)
  | i :: σ, (true, o) :: L => (i, o) :: exs σ L
  | σ, (false, _) :: L => exs σ L
  | _, _ => []
def cw (X : List (Nat × AOper)) : Nat := X.countP fun p => isW p.2
def noW : List (Bool × AOper) → Bool
  | [] => true
  | (true, o) :: L => !isW o && noW L
  | (false, _) :: L => noW L
def ckIn (o : AOper) : List (Bool × AOper) → Bool
  | (false, x) :: L => sameOper o x || ckIn o L
  | _ => false
def cks (ops : Array Oper) (i : Nat) (o : AOper) : List Nat → List (Bool × AOper) → Bool
  | σ, (false, _) :: L => cks ops i o σ L
  | j :: σ, (true, y) :: L => noW ((true, y) :: L) || (isW y && reach ops ops.size j i) || ((!isW y || ckIn o L) && !(match y.dst with | some d => o.uses.contains d | none => false) && cks ops i o σ L)
  | _, L => noW L
def pairX (ops : Array Oper) (q p : Nat × AOper) : Bool :=
  !(Nat.beq q.1 p.1) && (match p.2.dst with | some d => decide (q.2.dst ≠ some d) | none => true) &&
  (reach ops ops.size p.1 q.1 ||
    (match q.2.dst with | some d => !(p.2.uses.contains d) | none => true) && (match p.2.dst with | some d => !(q.2.uses.contains d) | none => true) &&
    (isPure q.2.op || isPure p.2.op || isRead q.2.op))
def ordX (ops : Array Oper) : List (Nat × AOper) → List Nat → List (Bool × AOper) → Bool
  | pre, σ, (false, _) :: L => ordX ops pre σ L
  | pre, i :: σ, (true, o) :: L =>
    Nat.blt i ops.size && (match ops[i]? with | some q => q.after.all (fun e => !Region.binds .any e || pre.any (fun p => Nat.beq p.1 e.on)) | none => false) &&
    pre.all (fun q => pairX ops q (i, o)) && (isPure o.op || isW o || (match o.dst with | some d => !(o.uses.contains d) | none => false) && cks ops i o σ L) && ordX ops ((i, o) :: pre) σ L
  | _, [], [] => true
  | _, _, _ => false
def chkX (P : Program) (ops : Array Oper) (nt : Nat) (L : List (Bool × AOper)) : Bool :=
  let aos := (L.filter (·.1)).map (·.2)
  match matchP P ops nt aos [] with
  | some σ => Nat.beq aos.length σ.length && chkOps P ops nt ops.toList (unperm ops.size σ aos) && ordX ops [] σ L && (List.range ops.size).all (fun i => σ.contains i)
  | none => false

section
variable {cl : Callf} {G : Glob} {n0 : Bn}
noncomputable def hsX (cl : Callf) (G : Glob) (n0 : Bn) : List (Bool × AOper) → St → Nat → Hp
  | [], s, _ => s.hp
  | (true, o) :: L, s, k =>
    match evOper cl G n0 o s with
    | some s1 => if isW o then (match k with | 0 => s.hp | k + 1 => hsX cl G n0 L s1 k) else hsX cl G n0 L s1 k
    | none => s.hp
  | (false, _) :: L, s, k => hsX cl G n0 L s k

theorem evX_true {o : AOper} {L : List (Bool × AOper)} {s s' : St} (h : evX cl G n0 ((true, o) :: L) s = some s') : ∃ s1, evOper cl G n0 o s = some s1 ∧ evX cl G n0 L s1 = some s' := by
  simp only [evX] at h
  split at h
  · exact ⟨_, by assumption, h⟩
  · simp at h
theorem evX_false {o : AOper} {L : List (Bool × AOper)} {s s' : St} (h : evX cl G n0 ((false, o) :: L) s = some s') : (∃ s1, evOper cl G n0 o s = some s1 ∧ Again o s s1) ∧ evX cl G n0 L s = some s' := by
  simp only [evX] at h
  split at h
  · split at h
    · exact ⟨⟨_, by assumption, by assumption⟩, h⟩
    · simp at h
  · simp at h
theorem still {o : AOper} (hw : isW o = false) {s s1 : St} (h : evOper cl G n0 o s = some s1) : s1.hp = s.hp := by
  obtain ⟨v, H, ha, rfl⟩ := evOper_some h
  simp only [isW, Bool.not_eq_false', Bool.or_eq_true] at hw
  rcases hw with hp | hp
  · exact (act_pure hp ha).1
  · exact (act_read hp ha).1
theorem hsX_0 : ∀ (L : List (Bool × AOper)) {s s' : St}, evX cl G n0 L s = some s' → hsX cl G n0 L s 0 = s.hp
  | [], _, _, _ => rfl
  | (true, o) :: L, s, s', h => by
    obtain ⟨s1, h1, h2⟩ := evX_true h
    simp only [hsX, h1]
    cases hw : isW o with
    | true => rfl
    | false => simp only [Bool.false_eq_true, if_false]; rw [hsX_0 L h2, still hw h1]
  | (false, o) :: L, s, s', h => hsX_0 L (evX_false h).2
theorem hsX_W {o : AOper} {L : List (Bool × AOper)} {s s1 : St} (h1 : evOper cl G n0 o s = some s1) (hw : isW o = true) (k : Nat) : hsX cl G n0 ((true, o) :: L) s (k + 1) = hsX cl G n0 L s1 k := by simp only [hsX, h1, hw, if_true]
theorem hsX_N {o : AOper} {L : List (Bool × AOper)} {s s1 : St} (h1 : evOper cl G n0 o s = some s1) (hw : isW o = false) (k : Nat) : hsX cl G n0 ((true, o) :: L) s k = hsX cl G n0 L s1 k := by simp only [hsX, h1, hw]; rfl
theorem noW_cw : ∀ (L : List (Bool × AOper)) (σ : List Nat), noW L = true → cw (exs σ L) = 0
  | [], [], _ => rfl
  | [], _ :: _, _ => rfl
  | (false, x) :: L, σ, h => by
    have : exs σ ((false, x) :: L) = exs σ L := by cases σ <;> rfl
    rw [this]; exact noW_cw L σ h
  | (true, o) :: L, [], _ => rfl
  | (true, o) :: L, i :: σ, h => by
    simp only [noW, Bool.and_eq_true, Bool.not_eq_true'] at h
    simp only [exs, cw, List.countP_cons, h.1]
    exact noW_cw L σ h.2
theorem exs_false {σ : List Nat} {o : AOper} {L : List (Bool × AOper)} : exs σ ((false, o) :: L) = exs σ L := by cases σ <;> rfl
theorem cw_W {p : Nat × AOper} {X : List (Nat × AOper)} (h : isW p.2 = true) : cw (p :: X) = cw X + 1 := by simp [cw, h]
theorem cw_N {p : Nat × AOper} {X : List (Nat × AOper)} (h : isW p.2 = false) : cw (p :: X) = cw X := by simp [cw, h]

theorem ckIn_ok {o : AOper} : ∀ {L : List (Bool × AOper)} {s s' : St}, evX cl G n0 L s = some s' → ckIn o L = true → ∃ s1, evOper cl G n0 o s = some s1 ∧ Again o s s1
  | [], _, _, _, h => by simp [ckIn] at h
  | (true, _) :: _, _, _, _, h => by simp [ckIn] at h
  | (false, x) :: L, s, s', he, h => by
    obtain ⟨h1, h2⟩ := evX_false he
    simp only [ckIn, Bool.or_eq_true] at h
    rcases h with h | h
    · rw [sameOper_eq h]; exact h1
    · exact ckIn_ok h2 h

theorem cks_ok {ops : Array Oper} {i : Nat} {o : AOper} {d : Nat} (hd : o.dst = some d) {v : V} : ∀ (L : List (Bool × AOper)) (σ : List Nat) {s s' : St}, evX cl G n0 L s = some s' → cks ops i o σ L = true → s.env.get d = v → (∀ q ∈ exs σ L, q.2.dst ≠ some d) →
    ∀ (E : Env), (∀ t ∈ o.uses, E.get t = s.env.get t) → ∀ k, 1 ≤ k → k ≤ cw (exs σ L) → (∀ Y w Z, exs σ L = Y ++ w :: Z → isW w.2 = true → cw Y < k → reach ops ops.size w.1 i = false) → actOf cl G n0 o E (hsX cl G n0 L s k) = some (v, hsX cl G n0 L s k)
  | [], σ, s, s', he, hc, hv, hq, E, hE, k, h1, hk, hr => by
    have : cw (exs σ []) = 0 := by cases σ <;> rfl
    omega
  | (false, x) :: L, σ, s, s', he, hc, hv, hq, E, hE, k, h1, hk, hr => by
    rw [exs_false] at hq hk hr
    have hc' : cks ops i o σ L = true := by cases σ <;> simpa only [cks] using hc
    exact cks_ok hd L σ (evX_false he).2 hc' hv hq E hE k h1 hk hr
  | (true, y) :: L, [], s, s', he, hc, hv, hq, E, hE, k, h1, hk, hr => by
    simp [exs, cw] at hk; omega
  | (true, y) :: L, j :: σ, s, s', he, hc, hv, hq, E, hE, k, h1, hk, hr => by
    obtain ⟨s1, e1, e2⟩ := evX_true he
    simp only [cks, Bool.or_eq_true, Bool.and_eq_true] at hc
    rcases hc with (hc | hc) | hc
    · rw [noW_cw _ (j :: σ) hc] at hk; omega
    · have := hr [] (j, y) (exs σ L) rfl hc.1 (show (0 : Nat) < k from h1)
      rw [hc.2] at this; cases this
    · obtain ⟨⟨c1, c2⟩, c3⟩ := hc
      have hyd : y.dst ≠ some d := hq (j, y) (by simp [exs])
      have huse : ∀ t ∈ o.uses, s1.env.get t = s.env.get t := fun t ht => by
        obtain ⟨u, Hu, _, rfl⟩ := evOper_some e1
        simp only [get_put]
        split
        · rename_i hy
          simp [hy] at c2
          exact absurd ht c2
        · rfl
      have hdv : s1.env.get d = v := by
        obtain ⟨u, Hu, _, rfl⟩ := evOper_some e1
        simp only [get_put, if_neg hyd]
        exact hv
      have ih := cks_ok hd L σ e2 c3 hdv (fun q hq' => hq q (by simp [exs, hq'])) E (fun t ht => (hE t ht).trans (huse t ht).symm)
      cases hw : isW y with
      | true =>
        obtain ⟨k, rfl⟩ : ∃ k', k = k' + 1 := ⟨k - 1, by omega⟩
        rw [hsX_W e1 hw]
        simp only [exs, cw_W (p := (j, y)) hw] at hk
        cases k with
        | zero =>
          rw [hsX_0 L e2]
          have c1 : ckIn o L = true := by simpa [hw] using c1
          obtain ⟨s2, g1, g2⟩ := ckIn_ok e2 c1
          obtain ⟨u, Hu, g3, rfl⟩ := evOper_some g1
          simp only [Again, hd, get_put, if_true] at g2
          obtain ⟨rfl, g4⟩ := g2
          rw [actOf_env (e' := s1.env) (fun t ht => (hE t ht).trans (huse t ht).symm), g3, g4, hdv]
        | succ k =>
          exact ih (k + 1) (by omega) (by omega) fun Y w Z hX hw' hY => hr ((j, y) :: Y) w Z (by simp [exs, hX]) hw' (by rw [cw_W (p := (j, y)) hw]; omega)
      | false =>
        rw [hsX_N e1 hw]
        simp only [exs, cw_N (p := (j, y)) hw] at hk
        exact ih k h1 hk fun Y w Z hX hw' hY => hr ((j, y) :: Y) w Z (by simp [exs, hX]) hw' (by rw [cw_N (p := (j, y)) hw]; omega)

def FactX (cl : Callf) (G : Glob) (n0 : Bn) (ops : Array Oper) (X : List (Nat × AOper)) (hs : Nat → Hp) (e0 eF : Env) : Prop :=
  ∀ X1 p X2, X = X1 ++ p :: X2 → ∀ E : Env, (∀ t ∈ p.2.uses, ((∃ q ∈ X1, q.2.dst = some t) → E.get t = eF.get t) ∧ ((∀ q ∈ X1, q.2.dst ≠ some t) → E.get t = e0.get t)) →
    (isPure p.2.op = true → ∀ H, ∃ v, actOf cl G n0 p.2 E H = some (v, H) ∧ ∀ d, p.2.dst = some d → v = eF.get d) ∧
    (isPure p.2.op = false → isW p.2 = false → ∀ k, cw X1 ≤ k → k ≤ cw X → (∀ Y w Z, X = Y ++ w :: Z → isW w.2 = true → cw X1 ≤ cw Y → cw Y < k → reach ops ops.size w.1 p.1 = false) →
      ∃ v, actOf cl G n0 p.2 E (hs k) = some (v, hs k) ∧ ∀ d, p.2.dst = some d → v = eF.get d) ∧
    (isW p.2 = true → ∃ v, actOf cl G n0 p.2 E (hs (cw X1)) = some (v, hs (cw X1 + 1)) ∧ ∀ d, p.2.dst = some d → v = eF.get d)

theorem ordX_pairs {ops : Array Oper} : ∀ (L : List (Bool × AOper)) (σ : List Nat) (pre : List (Nat × AOper)), ordX ops pre σ L = true → (exs σ L).Pairwise (fun q p => pairX ops q p = true) ∧ (∀ q ∈ pre, ∀ p ∈ exs σ L, pairX ops q p = true) ∧
    (∀ X1 p X2, exs σ L = X1 ++ p :: X2 → p.1 < ops.size ∧ ∀ o, ops[p.1]? = some o → ∀ e ∈ o.after, Region.binds .any e = true → (∃ q ∈ pre, q.1 = e.on) ∨ ∃ q ∈ X1, q.1 = e.on) ∧
    (exs σ L).map (·.1) = σ ∧ (exs σ L).map (·.2) = (L.filter (·.1)).map (·.2)
  | [], [], pre, h => ⟨List.Pairwise.nil, fun _ _ _ hp => by simp [exs] at hp, fun X1 p X2 h => by simp [exs] at h, rfl, rfl⟩
  | [], _ :: _, pre, h => by simp [ordX] at h
  | (false, x) :: L, σ, pre, h => by
    have h' : ordX ops pre σ L = true := by cases σ <;> simpa only [ordX] using h
    obtain ⟨a, b, c, d, e⟩ := ordX_pairs L σ pre h'
    rw [exs_false]
    exact ⟨a, b, c, d, by simpa using e⟩
  | (true, o) :: L, [], pre, h => by simp [ordX] at h
  | (true, o) :: L, i :: σ, pre, h => by
    simp only [ordX, Bool.and_eq_true] at h
    obtain ⟨⟨⟨⟨h1, h2⟩, h3⟩, h4⟩, h5⟩ := h
    obtain ⟨a, b, c, d, e⟩ := ordX_pairs L σ ((i, o) :: pre) h5
    refine ⟨List.pairwise_cons.2 ⟨fun p hp => b (i, o) (by simp) p hp, a⟩, fun q hq p hp => ?_, fun X1 p X2 hX => ?_, by simp [exs, d], by simp [exs, e]⟩
    · rcases List.mem_cons.1 hp with rfl | hp
      · exact List.all_eq_true.1 h3 q hq
      · exact b q (by simp [hq]) p hp
    · cases X1 with
      | nil =>
        simp only [exs, List.nil_append, List.cons.injEq] at hX
        obtain ⟨rfl, rfl⟩ := hX
        refine ⟨blt_lt h1, fun q hq ed hed hb => .inl ?_⟩
        simp only [hq] at h2
        have := Array.all_eq_true_iff_forall_mem.1 h2 ed hed
        simp only [hb, Bool.not_true, Bool.false_or, List.any_eq_true] at this
        obtain ⟨r, hr, hr2⟩ := this
        exact ⟨r, hr, Nat.eq_of_beq_eq_true hr2⟩
      | cons x X1 =>
        simp only [exs, List.cons_append, List.cons.injEq] at hX
        obtain ⟨rfl, hX⟩ := hX
        obtain ⟨c1, c2⟩ := c X1 p X2 hX
        refine ⟨c1, fun q hq ed hed hb => ?_⟩
        rcases c2 q hq ed hed hb with ⟨r, hr, e⟩ | ⟨r, hr, e⟩
        · rcases List.mem_cons.1 hr with rfl | hr
          · exact .inr ⟨_, by simp, e⟩
          · exact .inl ⟨r, hr, e⟩
        · exact .inr ⟨r, by simp [hr], e⟩

theorem pairX_dst {ops : Array Oper} {q p : Nat × AOper} (h : pairX ops q p = true) {d : Nat} (hp : p.2.dst = some d) : q.2.dst ≠ some d := by
  simp only [pairX, Bool.and_eq_true] at h
  have := h.1.2
  simpa [hp] using this

theorem run_facts {ops : Array Oper} : ∀ (L : List (Bool × AOper)) (σ : List Nat) (pre : List (Nat × AOper)) {s s' : St}, evX cl G n0 L s = some s' → ordX ops pre σ L = true →
    FactX cl G n0 ops (exs σ L) (hsX cl G n0 L s) s.env s'.env ∧ (∀ t, (∀ q ∈ exs σ L, q.2.dst ≠ some t) → s'.env.get t = s.env.get t) ∧ hsX cl G n0 L s (cw (exs σ L)) = s'.hp
  | [], [], pre, s, s', he, h => by
    simp only [evX, Option.some.injEq] at he; subst he
    exact ⟨fun X1 p X2 hX => by simp [exs] at hX, fun _ _ => rfl, rfl⟩
  | [], _ :: _, pre, s, s', he, h => by simp [ordX] at h
  | (false, x) :: L, σ, pre, s, s', he, h => by
    have h' : ordX ops pre σ L = true := by cases σ <;> simpa only [ordX] using h
    rw [exs_false]
    exact run_facts L σ pre (evX_false he).2 h'
  | (true, o) :: L, [], pre, s, s', he, h => by simp [ordX] at h
  | (true, o) :: L, i :: σ, pre, s, s', he, h => by
    have hp := ordX_pairs _ _ _ h
    simp only [ordX, Bool.and_eq_true] at h
    obtain ⟨⟨_, h4⟩, h5⟩ := h
    obtain ⟨s1, e1, e2⟩ := evX_true he
    obtain ⟨hf, henv, hhp⟩ := run_facts L σ _ e2 h5
    obtain ⟨v, H1, ha, es1⟩ := evOper_some e1
    have g1 : ∀ t, o.dst ≠ some t → s1.env.get t = s.env.get t := fun t ht => by rw [es1]; simp only [get_put, if_neg ht]
    have g2 : ∀ d, o.dst = some d → s1.env.get d = v := fun d hd => by rw [es1]; simp only [get_put, hd, if_true]
    have hpw := List.pairwise_cons.1 hp.1
    have g3 : ∀ d, o.dst = some d → ∀ q ∈ exs σ L, q.2.dst ≠ some d := fun d hd q hq hqd => pairX_dst (hpw.1 q hq) hqd hd
    have g4 : ∀ d, o.dst = some d → v = s'.env.get d := fun d hd => by rw [henv d (g3 d hd), g2 d hd]
    refine ⟨fun X1 p X2 hX E hE => ?_, fun t ht => ?_, ?_⟩
    · cases X1 with
      | nil =>
        simp only [exs, List.nil_append, List.cons.injEq] at hX
        obtain ⟨rfl, rfl⟩ := hX
        have hE' : ∀ t ∈ o.uses, E.get t = s.env.get t := fun t ht => (hE t ht).2 (by simp)
        have ha' : actOf cl G n0 o E s.hp = some (v, H1) := by rw [actOf_env hE']; exact ha
        refine ⟨fun hpu H => ⟨v, (act_pure hpu ha').2 H, g4⟩, fun hnp hw k _ hk hr => ?_, fun hw => ?_⟩
        · have hrd : isRead o.op = true := by simpa [isW, hnp] using hw
          have hH1 := (act_read hrd ha').1
          subst hH1
          cases k with
          | zero => rw [hsX_0 _ he]; exact ⟨v, ha', g4⟩
          | succ k =>
            simp only [hnp, hw, Bool.false_eq_true, Bool.or_self, false_or, Bool.or_eq_true, Bool.and_eq_true] at h4
            obtain ⟨h4, h6⟩ := h4
            cases hd : o.dst with
            | none => simp [hd] at h4
            | some d =>
              simp only [hd] at h4
              have hdu : d ∉ o.uses := by simpa using h4
              rw [hsX_N e1 hw]
              have hkk : k + 1 ≤ cw (exs σ L) := by simpa only [exs, cw_N (p := (i, o)) hw] using hk
              refine ⟨v, cks_ok hd L σ e2 h6 (g2 d hd) (g3 d hd) E (fun t ht => ?_) (k + 1) (by omega) hkk fun Y w Z hX hw' hY => ?_, fun d' hd' => g4 d' (by rw [hd, hd'])⟩
              · rw [hE' t ht, g1 t (fun hc => hdu (by rw [hd] at hc; simp only [Option.some.injEq] at hc; rw [hc]; exact ht))]
              · exact hr ((i, o) :: Y) w Z (by simp [exs, hX]) hw' (Nat.zero_le _) (by rw [cw_N (p := (i, o)) hw]; exact hY)
        · refine ⟨v, ?_, g4⟩
          have c0 : cw ([] : List (Nat × AOper)) = 0 := rfl
          rw [c0, hsX_0 _ he, Nat.zero_add, hsX_W (k := 0) e1 hw, hsX_0 L e2, ha', es1]
      | cons x X1 =>
        simp only [exs, List.cons_append, List.cons.injEq] at hX
        obtain ⟨rfl, hX⟩ := hX
        have hE' : ∀ t ∈ p.2.uses, ((∃ q ∈ X1, q.2.dst = some t) → E.get t = s'.env.get t) ∧ ((∀ q ∈ X1, q.2.dst ≠ some t) → E.get t = s1.env.get t) := fun t ht => by
          refine ⟨fun ⟨q, hq, hqd⟩ => (hE t ht).1 ⟨q, by simp [hq], hqd⟩, fun hn => ?_⟩
          by_cases hd : o.dst = some t
          · rw [(hE t ht).1 ⟨(i, o), by simp, hd⟩, henv t (g3 t hd)]
          · rw [(hE t ht).2 (fun q hq => by rcases List.mem_cons.1 hq with rfl | hq; exact hd; exact hn q hq), g1 t hd]
        obtain ⟨f1, f2, f3⟩ := hf X1 p X2 hX E hE'
        cases hw : isW o with
        | true =>
          refine ⟨f1, fun hnp hnw k hk1 hk2 hr => ?_, fun hpw => ?_⟩
          · rw [cw_W (p := (i, o)) hw] at hk1
            obtain ⟨k, rfl⟩ : ∃ k', k = k' + 1 := ⟨k - 1, by omega⟩
            rw [hsX_W e1 hw]
            simp only [exs, cw_W (p := (i, o)) hw] at hk2
            exact f2 hnp hnw k (by omega) (by omega) fun Y w Z hY hw' h1 h2 => hr ((i, o) :: Y) w Z (by simp [exs, hY]) hw' (by rw [cw_W (p := (i, o)) hw, cw_W (p := (i, o)) hw]; omega) (by rw [cw_W (p := (i, o)) hw]; omega)
          · rw [cw_W (p := (i, o)) hw, hsX_W e1 hw, hsX_W e1 hw]
            exact f3 hpw
        | false =>
          refine ⟨f1, fun hnp hnw k hk1 hk2 hr => ?_, fun hpw => ?_⟩
          · rw [cw_N (p := (i, o)) hw] at hk1
            rw [hsX_N e1 hw]
            simp only [exs, cw_N (p := (i, o)) hw] at hk2
            exact f2 hnp hnw k hk1 hk2 fun Y w Z hY hw' h1 h2 => hr ((i, o) :: Y) w Z (by simp [exs, hY]) hw' (by rw [cw_N (p := (i, o)) hw, cw_N (p := (i, o)) hw]; exact h1) (by rw [cw_N (p := (i, o)) hw]; exact h2)
          · rw [cw_N (p := (i, o)) hw, hsX_N e1 hw, hsX_N e1 hw]
            exact f3 hpw
    · rw [henv t (fun q hq => ht q (by simp [exs, hq])), g1 t (ht (i, o) (by simp [exs]))]
    · cases hw : isW o with
      | true => simp only [exs, cw_W (p := (i, o)) hw]; rw [hsX_W e1 hw]; exact hhp
      | false => simp only [exs, cw_N (p := (i, o)) hw]; rw [hsX_N e1 hw]; exact hhp

theorem split_cmp {α : Type} {p w : α} : ∀ {X1 X2 Y Z : List α}, X1 ++ p :: X2 = Y ++ w :: Z → (X1 = Y ∧ p = w) ∨ (∃ M, Y = X1 ++ p :: M) ∨ ∃ M, X1 = Y ++ w :: M
  | [], X2, [], Z, h => by simp at h; exact .inl ⟨rfl, h.1⟩
  | [], X2, y :: Y, Z, h => by simp at h; exact .inr (.inl ⟨Y, by simp [h.1]⟩)
  | x :: X1, X2, [], Z, h => by simp at h; exact .inr (.inr ⟨X1, by simp [h.1]⟩)
  | x :: X1, X2, y :: Y, Z, h => by
    simp only [List.cons_append, List.cons.injEq] at h
    obtain ⟨rfl, h⟩ := h
    rcases split_cmp h with ⟨rfl, rfl⟩ | ⟨M, rfl⟩ | ⟨M, rfl⟩
    · exact .inl ⟨rfl, rfl⟩
    · exact .inr (.inl ⟨M, rfl⟩)
    · exact .inr (.inr ⟨M, rfl⟩)
theorem cw_split : ∀ {X : List (Nat × AOper)} {k : Nat}, k < cw X → ∃ Y w Z, X = Y ++ w :: Z ∧ isW w.2 = true ∧ cw Y = k
  | [], k, h => by simp [cw] at h
  | p :: X, k, h => by
    cases hw : isW p.2 with
    | true =>
      cases k with
      | zero => exact ⟨[], p, X, rfl, hw, rfl⟩
      | succ k =>
        rw [cw_W hw] at h
        obtain ⟨Y, w, Z, rfl, h1, h2⟩ := cw_split (X := X) (k := k) (by omega)
        exact ⟨p :: Y, w, Z, rfl, h1, by rw [cw_W hw, h2]⟩
    | false =>
      rw [cw_N hw] at h
      obtain ⟨Y, w, Z, rfl, h1, h2⟩ := cw_split (X := X) (k := k) h
      exact ⟨p :: Y, w, Z, rfl, h1, by rw [cw_N hw, h2]⟩
theorem first_not {α : Type} {f : α → Bool} : ∀ {X : List α} {p : α}, p ∈ X → f p = false → ∃ X1 q X2, X = X1 ++ q :: X2 ∧ (∀ r ∈ X1, f r = true) ∧ f q = false
  | [], _, h, _ => by simp at h
  | x :: X, p, h, hp => by
    cases hx : f x with
    | false => exact ⟨[], x, X, rfl, by simp, hx⟩
    | true =>
      rcases List.mem_cons.1 h with rfl | h
      · rw [hx] at hp; cases hp
      · obtain ⟨X1, q, X2, rfl, h1, h2⟩ := first_not h hp
        exact ⟨x :: X1, q, X2, rfl, fun r hr => by rcases List.mem_cons.1 hr with rfl | hr; exact hx; exact h1 r hr, h2⟩
theorem cw_append (X Y : List (Nat × AOper)) : cw (X ++ Y) = cw X + cw Y := by simp [cw]
end

structure InvX (X : List (Nat × AOper)) (hs : Nat → Hp) (e0 eF : Env) (listed : Array Bool) (st : St) : Prop where
  e1 : ∀ p ∈ X, listed.getD p.1 false = true → ∀ t, p.2.dst = some t → st.env.get t = eF.get t
  e2 : ∀ t, (∀ p ∈ X, listed.getD p.1 false = true → p.2.dst ≠ some t) → st.env.get t = e0.get t
  hp : ∃ k, k ≤ cw X ∧ st.hp = hs k ∧ ∀ Y w Z, X = Y ++ w :: Z → isW w.2 = true → (listed.getD w.1 false = true ↔ cw Y < k)

theorem anyX_sound (hcl : CallSound P G cl) (hn0 : BdOk Bd B) {ops : Array Oper} {u : List AOper} (hc : chkOps P ops nt ops.toList u = true) {X : List (Nat × AOper)} {hs : Nat → Hp} {s' : St} {e0 : Env}
    (hX : ∀ p ∈ X, u[p.1]? = some p.2) (hall : ∀ i, i < ops.size → ∃ p ∈ X, p.1 = i) (hpair : X.Pairwise fun q p => pairX ops q p = true) (hfact : FactX cl G B ops X hs e0 s'.env)
    (htop : ∀ X1 p X2, X = X1 ++ p :: X2 → p.1 < ops.size ∧ ∀ o, ops[p.1]? = some o → ∀ e ∈ o.after, Region.binds .any e = true → ∃ q ∈ X1, q.1 = e.on)
    (hh : hs (cw X) = s'.hp) (hen : ∀ t, (∀ q ∈ X, q.2.dst ≠ some t) → s'.env.get t = e0.get t) {Q : Exit → Act → World → Prop} (hQ : ∀ a' w', Rel G Bd w0 O0 pl0 n0 nt s' a' w' → Q .normal a' w') :
    ∀ (fuel : Nat) (listed : Array Bool) {st : St} {a : Act} {w : World}, listed.size = ops.size → Down ops listed → Rel G Bd w0 O0 pl0 n0 nt st a w → InvX X hs e0 s'.env listed st → (rest listed ops.size).length ≤ fuel → wpAny P .any ops Q fuel listed a w := by
  obtain ⟨hl, hget⟩ := chkOps_get hc
  have hin : ∀ p ∈ X, p.1 < ops.size := fun p hp => by
    obtain ⟨X1, X2, rfl⟩ := List.append_of_mem hp
    exact (htop X1 p X2 rfl).1
  -- nothing is ready: nothing is left
  have hready : ∀ listed : Array Bool, listed.size = ops.size → Region.ready .any ops listed = [] → ∀ p ∈ X, listed.getD p.1 false = true := by
    intro listed hs hr p hp
    cases hb : listed.getD p.1 false with
    | true => rfl
    | false =>
      exfalso
      obtain ⟨X1, q, X2, rfl, h1, h2⟩ := first_not (f := fun p => listed.getD p.1 false) hp hb
      obtain ⟨hq1, hq2⟩ := htop X1 q X2 rfl
      have : q.1 ∈ Region.ready .any ops listed := by
        rw [mem_ready]
        refine ⟨?_, ops[q.1], Array.getElem?_eq_getElem hq1, fun e he hb => ?_⟩
        · have hqs : q.1 < listed.size := by omega
          simp only [Array.getD_eq_getD_getElem?, Array.getElem?_eq_getElem hqs, Option.getD_some] at h2 ⊢
          exact h2
        · obtain ⟨r, hr, e⟩ := hq2 _ (Array.getElem?_eq_getElem hq1) e he hb
          rw [← e]; exact h1 r hr
      rw [hr] at this
      cases this
  -- all is run
  have hdone : ∀ (listed : Array Bool) {st : St} {a : Act} {w : World}, (∀ p ∈ X, listed.getD p.1 false = true) → Rel G Bd w0 O0 pl0 n0 nt st a w → InvX X hs e0 s'.env listed st → Q .normal a w := by
    intro listed st a w hall' hR hI
    refine hQ a w (hR.congr ⟨?_, fun t => ?_⟩)
    · obtain ⟨k, hk, e, hk2⟩ := hI.hp
      rw [e, ← hh]
      by_cases hlt : k < cw X
      · obtain ⟨Y, y, Z, hY, hw, hc⟩ := cw_split hlt
        have := (hk2 Y y Z hY hw).1 (hall' y (by rw [hY]; simp))
        omega
      · rw [show k = cw X by omega]
    · by_cases hex : ∃ q ∈ X, q.2.dst = some t
      · obtain ⟨q, hq, hqd⟩ := hex
        exact hI.e1 q hq (hall' q hq) t hqd
      · have hn : ∀ q ∈ X, q.2.dst ≠ some t := fun q hq hqd => hex ⟨q, hq, hqd⟩
        rw [hI.e2 t (fun q hq _ => hn q hq), hen t hn]
  intro fuel
  induction fuel with
  | zero =>
    intro listed st a w hsz hd hR hI hf
    have hr : rest listed ops.size = [] := List.eq_nil_of_length_eq_zero (by omega)
    have hal : ∀ p ∈ X, listed.getD p.1 false = true := fun p hp => by
      cases hb : listed.getD p.1 true with
      | true => exact getD_false_of (by rw [hsz]; exact hin p hp) hb
      | false =>
        exfalso
        have : p.1 ∈ rest listed ops.size := by
          unfold rest
          rw [List.mem_filter]
          exact ⟨List.mem_range.2 (hin p hp), by simp only [hb]; rfl⟩
        rw [hr] at this; cases this
    refine ⟨?_, hdone listed hal hR hI⟩
    unfold Region.ready
    rw [List.filter_eq_nil_iff]
    intro i hi hh2
    have : i ∈ rest listed ops.size := by
      unfold rest
      rw [List.mem_filter]
      simp only [Bool.and_eq_true] at hh2
      exact ⟨hi, hh2.1⟩
    rw [hr] at this
    cases this
  | succ fuel ih =>
    intro listed st a w hsz hd hR hI hf
    refine ⟨fun hemp => hdone listed (hready listed hsz hemp) hR hI, fun i hi => ?_⟩
    obtain ⟨hun, o, ho, hpre⟩ := mem_ready.1 hi
    have hii := (Array.getElem?_eq_some_iff.1 ho).1
    obtain ⟨ao, hao, hck⟩ := hget i o (by simpa using ho)
    obtain ⟨p, hp, rfl⟩ := hall i hii
    have hp2 := hX p hp
    rw [hao] at hp2
    simp only [Option.some.injEq] at hp2; subst hp2
    obtain ⟨X1, X2, hsplit⟩ := List.append_of_mem hp
    have hunl : listed.getD p.1 false ≠ true := by
      have hqs : p.1 < listed.size := by omega
      simp only [Array.getD_eq_getD_getElem?, Array.getElem?_eq_getElem hqs, Option.getD_some] at hun ⊢
      rw [hun]; simp
    have hbefore : ∀ q, reach ops ops.size p.1 q = true → listed.getD q false = true := fun q hq => reach_listed hd _ p.1 q (fun o' ho' e he hb => by
      rw [ho] at ho'
      simp only [Option.some.injEq] at ho'; subst ho'
      exact hpre e he hb) hq
    have hafter : ∀ q, listed.getD q false = true → reach ops ops.size q p.1 = false := fun q hq => by
      cases hb : reach ops ops.size q p.1 with
      | false => rfl
      | true => exact absurd (reach_listed hd _ q p.1 (fun o' ho' e he hb' => hd q o' hq ho' e he hb') hb) hunl
    rw [hsplit] at hpair
    obtain ⟨hpw1, hpw2, hpw3⟩ := List.pairwise_append.1 hpair
    have hq1 : ∀ q ∈ X1, pairX ops q p = true := fun q hq => hpw3 q hq p (by simp)
    have hq2 : ∀ q ∈ X2, pairX ops p q = true := fun q hq => (List.pairwise_cons.1 hpw2).1 q hq
    -- what the operation looks at is ags it was
    have hag : ∀ t ∈ p.2.uses, ((∃ q ∈ X1, q.2.dst = some t) → st.env.get t = s'.env.get t) ∧ ((∀ q ∈ X1, q.2.dst ≠ some t) → st.env.get t = e0.get t) := by
      intro t ht
      refine ⟨fun ⟨q, hq, hqd⟩ => ?_, fun hn => hI.e2 t fun q hq hql hqd => ?_⟩
      · have := hq1 q hq
        simp only [pairX, Bool.and_eq_true, Bool.or_eq_true] at this
        rcases this.2 with h | h
        · exact hI.e1 q (by rw [hsplit]; simp [hq]) (hbefore _ h) t hqd
        · have h1 := h.1.1
          simp [hqd] at h1
          exact absurd ht h1
      · rw [hsplit] at hq
        rcases List.mem_append.1 hq with h | h
        · exact hn q h hqd
        · rcases List.mem_cons.1 h with rfl | h
          · exact hunl hql
          · have := hq2 q h
            simp only [pairX, Bool.and_eq_true, Bool.or_eq_true] at this
            rcases this.2 with h3 | h3
            · rw [hafter _ hql] at h3; cases h3
            · have h1 := h3.1.2
              simp [hqd] at h1
              exact absurd ht h1
    obtain ⟨f1, f2, f3⟩ := hfact X1 p X2 hsplit st.env hag
    obtain ⟨k, hk, hhp, hkw⟩ := hI.hp
    have hsame : ∀ q ∈ X, q.1 = p.1 → q = p := fun q hq he => by
      have h1 := hX q hq
      rw [he, hao] at h1
      simp only [Option.some.injEq] at h1
      exact Prod.ext he h1.symm
    -- the changes ahead of it have all been made
    have hge : isPure p.2.op = false → cw X1 ≤ k := by
      intro hnp
      apply Classical.byContradiction
      intro hlt
      obtain ⟨Y, y, Z, hY, hw, hc⟩ := cw_split (X := X1) (k := k) (by omega)
      have hpy := hq1 y (by rw [hY]; simp)
      simp only [pairX, Bool.and_eq_true, Bool.or_eq_true] at hpy
      rcases hpy.2 with h | h
      · have := (hkw Y y (Z ++ p :: X2) (by rw [hsplit, hY]; simp) hw).1 (hbefore _ h)
        omega
      · simp only [isW, Bool.not_eq_true', Bool.or_eq_false_iff] at hw
        rw [hw.1, hw.2, hnp] at h
        simp at h
    -- what it gives
    have main : ∀ (v : V) (H' : Hp), actOf cl G B p.2 st.env st.hp = some (v, H') → (∀ d, p.2.dst = some d → v = s'.env.get d) →
        (∃ k', k' ≤ cw X ∧ H' = hs k' ∧ ∀ Y y Z, X = Y ++ y :: Z → isW y.2 = true → ((listed.setIfInBounds p.1 true).getD y.1 false = true ↔ cw Y < k')) → wpOp P ops Q p.1 (fun a w => wpAny P .any ops Q fuel (listed.setIfInBounds p.1 true) a w) a w := by
      intro v H' hact hv hk'
      have hset : ∀ q ∈ X, (listed.setIfInBounds p.1 true).getD q.1 false = true → q = p ∨ listed.getD q.1 false = true := fun q hq hql => by
        by_cases hqp : q.1 = p.1
        · exact .inl (hsame q hq hqp)
        · rw [getD_set_ne false (Ne.symm hqp)] at hql
          exact .inr hql
      refine step_ok hcl hn0 ho hck hR (evOper_of hact) fun a' w' hR' => ih _ (by simpa using hsz) ?_ hR' ⟨fun q hq hql t hqt => ?_, fun t hn => ?_, hk'⟩ ?_
      · intro j oj hj hoj e he hb
        by_cases hki : j = p.1
        · subst hki
          rw [ho] at hoj
          simp only [Option.some.injEq] at hoj; subst hoj
          exact getD_set_true (hpre e he hb)
        · rw [getD_set_ne false (Ne.symm hki)] at hj
          exact getD_set_true (hd j oj hj hoj e he hb)
      · simp only [get_put]
        split
        · rename_i hpt
          exact hv t hpt
        · rename_i hpt
          rcases hset q hq hql with rfl | h
          · exact absurd hqt hpt
          · exact hI.e1 q hq h t hqt
      · have hpt : p.2.dst ≠ some t := hn p hp (by
          have hqs : p.1 < listed.size := by omega
          simp [hqs])
        simp only [get_put, if_neg hpt]
        exact hI.e2 t fun q hq hql => hn q hq (getD_set_true hql)
      · have h1 : rest (listed.setIfInBounds p.1 true) ops.size = (rest listed ops.size).filter (fun k => k != p.1) := by
          unfold rest
          rw [List.filter_filter]
          refine List.filter_congr fun k hk => ?_
          by_cases hki : k = p.1
          · subst hki
            simp [hsz, hii]
          · rw [getD_set_ne true (Ne.symm hki)]
            simp [hki]
        have hmem : p.1 ∈ rest listed ops.size := by
          unfold rest
          rw [List.mem_filter]
          exact ⟨List.mem_range.2 hii, by simp only [hun]; rfl⟩
        have hlt : ((rest listed ops.size).filter (fun k => k != p.1)).length < (rest listed ops.size).length := by
          refine Nat.lt_of_le_of_ne (List.length_filter_le _ _) fun he => ?_
          have := (List.length_filter_eq_length_iff.1 he) p.1 hmem
          simp at this
        rw [h1]; omega
    cases hpu : isPure p.2.op with
    | true =>
      obtain ⟨v, hv, hvd⟩ := f1 hpu st.hp
      refine main v st.hp hv hvd ⟨k, hk, hhp, fun Y y Z hY hw => ?_⟩
      have hne : y.1 ≠ p.1 := fun he => by
        have := hsame y (by rw [hY]; simp) he
        subst this
        simp [isW, hpu] at hw
      rw [getD_set_ne false (Ne.symm hne)]
      exact hkw Y y Z hY hw
    | false =>
      cases hw : isW p.2 with
      | false =>
        obtain ⟨v, hv, hvd⟩ := f2 hpu hw k (hge hpu) hk fun Y y Z hY hyw h1 h2 => hafter _ ((hkw Y y Z hY hyw).2 h2)
        rw [← hhp] at hv
        refine main v st.hp hv hvd ⟨k, hk, hhp, fun Y y Z hY hyw => ?_⟩
        have hne : y.1 ≠ p.1 := fun he => by
          have := hsame y (by rw [hY]; simp) he
          subst this
          rw [hw] at hyw; cases hyw
        rw [getD_set_ne false (Ne.symm hne)]
        exact hkw Y y Z hY hyw
      | true =>
        have hkk : k = cw X1 := by
          have h1 := hge hpu
          by_cases h2 : cw X1 < k
          · exact absurd ((hkw X1 p X2 hsplit hw).2 h2) hunl
          · omega
        obtain ⟨v, hv, hvd⟩ := f3 hw
        rw [← hkk, ← hhp] at hv
        have hcx : cw X1 + 1 ≤ cw X := by rw [hsplit, cw_append, cw_W hw]; omega
        refine main v _ hv hvd ⟨k + 1, by omega, rfl, fun Y y Z hY hyw => ?_⟩
        have hcmp := split_cmp (hsplit.symm.trans hY)
        rcases hcmp with ⟨rfl, rfl⟩ | ⟨M, rfl⟩ | ⟨M, hM⟩
        · have hqs : p.1 < listed.size := by omega
          simp [hqs]; omega
        · have hpy : pairX ops p y = true := by
            rw [hsplit] at hY
            have := hpair
            rw [hY] at this
            exact (List.pairwise_append.1 this).2.2 p (by simp) y (by simp)
          have hne : p.1 ≠ y.1 := fun he => by
            simp only [pairX, Bool.and_eq_true] at hpy
            have := hpy.1.1
            simp [he] at this
          rw [getD_set_ne false hne, hkw _ y Z hY hyw, cw_append, cw_W hw]
          omega
        · have hpy := hq1 y (by rw [hM]; simp)
          have hne : p.1 ≠ y.1 := fun he => by
            simp only [pairX, Bool.and_eq_true] at hpy
            have := hpy.1.1
            simp [he] at this
          rw [getD_set_ne false hne, hkw Y y Z hY hyw]
          have : cw X1 = cw Y + (cw M + 1) := by rw [hM, cw_append, cw_W hyw]
          omega

theorem regX_sound (hm : P.follows .mixedOrders = true) (hcl : CallSound P G cl) (hn0 : BdOk Bd B) {id : Nat} {ops : Array Oper} {L : List (Bool × AOper)} (hc : chkX P ops nt L = true) {Q : Exit → Act → World → Prop}
    {st st' : St} {a : Act} {w : World} (hR : Rel G Bd w0 O0 pl0 n0 nt st a w) (h : evX cl G B L st = some st') (hQ : ∀ a' w', Rel G Bd w0 O0 pl0 n0 nt st' a' w' → Q .normal a' w') : (Code.region id ops true).wp P Q a w := by
  unfold chkX at hc
  simp only at hc
  split at hc
  · rename_i σ _
    simp only [Bool.and_eq_true] at hc
    obtain ⟨⟨⟨h1, h2⟩, h3⟩, h4⟩ := hc
    have hl := Nat.eq_of_beq_eq_true h1
    obtain ⟨p1, _, p3, p4, p5⟩ := ordX_pairs L σ [] h3
    obtain ⟨r1, r2, r3⟩ := run_facts L σ [] h h3
    have hnd : σ.Nodup := by
      rw [← p4]
      refine List.pairwise_map.2 (p1.imp fun {q p} hqp he => ?_)
      simp only [pairX, Bool.and_eq_true] at hqp
      have := hqp.1.1
      simp [he] at this
    have hsz : ∀ i ∈ σ, i < ops.size := fun i hi => by
      rw [← p4] at hi
      obtain ⟨q, hq, rfl⟩ := List.mem_map.1 hi
      obtain ⟨X1, X2, e⟩ := List.append_of_mem hq
      exact (p3 X1 q X2 e).1
    have hX : ∀ p ∈ exs σ L, (unperm ops.size σ ((L.filter (·.1)).map (·.2)))[p.1]? = some p.2 := fun p hp => by
      obtain ⟨k, hk, e⟩ := List.mem_iff_getElem.1 hp
      have hk1 : σ[k]? = some p.1 := by rw [← p4, List.getElem?_map, List.getElem?_eq_getElem hk, e]; rfl
      rw [unperm_at hnd hl hsz k p.1 hk1, ← p5, List.getElem?_map, List.getElem?_eq_getElem hk, e]; rfl
    refine wp_region_any hm ?_
    refine anyX_sound hcl hn0 h2 (X := exs σ L) (hs := hsX cl G B L st) (s' := st') (e0 := st.env) hX (fun i hi => ?_) p1 r1 (fun X1 p X2 hX' => ?_) r3 r2 hQ ops.size _ (by simp) (fun k o hk => ?_) hR.drawn ⟨fun p hp hl => ?_, fun t _ => rfl, 0, Nat.zero_le _, (hsX_0 L h).symm, fun Y y Z hY hw => ?_⟩ ?_
    · have := List.all_eq_true.1 h4 i (List.mem_range.2 hi)
      have hi' : i ∈ σ := by simpa using this
      rw [← p4] at hi'
      obtain ⟨q, hq, e⟩ := List.mem_map.1 hi'
      exact ⟨q, hq, e⟩
    · obtain ⟨a1, a2⟩ := p3 X1 p X2 hX'
      refine ⟨a1, fun o ho e he hb => ?_⟩
      rcases a2 o ho e he hb with ⟨q, hq, _⟩ | hq
      · simp at hq
      · exact hq
    · exfalso
      simp [Array.getElem?_replicate] at hk
      split at hk <;> simp at hk
    · exfalso
      simp [Array.getElem?_replicate] at hl
      split at hl <;> simp at hl
    · simp [Array.getElem?_replicate]
      split <;> simp
    · unfold rest
      exact Nat.le_trans (List.length_filter_le _ _) (by simp)
  · simp at hc
end
end Go.Ev

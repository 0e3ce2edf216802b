/- Each operation of compact code does what the model's operation does: a new entry of a map. -/
import Derived.Test.YtpmphmpaeooeeaaDoorE16
namespace Go.Ev
open Go
set_option linter.unusedSimpArgs false
set_option linter.unusedVariables false

theorem HR.setMap {w w' : World} {pl : Pl} {Bd : Nat → Prop} {H : Hp} (h : HR w pl Bd H) {r : Nat} {ks vs ks' vs' : List V} {b e c : Nat} {es' : Array MapEntry} {clock' : Nat}
    (hr : hget H r = some (.map ks vs)) (hp : pl r 0 = some (b, e, c)) (hs : Same w w') (hsz : w'.heap.size = w.heap.size) (hoth : ∀ b'', b'' ≠ b → w'.heap[b'']? = w.heap[b'']?)
    (hh : w'.heap[b]? = some (.map es' clock')) (hk : es'.size = ks'.length) (hv : es'.size = vs'.length)
    (hrel : ∀ m, (m = hlen H ∨ (Bd m ∧ r < m)) → ∀ i, i < es'.size → RV w (owned pl H) pl m (ks'.getD i .any) (es'.getD i default).key ∧ RV w (owned pl H) pl m (vs'.getD i .any) (es'.getD i default).val) :
    HR w' pl Bd (hset H r (.map ks' vs')) ∧ Ext w (owned pl H) w' (owned pl (hset H r (.map ks' vs'))) := by
  have hrl := hget_lt hr
  have hbl : blk pl H r = some b := by simp [blk, hr, hp]
  have hbk : ∀ r', blk pl (hset H r (.map ks' vs')) r' = blk pl H r' := by
    intro r'
    by_cases hne : r' = r
    · subst hne
      rw [hbl]
      simp [blk, hget_hset_self _ hrl, hp]
    · unfold blk
      rw [hget_hset_ne _ hne]
  have hown : owned pl (hset H r (.map ks' vs')) = owned pl H := by funext b'; simp only [owned, hbk]
  have E : Ext w (owned pl H) w' (owned pl (hset H r (.map ks' vs'))) := by
    rw [hown]
    exact ⟨hs.os, hs.tape, hs.output, by omega, fun b'' _ hO => ⟨hoth b'' (fun hh => hO ⟨r, by rw [hh]; exact hbl⟩), hO⟩⟩
  have hold : ∀ r' o' m, r' ≠ r → hget H r' = some o' → OR w (owned pl H) pl m r' o' → OR w' (owned pl (hset H r (.map ks' vs'))) pl m r' o' := by
    intro r' o' m hne ho' hor
    cases hor with
    | dead => exact .dead
    | row g1 e1 xs1 b1 c1 arr1 ty1 fr1 hp1 hh1 hs1 hf1 hx1 he1 hr1 h11 hg1 =>
      have hb1 : blk pl H r' = some b1 := by simp [blk, ho', hp1]
      have hne1 : b1 ≠ b := fun hh => hne (h.inj r' r b1 hb1 (by rw [hh]; exact hbl))
      exact .row g1 e1 xs1 b1 c1 arr1 ty1 fr1 hp1 ((hoth b1 hne1).trans hh1) hs1 hf1 hx1 he1 (fun i j hi hj => (hr1 i j hi hj).mono E (PlExt.refl _ _) (Nat.le_refl _)) h11 hg1
    | map ks1 vs1 b1 e1 c1 es clock hp1 hh1 hk1 hv1 hrk hrv =>
      have hb1 : blk pl H r' = some b1 := by simp [blk, ho', hp1]
      have hne1 : b1 ≠ b := fun hh => hne (h.inj r' r b1 hb1 (by rw [hh]; exact hbl))
      exact .map ks1 vs1 b1 e1 c1 es clock hp1 ((hoth b1 hne1).trans hh1) hk1 hv1 (fun i hi => (hrk i hi).mono E (PlExt.refl _ _) (Nat.le_refl _)) (fun i hi => (hrv i hi).mono E (PlExt.refl _ _) (Nat.le_refl _))
  have hnew : ∀ m, (m = hlen H ∨ (Bd m ∧ r < m)) → OR w' (owned pl (hset H r (.map ks' vs'))) pl m r (.map ks' vs') := fun m hm =>
    .map ks' vs' b e c es' clock' hp hh hk hv (fun i hi => (hrel m hm i hi).1.mono E (PlExt.refl _ _) (Nat.le_refl _)) (fun i hi => (hrel m hm i hi).2.mono E (PlExt.refl _ _) (Nat.le_refl _))
  refine ⟨⟨?_, fun r1 r2 b1 h1 h2 => by rw [hbk] at h1 h2; exact h.inj r1 r2 b1 h1 h2, ?_, fun m hm => by rw [hlen_hset]; exact h.le m hm⟩, E⟩
  · intro r' o' ho'
    rw [hlen_hset]
    by_cases hne : r' = r
    · subst hne
      rw [hget_hset_self _ hrl] at ho'
      obtain rfl := Option.some.inj ho'
      exact hnew _ (.inl rfl)
    · rw [hget_hset_ne _ hne] at ho'
      exact hold r' o' _ hne ho' (h.obj r' o' ho')
  · intro m hm r' o' hlt ho'
    by_cases hne : r' = r
    · subst hne
      rw [hget_hset_self _ hrl] at ho'
      obtain rfl := Option.some.inj ho'
      exact hnew m (.inr ⟨hm, hlt⟩)
    · rw [hget_hset_ne _ hne] at ho'
      exact hold r' o' m hne ho' (h.bd m hm r' o' hlt ho')

section
variable {P : Program} {cl : Callf} {G : Glob} {w : World} {pl : Pl} {Bd : Nat → Prop} {H : Hp} {env : Env} {a : Act}

theorem getD_snoc (xs : List V) (x : V) (i : Nat) (hi : i < xs.length + 1) : (xs ++ [x]).getD i .any = if i < xs.length then xs.getD i .any else x := by
  simp only [List.getD_eq_getElem?_getD, List.getElem?_append]
  by_cases h : i < xs.length
  · simp [h]
  · have : i - xs.length = 0 := by omega
    simp [h, this]

theorem getD_push (es : Array MapEntry) (x : MapEntry) (i : Nat) (hi : i < es.size + 1) : (es.push x).getD i default = if i < es.size then es.getD i default else x := by
  simp only [Array.getD_eq_getD_getElem?]
  by_cases h : i < es.size
  · rw [Array.getElem?_push_lt h]; simp [h]
  · obtain rfl : i = es.size := by omega
    simp

theorem sim_insert {n0 : Nat} (hn0 : ∀ m, Bd m → m ≤ n0) (hG : GR G w (owned pl H)) (hH : HR w pl Bd H) (hE : RE w (owned pl H) pl (hlen H) env a) {o : Oper} {t : Nat} {M K X : Operand} (ho : o.op = .insert t M K X ∨ o.op = .mapUpdate t M K X) {m k x : AOpd} (hm : opdOk m M = true) (hk : opdOk k K = true) (hx : opdOk x X = true)
    (hc : (match P.underlying t with | some (.map kt _) => descIs P kt isKey | _ => false) = true) {r : Nat} (hme : opd G env m = .mref r) {kd : D} (hke : opd G env k = .d kd) (hxk : (opd G env x).ok = true) {ks vs : List V} (hrow : hget H r = some (.map ks vs)) {kds : List D} (hkd : allD ks = some kds)
    (hl : look kd kds vs = some none) (hok : okIn n0 r (opd G env x) = true) : OpSim P o a w pl Bd H .und (hset H r (.map (ks ++ [.d kd]) (vs ++ [opd G env x]))) := by
  have hmv := opd_ok hm hG hE (by rw [hme]; rfl)
  have hkv := opd_ok hk hG hE (by rw [hke]; rfl)
  have hxv := opd_ok hx hG hE hxk
  rw [hme] at hmv
  rw [hke] at hkv
  have hkse := allD_some hkd
  obtain ⟨kt, et, hund, f1⟩ := mapOf_some (f := fun kt _ => descIs P kt isKey) hc
  obtain ⟨dk, hdk, hdk2⟩ := descIs_some f1
  have hdk3 : P.underlying kt = some .string := by cases dk <;> simp [isKey] at hdk2; exact hdk
  have hor := hH.obj r _ hrow
  generalize hue : a.eval M = um at hmv
  cases hmv with
  | mref _ b e c hlt hp =>
    cases hor with
    | map _ _ b' e' c' es clock hp' hh hk1 hv1 hrk hrv =>
      rw [hp] at hp'
      simp only [Option.some.injEq, Prod.mk.injEq] at hp'
      obtain ⟨rfl, rfl, rfl⟩ := hp'
      obtain ⟨res, r1, r2⟩ := findNow_look hkv.dd kds vs es.toList 0 none hl (by rw [hkse] at hk1; simpa using hk1) (fun j hj => by
        have := hrk j (by rw [hk1, hkse]; simpa using hj)
        rw [hkse, getD_map_d kds j hj] at this
        simpa [List.getD_eq_getElem?_getD, Array.getD_eq_getD_getElem?] using this.dd)
      have hres : res = none := by
        rcases r2 with ⟨_, h⟩ | ⟨j, x, h, _⟩
        · exact h
        · simp at h
      subst hres
      have hfk : (Instr.findKey kt (a.eval K) es.toList).run P w = .ok none w := by simp [Instr.findKey, run_underlying hdk3, r1]
      let w' : World := { w with heap := w.heap.setIfInBounds b (.map (es.push { key := a.eval K, val := a.eval X, born := clock }) (clock + 1)) }
      have hbl : b < w.heap.size := (Array.getElem?_eq_some_iff.1 hh).1
      have hrun : (Instr.mapUpdate t (.map (some b)) (a.eval K) (a.eval X)).run P w = .ok () w' := by
        simp [Instr.mapUpdate, run_underlying hund, run_checkKey f1, hfk, getObj, setObj, Sem.run, hh, w']
      have hbd := fun m (hm : Bd m) (hlt : r < m) => hH.bd m hm r _ hlt hrow
      obtain ⟨q1, q2⟩ := hH.setMap (w' := w') (ks' := ks ++ [.d kd]) (vs' := vs ++ [opd G env x]) hrow hp ⟨rfl, rfl, rfl⟩ (by simp [w']) (fun b'' hne => by simp [w', Array.getElem?_setIfInBounds_ne (Ne.symm hne)]) (by simp [w', hbl]; exact ⟨rfl, rfl⟩) (by simp [hk1]) (by simp [hv1])
        (fun m hm i hi => by
          have hi' : i < es.size + 1 := by simpa using hi
          rw [getD_push es _ i hi', getD_snoc ks _ i (by omega), getD_snoc vs _ i (by omega)]
          by_cases hlt2 : i < es.size
          · rw [if_pos hlt2, if_pos (by omega), if_pos (by omega)]
            rcases hm with rfl | ⟨hm, hlt3⟩
            · exact ⟨hrk i hlt2, hrv i hlt2⟩
            · have := hbd m hm hlt3
              cases this with
              | map _ _ b2 e2 c2 es2 clock2 hp2 hh2 hk2 hv2 hrk2 hrv2 =>
                rw [hp] at hp2
                simp only [Option.some.injEq, Prod.mk.injEq] at hp2
                obtain ⟨rfl, rfl, rfl⟩ := hp2
                rw [hh] at hh2
                simp only [Option.some.injEq, Go.Obj.map.injEq] at hh2
                obtain ⟨rfl, rfl⟩ := hh2
                exact ⟨hrk2 i hlt2, hrv2 i hlt2⟩
          · rw [if_neg hlt2, if_neg (by omega), if_neg (by omega)]
            exact ⟨.d _ _ hkv.dd, okIn_lower hxv hok hn0 hm⟩)
      refine .skip (w' := w') ?_ ⟨q1, .und, q2, PlExt.refl _ _, by rw [hlen_hset]; omega⟩
      rcases ho with ho | ho <;> (simp only [execOp, ho, hue]; rw [Sem.run_bind, hrun]; rfl)
end
end Go.Ev

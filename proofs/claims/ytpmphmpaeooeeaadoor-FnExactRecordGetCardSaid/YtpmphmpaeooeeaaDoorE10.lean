/- Each operation of compact code does what the model's operation does: parts of strings, slices and structs. -/
import Derived.Test.YtpmphmpaeooeeaaDoorE9
namespace Go.Ev
open Go
set_option linter.unusedSimpArgs false
set_option linter.unusedVariables false

section
variable {P : Program} {cl : Callf} {G : Glob} {w : World} {pl : Pl} {Bd : Nat → Prop} {H : Hp} {env : Env} {a : Act}

theorem asI_some {v : V} {n : Int} (h : asI v = some n) : ∃ k, v = .d (.int k n) := by
  unfold asI at h
  split at h
  · simp at h; subst h; exact ⟨_, rfl⟩
  · simp at h

theorem sim_idx (hG : GR G w (owned pl H)) (hH : HR w pl Bd H) (hE : RE w (owned pl H) pl (hlen H) env a) {o : Oper} {t : TypeId} {X I : Operand} (ho : o.op = .index t X I) {x i : AOpd} (hx : opdOk x X = true) (hi : opdOk i I = true) (hd : descIs P t isStr = true)
    {s : List UInt8} (hp : opd G env x = .d (.str s)) {k : Int} (hk : asI (opd G env i) = some k) (h0 : 0 ≤ k) (h1 : k < (s.length : Int)) : OpSim P o a w pl Bd H (.d (.int .u8 ((s.getD k.toNat 0).toNat : Int))) H := by
  obtain ⟨kk, hke⟩ := asI_some hk
  have hu := opd_ok hx hG hE (by rw [hp]; rfl)
  have hv := opd_ok hi hG hE (by rw [hke]; rfl)
  rw [hp] at hu
  rw [hke] at hv
  obtain ⟨t', he, htl, hsz⟩ := hu.dd.str_eq
  have hie := hv.dd.int_eq
  obtain ⟨ds, hds, hkd⟩ := descIs_some hd
  cases ds <;> simp [isStr] at hkd
  have hlt : k.toNat < t'.size := by omega
  refine .pure hH (u := .int .u8 ((s.getD k.toNat 0).toNat : Int)) ?_ (.d _ _ (.int _ _))
  have hg : t'[k.toNat]? = some (s.getD k.toNat 0) := by
    rw [ByteArray.toList_eq] at htl
    have h2 : t'.data.toList[k.toNat]? = s[k.toNat]? := by rw [htl]
    have h3 : k.toNat < s.length := by omega
    have h4 : t'[k.toNat]? = some (t'[k.toNat]'hlt) := by simp [hlt]
    rw [h4]
    congr 1
    have h5 : t'.data.toList[k.toNat]? = some (t'[k.toNat]'hlt) := by
      rw [Array.getElem?_toList]
      show t'.data[k.toNat]? = _
      rw [Array.getElem?_eq_getElem (by simpa using hlt)]
      rfl
    rw [h5, List.getElem?_eq_getElem h3] at h2
    simp only [Option.some.injEq] at h2
    rw [h2]
    simp [List.getD_eq_getElem?_getD, h3]
  simp [execOp, ho, Instr.index, he, hie, asIntOf, run_underlying hds, h0, hg]

theorem RD.drop_take {O : Own} {e : Nat} {xs : List D} {u : Value} (h : RD w O (.vals e xs) u) {l n : Nat} (hn : n ≤ xs.length) (hl : l ≤ n) :
    ∃ A cap, u = .slice A xs.length cap ∧ xs.length ≤ cap ∧ ∀ A', (l = cap ∨ A' = A.map (·.add (l * e)) ∨ l = n) → RD w O (.vals e ((xs.take n).drop l)) (.slice A' (n - l) (cap - l)) := by
  have hlen : ((xs.take n).drop l).length = n - l := by simp; omega
  by_cases hz : n - l = 0
  · have hnil : (xs.take n).drop l = [] := List.eq_nil_of_length_eq_zero (by omega)
    rw [hnil, hz]
    cases h with
    | vals0 _ A cap => exact ⟨A, cap, rfl, Nat.zero_le _, fun A' _ => .vals0 _ _ _⟩
    | vals _ _ b o cap F hcap => exact ⟨_, cap, rfl, hcap, fun A' _ => .vals0 _ _ _⟩
  · cases h with
    | vals0 => simp at hn; omega
    | vals _ _ b o cap F hcap hO hb he hc h1 hr =>
      refine ⟨_, cap, rfl, hcap, fun A' hA => ?_⟩
      have hA' : A' = some ⟨b, o + l * e, none⟩ := by
        rcases hA with h | h | h
        · omega
        · rw [h]; simp [Addr.add_lit]
        · omega
      subst hA'
      rw [← hlen]
      have hget : ∀ i, i < n - l → ((xs.take n).drop l).getD i .nilp = xs.getD (l + i) .nilp := fun i hi => by
        simp only [List.getD_eq_getElem?_getD, List.getElem?_drop]
        rw [List.getElem?_take_of_lt (by omega)]
      refine .vals e _ b (o + l * e) (cap - l) (fun i j => F (l + i) j) (by omega) hO hb (fun i hi => ?_) (fun i j hi hj => ?_) (fun i j hi hj => h1 _ _ (by omega) hj) (fun i j hi hj => ?_)
      · rw [hget i (by omega)]; exact he _ (by omega)
      · have := hc (l + i) j (by omega) hj
        rwa [Nat.add_mul, ← Nat.add_assoc] at this
      · rw [hget i (by omega)]; exact hr _ _ (by omega) hj

/-- The bounds of a slice, as the model reads them. -/
theorem run_bound {lim dflt n : Nat} {x : Option AOpd} {X : Option Operand} (hx : optOk x X = true) (h : bound G env dflt lim x = some n) (hd : dflt ≤ lim) (hG : GR G w (owned pl H)) (hE : RE w (owned pl H) pl (hlen H) env a) (c : BoundsCode) :
    n ≤ lim ∧ ((X = none ∧ n = dflt) ∨ ∃ Y k, X = some Y ∧ a.eval Y = .int k n ∧ (Instr.sliceBound (.int k n) lim c).run P w = .ok n w) := by
  unfold bound at h
  split at h
  · simp at h; subst h
    cases X <;> simp [optOk] at hx
    exact ⟨hd, .inl ⟨rfl, rfl⟩⟩
  · rename_i y
    cases X with
    | none => simp [optOk] at hx
    | some Y =>
      split at h
      · rename_i m hm
        split at h
        · rename_i hmm
          simp at h; subst h
          obtain ⟨k, hke⟩ := asI_some hm
          have hv := opd_ok (show opdOk y Y = true from hx) hG hE (by rw [hke]; rfl)
          rw [hke] at hv
          have he := hv.dd.int_eq
          have hmn : ((m.toNat : Nat) : Int) = m := by omega
          refine ⟨by omega, .inr ⟨Y, k, rfl, by rw [he, hmn], ?_⟩⟩
          rw [hmn]
          simp [Instr.sliceBound, asIntOf, hmm]
        · simp at h
      · simp at h

theorem run_bounds {len cap l h : Nat} {lo hi : Option AOpd} {Lo Hi : Option Operand} (hlo : optOk lo Lo = true) (hhi : optOk hi Hi = true) (hh : bound G env len len hi = some h) (hl : bound G env 0 h lo = some l) (hc : len ≤ cap) (isSlice : Bool) (hG : GR G w (owned pl H)) (hE : RE w (owned pl H) pl (hlen H) env a) :
    h ≤ len ∧ l ≤ h ∧ (Instr.sliceBounds isSlice len cap (Lo.map a.eval) (Hi.map a.eval) none).run P w = .ok (l, h, cap) w := by
  obtain ⟨h1, h2⟩ := run_bound (P := P) hhi hh (Nat.le_refl _) hG hE .sliceAlen
  obtain ⟨l1, l2⟩ := run_bound (P := P) hlo hl (Nat.zero_le _) hG hE .sliceB
  refine ⟨h1, l1, ?_⟩
  have hbnd : ∀ (k : IntKind) (n lim : Nat) (c : BoundsCode), n ≤ lim → (Instr.sliceBound (.int k n) lim c).run P w = .ok n w := fun k n lim c hn => by
    simp [Instr.sliceBound, asIntOf, hn]
  have hz : ∀ (k : IntKind) (lim : Nat) (c : BoundsCode), (Instr.sliceBound (.int k 0) lim c).run P w = .ok 0 w := fun k lim c => by
    simp [Instr.sliceBound, asIntOf]
  rcases h2 with ⟨rfl, rfl⟩ | ⟨Y, k, rfl, hY, _⟩
  · rcases l2 with ⟨rfl, rfl⟩ | ⟨Z, k2, rfl, hZ, _⟩
    · simp [Instr.sliceBounds]
    · simp [Instr.sliceBounds, hZ, hbnd k2 l h .sliceB l1]
  · have hb : (Instr.sliceBound (.int k h) cap (if isSlice = true then .sliceAcap else .sliceAlen)).run P w = .ok h w := hbnd _ _ _ _ (by omega)
    rcases l2 with ⟨rfl, rfl⟩ | ⟨Z, k2, rfl, hZ, _⟩
    · simp only [Instr.sliceBounds, Option.map_some, Option.map_none, hY, Sem.run_bind, Sem.run_pure, Result.andThen_ok, hb]
    · simp only [Instr.sliceBounds, Option.map_some, hY, hZ, Sem.run_bind, Sem.run_pure, Result.andThen_ok, hb]
      simp [hbnd k2 l h .sliceB l1]

theorem sim_sliceStr (hG : GR G w (owned pl H)) (hH : HR w pl Bd H) (hE : RE w (owned pl H) pl (hlen H) env a) {o : Oper} {t : TypeId} {X : Operand} {Lo Hi : Option Operand} (ho : o.op = .slice t X Lo Hi none) {x : AOpd} {lo hi : Option AOpd} (hx : opdOk x X = true) (hlo : optOk lo Lo = true) (hhi : optOk hi Hi = true)
    (hd : descIs P t isStr = true) {s : List UInt8} (hp : opd G env x = .d (.str s)) {h l : Nat} (hh : bound G env s.length s.length hi = some h) (hl : bound G env 0 h lo = some l) : OpSim P o a w pl Bd H (.d (.str ((s.take h).drop l))) H := by
  have hu := opd_ok hx hG hE (by rw [hp]; rfl)
  rw [hp] at hu
  obtain ⟨t', he, htl, hsz⟩ := hu.dd.str_eq
  obtain ⟨ds, hds, hkd⟩ := descIs_some hd
  cases ds <;> simp [isStr] at hkd
  rw [← hsz] at hh
  obtain ⟨h1, h2, h3⟩ := run_bounds (P := P) hlo hhi hh hl (Nat.le_refl _) false hG hE
  refine .pure hH (u := .string (t'.extract l h)) ?_ (.d _ _ (.str _ _ ?_))
  · simp [execOp, ho, Instr.sliceAt, run_underlying hds, he, Instr.slice, h3]
  · rw [ByteArray.toList_eq] at htl
    rw [← htl]
    simp [ByteArray.data_extract, Array.toList_extract]
    rw [List.drop_take]

theorem sim_sliceVals (hG : GR G w (owned pl H)) (hH : HR w pl Bd H) (hE : RE w (owned pl H) pl (hlen H) env a) {o : Oper} {t : TypeId} {X : Operand} {Lo Hi : Option Operand} (ho : o.op = .slice t X Lo Hi none) {x : AOpd} {lo hi : Option AOpd} (hx : opdOk x X = true) (hlo : optOk lo Lo = true) (hhi : optOk hi Hi = true)
    {e : Nat} (hd : elemIs P t e = true) {xs : List D} (hp : opd G env x = .d (.vals e xs)) {h l : Nat} (hh : bound G env xs.length xs.length hi = some h) (hl : bound G env 0 h lo = some l) : OpSim P o a w pl Bd H (.d (.vals e ((xs.take h).drop l))) H := by
  have hu := opd_ok hx hG hE (by rw [hp]; rfl)
  rw [hp] at hu
  unfold elemIs at hd
  split at hd
  · rename_i el hel
    have hds := sliceOf_some hel
    have hhl : h ≤ xs.length := (run_bound (P := P) hhi hh (Nat.le_refl _) hG hE .sliceAlen).1
    have hlh : l ≤ h := (run_bound (P := P) hlo hl (Nat.zero_le _) hG hE .sliceAlen).1
    obtain ⟨A, cap, hue, hcap, hrd⟩ := hu.dd.drop_take hhl hlh
    obtain ⟨h1, h2, h3⟩ := run_bounds (P := P) hlo hhi hh hl hcap true hG hE
    refine .pure hH (u := .slice (if cap = l then A else A.map (·.add (l * e))) (h - l) (cap - l)) ?_ (.d _ _ (hrd _ ?_))
    · simp [execOp, ho, Instr.sliceAt, run_underlying hds, hue, Instr.slice, h3, run_sizeOf hd]
    · split
      · rename_i hcl; exact .inl hcl.symm
      · exact .inr (.inl rfl)
  · simp at hd

theorem sim_sliceSlc (hG : GR G w (owned pl H)) (hH : HR w pl Bd H) (hE : RE w (owned pl H) pl (hlen H) env a) {o : Oper} {t : TypeId} {X : Operand} {Lo Hi : Option Operand} (ho : o.op = .slice t X Lo Hi none) {x : AOpd} {lo hi : Option AOpd} (hx : opdOk x X = true) (hlo : optOk lo Lo = true) (hhi : optOk hi Hi = true)
    {e : Nat} (hd : elemIs P t e = true) {r g i n : Nat} (hp : opd G env x = .slc r g i n) {xs : List V} (hrow : rowOf H r g = some (e, xs)) {h l : Nat} (hh : bound G env n n hi = some h) (hl : bound G env 0 h lo = some l) : OpSim P o a w pl Bd H (.slc r g (i + l) (h - l)) H := by
  have hu := opd_ok hx hG hE (by rw [hp]; rfl)
  rw [hp] at hu
  obtain ⟨b, c, arr, ty, fr, hpl, _⟩ := row_lies hH hrow
  unfold elemIs at hd
  split at hd
  · rename_i el hel
    have hds := sliceOf_some hel
    have hhl : h ≤ n := (run_bound (P := P) hhi hh (Nat.le_refl _) hG hE .sliceAlen).1
    have hlh : l ≤ h := (run_bound (P := P) hlo hl (Nat.zero_le _) hG hE .sliceAlen).1
    generalize hue : a.eval X = u at hu
    cases hu with
    | slc _ _ _ _ b' e' c' hlt hp' hk =>
      rw [hpl] at hp'
      simp only [Option.some.injEq, Prod.mk.injEq] at hp'
      obtain ⟨rfl, rfl, rfl⟩ := hp'
      obtain ⟨h1, h2, h3⟩ := run_bounds (P := P) hlo hhi hh hl (show n ≤ c - i by omega) true hG hE
      refine .pure hH (u := .slice (if c - i = l then some ⟨b, i * e, none⟩ else some ⟨b, i * e + l * e, none⟩) (h - l) (c - i - l)) ?_ ?_
      · simp [execOp, ho, Instr.sliceAt, run_underlying hds, hue, Instr.slice, h3, run_sizeOf hd, Addr.add_lit]
      · split
        · rename_i hcl
          have hz : h - l = 0 := by omega
          rw [hz]
          by_cases h0 : i + l = 0
          · obtain ⟨rfl, rfl⟩ : i = 0 ∧ l = 0 := by omega
            exact rv_slc hlt hpl (by omega) (by simp) (by omega)
          · exact .slc0 _ _ _ _ _ (by omega) hlt
        · exact rv_slc hlt hpl (by omega) (by rw [Nat.add_mul]) (by omega)
    | slc0 _ _ _ A cap hi' hlt =>
      obtain ⟨h1, h2, h3⟩ := run_bounds (P := P) hlo hhi hh hl (show 0 ≤ cap by omega) true hG hE
      refine .pure hH (u := .slice (if cap = l then A else A.map (·.add (l * e))) (h - l) (cap - l)) ?_ ?_
      · simp [execOp, ho, Instr.sliceAt, run_underlying hds, hue, Instr.slice, h3, run_sizeOf hd]
      · have hz : h - l = 0 := by omega
        rw [hz]
        exact .slc0 _ _ _ _ _ (by omega) hlt
  · simp at hd
end
end Go.Ev

/- Functions: how they end, and that the evaluator says what the program does. -/
import Derived.Test.YtpmphmpaeooeeaaDoorE23
namespace Go.Ev
open Go
set_option linter.unusedSimpArgs false
set_option linter.unusedVariables false

section
variable {P : Program}

theorem sem_assoc {α β γ : Type} (x : Sem α) (f : α → Sem β) (g : β → Sem γ) : (x.bind f).bind g = x.bind (fun a => (f a).bind g) := by
  induction x <;> simp only [Sem.bind] <;> first | rfl | (congr 1; funext y; apply_assumption) | simp_all
theorem sem_lawful : LawfulMonad Sem := LawfulMonad.mk' Sem (id_map := by intro α x; show Sem.bind x _ = x; induction x <;> simp only [Sem.bind] <;> first | rfl | (congr 1; funext y; apply_assumption) | simp_all) (pure_bind := fun _ _ => rfl) (bind_assoc := fun x f g => sem_assoc x f g)

theorem run_mapL {α : Type} {f : α → Sem Value} {w : World} : ∀ {as : List α} {us : List Value}, us.length = as.length → (∀ i x, as[i]? = some x → (f x).run P w = .ok (us.getD i undef) w) → (as.mapM f).run P w = .ok us w
  | [], [], _, _ => by haveI := sem_lawful; simp [List.mapM_nil]
  | [], _ :: _, h, _ => by simp at h
  | _ :: _, [], h, _ => by simp at h
  | a :: as, u :: us, hl, h => by
    haveI := sem_lawful
    have h0 := h 0 a (by simp)
    have h1 := run_mapL (as := as) (us := us) (by simpa using hl) (fun i x hx => h (i + 1) x (by simpa using hx))
    rw [List.mapM_cons, Sem.run_bind, h0]
    simp only [List.getD_cons_zero]
    show Sem.run P (List.mapM f as >>= fun l => pure (u :: l)) w = _
    rw [Sem.run_bind, h1]
    rfl

theorem run_mapArr {α : Type} {f : α → Sem Value} {as : Array α} {us : List Value} {w : World} (hl : us.length = as.toList.length) (h : ∀ i x, as.toList[i]? = some x → (f x).run P w = .ok (us.getD i undef) w) : (as.mapM f).run P w = .ok us.toArray w := by
  haveI := sem_lawful
  rw [Array.mapM_eq_mapM_toList, map_eq_pure_bind, Sem.run_bind, run_mapL hl h]
  rfl

def resOk (P : Program) : List ARes → List ResultVar → Bool
  | [], [] => true
  | .tmp t :: r, .tmp u :: s => Nat.beq t u && resOk P r s
  | .cell t ag n :: r, .cell u ty :: s => Nat.beq t u && aggIs P ty ag && szIs P ty n && resOk P r s
  | _, _ => false

def retOf (vs : Array Value) : Value := if h : vs.size = 1 then vs[0] else .tuple vs

variable {w : World} {pl : Pl} {Bd : Nat → Prop} {H : Hp} {env : Env} {a : Act}

/-- What one result holds. -/
def resRun (P : Program) (a : Act) (w : World) (x : ResultVar) (u : Value) : Prop := (match x with
  | .tmp t => (pure (a.tmps.getD t undef) : Sem Value)
  | .cell c t => do loadVar t (← asAddr (a.tmps.getD c undef))).run P w = .ok u w

theorem res_ok (hH : HR w pl Bd H) (hE : RE w (owned pl H) pl (hlen H) env a) : ∀ (rs : List ARes) (xs : List ResultVar) (vs : List V), resOk P rs xs = true → resOf env H rs = some vs →
    ∃ us : List Value, us.length = xs.length ∧ vs.length = xs.length ∧ (∀ i x, xs[i]? = some x → resRun P a w x (us.getD i undef)) ∧ ∀ i, i < vs.length → (vs.getD i .any).ok = true → RV w (owned pl H) pl (hlen H) (vs.getD i .any) (us.getD i undef)
  | [], [], vs, _, h => by
    simp only [resOf, Option.some.injEq] at h; subst h
    exact ⟨[], rfl, rfl, fun i x hx => by simp at hx, fun i hi => by simp at hi⟩
  | [], _ :: _, _, hc, _ => by simp [resOk] at hc
  | .tmp _ :: _, [], _, hc, _ => by simp [resOk] at hc
  | .cell _ _ _ :: _, [], _, hc, _ => by simp [resOk] at hc
  | .tmp _ :: _, .cell _ _ :: _, _, hc, _ => by simp [resOk] at hc
  | .cell _ _ _ :: _, .tmp _ :: _, _, hc, _ => by simp [resOk] at hc
  | .tmp t :: rs, .tmp u :: xs, vs, hc, h => by
    simp only [resOk, Bool.and_eq_true] at hc
    have htu := Nat.eq_of_beq_eq_true hc.1
    subst htu
    simp only [resOf] at h
    split at h
    · rename_i vs' hvs
      simp only [Option.some.injEq] at h; subst h
      obtain ⟨us, h1, h2, h3, h4⟩ := res_ok hH hE rs xs vs' hc.2 hvs
      refine ⟨a.tmps.getD t undef :: us, by simp [h1], by simp [h2], fun i x hx => ?_, fun i hi hk => ?_⟩
      · cases i with
        | zero => simp only [List.getElem?_cons_zero, Option.some.injEq] at hx; subst hx; simp [resRun]
        | succ i => exact h3 i x (by simpa using hx)
      · cases i with
        | zero => exact hE t hk
        | succ i => exact h4 i (by simpa using hi) hk
    · simp at h
  | .cell t ag n :: rs, .cell u ty :: xs, vs, hc, h => by
    simp only [resOk, Bool.and_eq_true] at hc
    obtain ⟨⟨⟨c1, c2⟩, c3⟩, c4⟩ := hc
    have htu := Nat.eq_of_beq_eq_true c1
    subst htu
    simp only [resOf] at h
    split at h
    · rename_i p g i j hp
      split at h
      · rename_i cs hcs
        split at h
        · rename_i v vs' hv hvs
          simp only [Option.some.injEq] at h; subst h
          obtain ⟨us, h1, h2, h3, h4⟩ := res_ok hH hE rs xs vs' c4 hvs
          have hu := hE t (by rw [hp]; rfl)
          rw [hp] at hu
          obtain ⟨b, off, uc, hue, hrc, hn, hk⟩ := load_ptr hH hcs hu
          obtain ⟨x, hrun, hrv⟩ := run_loadVar c2 c3 hn hk hrc hv
          refine ⟨x :: us, by simp [h1], by simp [h2], fun i y hy => ?_, fun i hi hk => ?_⟩
          · cases i with
            | zero => simp only [List.getElem?_cons_zero, Option.some.injEq] at hy; subst hy; simp [resRun, hue, asAddr, hrun]
            | succ i => exact h3 i y (by simpa using hy)
          · cases i with
            | zero => exact hrv
            | succ i => exact h4 i (by simpa using hi) hk
        · simp at h
      · simp at h
    · simp at h

theorem run_results {fn : Func} {us : List Value} (hl : us.length = fn.results.toList.length) (h : ∀ i x, fn.results.toList[i]? = some x → resRun P a w x (us.getD i undef)) : (results fn a.tmps).run P w = .ok (retOf us.toArray) w := by
  unfold results
  rw [Sem.run_bind, run_mapArr hl (fun i x hx => by
    have := h i x hx
    unfold resRun at this
    exact this)]
  rfl

theorem fzC_known {n : Nat} {v v' : V} (h : fzC n H v = some v') : v.ok = true := by
  cases v <;> first | rfl | (simp [fzC, fz, deep] at h)
theorem fzV_known {n : Nat} {v v' : V} (h : fzV n H v = some v') : v.ok = true := by
  cases v <;> first | rfl | (simp [fzV, fzC, fz, deep] at h)

theorem rv_tup {O : Own} {n : Nat} {ws : List V} {us : List Value} (hl : us.length = ws.length) (h : ∀ i, i < ws.length → RV w O pl n (ws.getD i .any) (us.getD i undef)) : RV w O pl n (tupOf ws) (retOf us.toArray) := by
  match ws, us, hl, h with
  | [v], [u], _, h => simpa [tupOf, retOf] using h 0 (by simp)
  | [], [], _, h => exact .tup _ _ rfl (fun i hi => by simp at hi)
  | v :: v2 :: vs, us, hl, h =>
    have : us.length ≠ 1 := by simp at hl; omega
    have h1 : retOf us.toArray = .tuple us.toArray := by simp [retOf, this]
    rw [h1]
    refine .tup _ _ (by simpa using hl) fun i hi => ?_
    have := h i hi
    simpa [List.getD_eq_getElem?_getD] using this

/-! ### Slices that come back as the caller's rows -/
structure OwnInv (w : World) (pl0 : Pl) (H0 : Hp) (n : Nat) (H : Hp) (plb : Pl) (Bd : Nat → Prop) (base : Hp) : Prop where
  obj : ∀ r o, hget base r = some o → OR w (owned pl0 H0) plb (hlen base) r o
  inj : ∀ r r' b, blk plb base r = some b → blk plb base r' = some b → r = r'
  bd : ∀ m, Bd m → ∀ r o, r < m → hget base r = some o → OR w (owned pl0 H0) plb m r o
  bdle : ∀ m, Bd m → m ≤ n
  le : n ≤ hlen base
  ple : PlExt n pl0 plb
  /-- What is left is as it was. -/
  same : ∀ r o, hget H r = some o → o = .dead ∨ hget H0 r = some o
  own : ∀ b, owned plb base b → owned pl0 H0 b
  /-- What belongs to the new ones is left to nobody. -/
  apart : ∀ r b, n ≤ r → blk pl0 H r = some b → ¬ owned plb base b

theorem OwnInv.ext {pl0 : Pl} {H0 : Hp} {n : Nat} {plb : Pl} {base : Hp} (h : OwnInv w pl0 H0 n H plb Bd base) : Ext w (owned pl0 H0) w (owned plb base) :=
  ⟨rfl, rfl, rfl, Nat.le_refl _, fun b _ hO => ⟨rfl, fun hb => hO (h.own b hb)⟩⟩

theorem OwnInv.hr {pl0 : Pl} {H0 : Hp} {n : Nat} {plb : Pl} {base : Hp} (h : OwnInv w pl0 H0 n H plb Bd base) : HR w plb Bd base :=
  ⟨fun r o ho => (h.obj r o ho).mono h.ext (PlExt.refl _ _) (Nat.le_refl _) rfl (fun _ _ _ _ _ => rfl), h.inj, fun m hm r o hr ho => (h.bd m hm r o hr ho).mono h.ext (PlExt.refl _ _) (Nat.le_refl _) rfl (fun _ _ _ _ _ => rfl),
    fun m hm => Nat.le_trans (h.bdle m hm) h.le⟩

/-- One step further. -/
structure OwnTo (w : World) (pl0 : Pl) (H0 : Hp) (n : Nat) (plb : Pl) (Bd : Nat → Prop) (base : Hp) (H' : Hp) (plb' : Pl) (base' : Hp) : Prop where
  inv : OwnInv w pl0 H0 n H' plb' Bd base'
  ple : PlExt (hlen base) plb plb'
  le : hlen base ≤ hlen base'

theorem own_push {pl0 : Pl} {H0 : Hp} {n : Nat} {B0 : Nat → Prop} (hH0 : HR w pl0 B0 H0) {plb : Pl} {base : Hp} (hI : OwnInv w pl0 H0 n H plb Bd base) {r g e b c : Nat} {xs ys : List V} {arr : Array Value} {ty : TypeId} {fr : Nat × Nat} (hge : n ≤ r) (hgr : hget H r = some (.row g e xs)) (hg0 : hget H0 r = some (.row g e xs))
    (hp : pl0 r g = some (b, e, c)) (hh : w.heap[b]? = some (.cells arr ty fr)) (hsa : arr.size = c * e) (hf : Unfrozen fr arr.size) (hyc : ys.length ≤ c) (hye : ∀ i, i < ys.length → (ys.getD i .any).cells.length = e)
    (hyr : ∀ i j, i < ys.length → j < e → RV w (owned pl0 H0) plb (hlen base) ((ys.getD i .any).cells.getD j .any) (arr.getD (i * e + j) undef)) (h1 : ∀ i j, i < ys.length → j < e → (arr.getD (i * e + j) undef).oneCell' = true) :
    OwnTo w pl0 H0 n plb Bd base (hset H r .dead) (plNew plb (hlen base) (b, e, c)) (hpush base (.row 0 e ys)) := by
  have hbl0 : blk pl0 H0 r = some b := by simp [blk, hg0, hp]
  have hbl : blk pl0 H r = some b := by simp [blk, hgr, hp]
  have hnb : ¬ owned plb base b := hI.apart r b hge hbl
  have hbn : blk (plNew plb (hlen base) (b, e, c)) (hpush base (.row 0 e ys)) (hlen base) = some b := by simp [blk, hget_hpush_self, plNew_self]
  have hcase : ∀ r' b', blk (plNew plb (hlen base) (b, e, c)) (hpush base (.row 0 e ys)) r' = some b' → (r' = hlen base ∧ b' = b) ∨ (r' < hlen base ∧ blk plb base r' = some b') := by
    intro r' b' hr'
    rcases Nat.lt_trichotomy r' (hlen base) with hlt | heq | hgt
    · exact .inr ⟨hlt, by rwa [blk_push_lt hlt] at hr'⟩
    · subst heq; rw [hbn] at hr'; exact .inl ⟨rfl, by simpa using hr'.symm⟩
    · obtain ⟨o', ho'⟩ := blk_lt hr'
      have := hget_lt ho'
      rw [hlen_hpush] at this
      omega
  have hpl : PlExt (hlen base) plb (plNew plb (hlen base) (b, e, c)) := fun r hr g p hp => by rw [plNew_ne (by omega)]; exact hp
  have hle := hI.le
  have hkill : ∀ r' b', blk pl0 (hset H r .dead) r' = some b' → r' ≠ r ∧ blk pl0 H r' = some b' := by
    intro r' b' hb
    by_cases hne : r' = r
    · subst hne
      obtain ⟨o, ho⟩ := blk_lt hb
      have := hget_lt ho
      rw [hlen_hset] at this
      unfold blk at hb
      rw [hget_hset_self _ this] at hb
      simp at hb
    · refine ⟨hne, ?_⟩
      unfold blk at hb ⊢
      rwa [hget_hset_ne _ hne] at hb
  refine ⟨⟨?_, ?_, ?_, hI.bdle, by rw [hlen_hpush]; omega, hI.ple.trans (hpl.le hle), ?_, ?_, ?_⟩, hpl, by rw [hlen_hpush]; omega⟩
  · intro r' o ho
    have hlt := hget_lt ho
    rw [hlen_hpush] at hlt ⊢
    rcases Nat.lt_or_eq_of_le (Nat.lt_succ_iff.1 hlt) with hlt' | heq
    · rw [hget_hpush_lt _ hlt'] at ho
      exact (hI.obj r' o ho).mono (Ext.refl _ _) hpl (by omega) (by rw [plNew_ne (by omega)]) (fun _ _ _ _ _ => rfl)
    · subst heq
      rw [hget_hpush_self] at ho
      obtain rfl := Option.some.inj ho
      refine .row 0 e ys b c arr ty fr (plNew_self ..) hh hsa hf hyc hye (fun i' j hi hj => ?_) h1 (fun g' hg' => ?_)
      · exact (hyr i' j hi hj).mono (Ext.refl _ _) hpl (by omega)
      · show (if hlen base = hlen base then (if g' = 0 then some (b, e, c) else none) else plb (hlen base) g') = none
        rw [if_pos rfl, if_neg (by omega)]
  · intro r1 r2 b1 k1 k2
    rcases hcase _ _ k1 with ⟨x1, y1⟩ | ⟨x1, y1⟩ <;> rcases hcase _ _ k2 with ⟨x2, y2⟩ | ⟨x2, y2⟩
    · omega
    · exact absurd ⟨r2, by rw [y2, y1]⟩ hnb
    · exact absurd ⟨r1, by rw [y1, y2]⟩ hnb
    · exact hI.inj r1 r2 b1 y1 y2
  · intro m hm r' o hr' ho
    have hmn := hI.bdle m hm
    rw [hget_hpush_lt _ (by omega)] at ho
    exact (hI.bd m hm r' o hr' ho).mono (Ext.refl _ _) (hpl.le (by omega)) (Nat.le_refl _) (by rw [plNew_ne (by omega)]) (fun _ _ _ _ _ => rfl)
  · intro r' o ho
    by_cases hne : r' = r
    · subst hne
      have := hget_lt ho
      rw [hlen_hset] at this
      rw [hget_hset_self _ this] at ho
      exact .inl (by simpa using ho.symm)
    · rw [hget_hset_ne _ hne] at ho
      exact hI.same r' o ho
  · rintro b' ⟨r', hr'⟩
    rcases hcase _ _ hr' with ⟨x1, rfl⟩ | ⟨x1, y1⟩
    · exact ⟨r, hbl0⟩
    · exact hI.own b' ⟨r', y1⟩
  · rintro r' b' hn hb' ⟨r2, hr2⟩
    obtain ⟨hne, hb2⟩ := hkill r' b' hb'
    rcases hcase _ _ hr2 with ⟨x1, rfl⟩ | ⟨x1, y1⟩
    · obtain ⟨o, ho⟩ := blk_lt hb2
      rcases hI.same r' o ho with rfl | h0
      · simp [blk, ho] at hb2
      · have : blk pl0 H0 r' = some b' := by
          unfold blk at hb2 ⊢
          rw [ho] at hb2
          rw [h0]; exact hb2
        exact hne (hH0.inj r' r b' this hbl0)
    · exact hI.apart r' b' hn hb2 ⟨r2, y1⟩

theorem own_move {pl0 : Pl} {H0 : Hp} {n : Nat} {B0 : Nat → Prop} (hH0 : HR w pl0 B0 H0) {plb : Pl} {base : Hp} (hI : OwnInv w pl0 H0 n H plb Bd base) {r g e : Nat} {xs : List V} {ds : List D} (hge : n ≤ r) (hrow : rowOf H r g = some (e, xs)) (hds : allD xs = some ds) :
    ∃ b c, pl0 r g = some (b, e, c) ∧ OwnTo w pl0 H0 n plb Bd base (hset H r .dead) (plNew plb (hlen base) (b, e, c)) (hpush base (.row 0 e xs)) := by
  have hxs := allD_some hds
  have hgr := hget_row hrow
  rcases hI.same r _ hgr with hd | hg0
  · simp at hd
  obtain ⟨b, c, arr, ty, fr, hp, hh, hsa, hf, hxc, he, hr, h1, _⟩ := row_lies hH0 (show rowOf H0 r g = some (e, xs) by simp [rowOf, hg0])
  refine ⟨b, c, hp, own_push hH0 hI hge hgr hg0 hp hh hsa hf hxc he (fun i' j hi hj => ?_) h1⟩
  have := hr i' j hi hj
  subst hxs
  have hi' : i' < ds.length := by simpa using hi
  have hel := he i' hi
  rw [getD_map_d ds i' hi', cells_d] at hel
  rw [List.length_map] at hel
  rw [getD_d hi' (by omega)] at this ⊢
  exact .d _ _ this.dd

theorem own1_ok {pl0 : Pl} {H0 : Hp} {n : Nat} {B0 : Nat → Prop} (hH0 : HR w pl0 B0 H0) {plb : Pl} {base : Hp} (hI : OwnInv w pl0 H0 n H plb Bd base) {v v' : V} {H' base' : Hp} (h : own1 n H base v = some (v', H', base')) {u : Value} (hu : RV w (owned pl0 H0) pl0 (hlen H0) v u) :
    ∃ plb', OwnTo w pl0 H0 n plb Bd base H' plb' base' ∧ RV w (owned pl0 H0) plb' (hlen base') v' u := by
  have hle := hI.le
  unfold own1 at h
  split at h
  · simp only [Option.some.injEq, Prod.mk.injEq] at h
    obtain ⟨rfl, rfl, rfl⟩ := h
    exact ⟨plb, ⟨hI, PlExt.refl _ _, Nat.le_refl _⟩, .d _ _ hu.dd⟩
  · simp only [Option.some.injEq, Prod.mk.injEq] at h
    obtain ⟨rfl, rfl, rfl⟩ := h
    refine ⟨plb, ⟨hI, PlExt.refl _ _, Nat.le_refl _⟩, ?_⟩
    cases hu with
    | nils => exact .nils _ _
  · rename_i r g i k
    split at h
    · rename_i hlt
      simp only [Option.some.injEq, Prod.mk.injEq] at h
      obtain ⟨rfl, rfl, rfl⟩ := h
      refine ⟨plb, ⟨hI, PlExt.refl _ _, Nat.le_refl _⟩, ?_⟩
      cases hu with
      | slc _ _ _ _ b e c _ hp hk => exact .slc _ _ _ _ b e c (by omega) (hI.ple r hlt g _ hp) hk
      | slc0 _ _ _ A cap hi _ => exact .slc0 _ _ _ A cap hi (by omega)
    · rename_i hge
      split at h
      · rename_i e xs hrow
        split at h
        · rename_i ds hds
          simp only [Option.some.injEq, Prod.mk.injEq] at h
          obtain ⟨rfl, rfl, rfl⟩ := h
          obtain ⟨b, c, hp, ht⟩ := own_move hH0 hI (by omega) hrow hds
          refine ⟨_, ht, ?_⟩
          cases hu with
          | slc _ _ _ _ b2 e2 c2 hr2 hp2 hk =>
            rw [hp] at hp2
            simp only [Option.some.injEq, Prod.mk.injEq] at hp2
            obtain ⟨rfl, rfl, rfl⟩ := hp2
            exact .slc _ _ _ _ b e c (by rw [hlen_hpush]; omega) (plNew_self ..) hk
          | slc0 _ _ _ A cap hi _ => omega
        · simp at h
      · simp at h
  · rename_i r g i k
    split at h
    · rename_i hlt
      simp only [Option.some.injEq, Prod.mk.injEq] at h
      obtain ⟨rfl, rfl, rfl⟩ := h
      refine ⟨plb, ⟨hI, PlExt.refl _ _, Nat.le_refl _⟩, ?_⟩
      cases hu with
      | ptr _ _ _ _ b e c _ hp => exact .ptr _ _ _ _ b e c (by omega) (hI.ple r hlt g _ hp)
    · rename_i hge
      split at h
      · rename_i e xs hrow
        split at h
        · rename_i ds hds
          simp only [Option.some.injEq, Prod.mk.injEq] at h
          obtain ⟨rfl, rfl, rfl⟩ := h
          obtain ⟨b, c, hp, ht⟩ := own_move hH0 hI (by omega) hrow hds
          refine ⟨_, ht, ?_⟩
          cases hu with
          | ptr _ _ _ _ b2 e2 c2 hr2 hp2 =>
            rw [hp] at hp2
            simp only [Option.some.injEq, Prod.mk.injEq] at hp2
            obtain ⟨rfl, rfl, rfl⟩ := hp2
            exact .ptr _ _ _ _ b e c (by rw [hlen_hpush]; omega) (plNew_self ..)
        · simp at h
      · simp at h
  · simp at h

theorem own1_sto {n : Nat} {base : Hp} {v : V} {r : V × Hp × Hp} (h : own1 n H base v = some r) : r.1.sto = true := by
  unfold own1 at h
  split at h
  · simp only [Option.some.injEq] at h; subst h; rfl
  · simp only [Option.some.injEq] at h; subst h; rfl
  · split at h
    · simp only [Option.some.injEq] at h; subst h; rfl
    · split at h
      · split at h
        · simp only [Option.some.injEq] at h; subst h; rfl
        · simp at h
      · simp at h
  · split at h
    · simp only [Option.some.injEq] at h; subst h; rfl
    · split at h
      · split at h
        · simp only [Option.some.injEq] at h; subst h; rfl
        · simp at h
      · simp at h
  · simp at h

/-- What is asked of a way to hand a value over. -/
structure OwnOk (w : World) (pl0 : Pl) (H0 : Hp) (n : Nat) (Bd : Nat → Prop) (f : Hp → Hp → V → Option (V × Hp × Hp)) : Prop where
  ok : ∀ {H plb base v v' H' base' u}, OwnInv w pl0 H0 n H plb Bd base → f H base v = some (v', H', base') → RV w (owned pl0 H0) pl0 (hlen H0) v u → ∃ plb', OwnTo w pl0 H0 n plb Bd base H' plb' base' ∧ RV w (owned pl0 H0) plb' (hlen base') v' u
  sto : ∀ {H base v r}, f H base v = some r → r.1.sto = true
  known : ∀ {H base v r}, f H base v = some r → v.ok = true

theorem own1_OwnOk {pl0 : Pl} {H0 : Hp} {n : Nat} {B0 : Nat → Prop} (hH0 : HR w pl0 B0 H0) : OwnOk w pl0 H0 n Bd (own1 n) :=
  ⟨fun hI h hu => own1_ok hH0 hI h hu, fun h => own1_sto h, fun {H base v r} h => by cases v <;> first | rfl | (simp [own1] at h)⟩

theorem OwnTo.refl {pl0 : Pl} {H0 : Hp} {n : Nat} {plb : Pl} {base : Hp} (h : OwnInv w pl0 H0 n H plb Bd base) : OwnTo w pl0 H0 n plb Bd base H plb base := ⟨h, PlExt.refl _ _, Nat.le_refl _⟩
theorem OwnTo.trans {pl0 : Pl} {H0 : Hp} {n : Nat} {plb : Pl} {base H1 base1 H2 base2 : Hp} {plb1 plb2 : Pl} (h : OwnTo w pl0 H0 n plb Bd base H1 plb1 base1) (k : OwnTo w pl0 H0 n plb1 Bd base1 H2 plb2 base2) : OwnTo w pl0 H0 n plb Bd base H2 plb2 base2 :=
  ⟨k.inv, h.ple.trans (k.ple.le h.le), Nat.le_trans h.le k.le⟩

theorem ownCs_ok {pl0 : Pl} {H0 : Hp} {n : Nat} {f : Hp → Hp → V → Option (V × Hp × Hp)} (hf : OwnOk w pl0 H0 n Bd f) : ∀ (vs : List V) (us : List Value) (H : Hp) (plb : Pl) (base : Hp) (ws : List V) (H' base' : Hp), OwnInv w pl0 H0 n H plb Bd base → ownCs f H base vs = some (ws, H', base') → us.length = vs.length →
    (∀ i, i < vs.length → RV w (owned pl0 H0) pl0 (hlen H0) (vs.getD i .any) (us.getD i undef)) →
    ∃ plb', OwnTo w pl0 H0 n plb Bd base H' plb' base' ∧ ws.length = vs.length ∧ ∀ i, i < ws.length → RV w (owned pl0 H0) plb' (hlen base') (ws.getD i .any) (us.getD i undef)
  | [], us, H, plb, base, ws, H', base', hI, h, hl, hu => by
    simp only [ownCs, Option.some.injEq, Prod.mk.injEq] at h
    obtain ⟨rfl, rfl, rfl⟩ := h
    exact ⟨plb, .refl hI, rfl, fun i hi => by simp at hi⟩
  | v :: vs, [], H, plb, base, ws, H', base', hI, h, hl, hu => by simp at hl
  | v :: vs, u :: us, H, plb, base, ws, H', base', hI, h, hl, hu => by
    simp only [ownCs] at h
    split at h
    · rename_i x H1 base1 h1
      obtain ⟨plb1, t1, r1⟩ := hf.ok hI h1 (hu 0 (by simp))
      split at h
      · rename_i xs H2 base2 h2
        simp only [Option.some.injEq, Prod.mk.injEq] at h
        obtain ⟨rfl, rfl, rfl⟩ := h
        obtain ⟨plb2, t2, l2, r2⟩ := ownCs_ok hf vs us H1 plb1 base1 xs H2 base2 t1.inv h2 (by simpa using hl) (fun i hi => hu (i + 1) (by simpa using hi))
        refine ⟨plb2, t1.trans t2, by simp [l2], fun i hi => ?_⟩
        cases i with
        | zero => exact r1.mono (Ext.refl _ _) t2.ple t2.le
        | succ i => exact r2 i (by simpa using hi)
      · simp at h
    · simp at h

theorem mkAgg_sto (cs : List V) : (mkAgg cs).sto = true := by
  unfold mkAgg
  split <;> rfl

theorem ownEl_ok {pl0 : Pl} {H0 : Hp} {n : Nat} {f : Hp → Hp → V → Option (V × Hp × Hp)} (hf : OwnOk w pl0 H0 n Bd f) : OwnOk w pl0 H0 n Bd (ownEl f) := by
  refine ⟨fun {H plb base v v' H' base' u} hI h hu => ?_, fun {H base v r} h => ?_, fun {H base v r} h => ?_⟩
  · unfold ownEl at h
    split at h
    · rename_i cs
      split at h
      · rename_i ys H1 base1 h1
        simp only [Option.some.injEq, Prod.mk.injEq] at h
        obtain ⟨rfl, rfl, rfl⟩ := h
        cases hu with
        | agg _ us hl ho hr =>
          obtain ⟨plb', t, l, r⟩ := ownCs_ok hf cs us.toList H plb base ys _ _ hI h1 (by simpa using hl) (fun i hi => by
            have := hr i hi
            simpa [List.getD_eq_getElem?_getD, Array.getD_eq_getD_getElem?] using this)
          refine ⟨plb', t, RCs.mkAgg ⟨by omega, fun i hi => ?_, fun i hi => ho i (by omega)⟩⟩
          have := r i hi
          simpa [List.getD_eq_getElem?_getD, Array.getD_eq_getD_getElem?] using this
      · simp at h
    · exact hf.ok hI h hu
  · unfold ownEl at h
    split at h
    · split at h
      · simp only [Option.some.injEq] at h; subst h; exact mkAgg_sto _
      · simp at h
    · exact hf.sto h
  · unfold ownEl at h
    split at h
    · rfl
    · exact hf.known h

theorem ownEs_ok {pl0 : Pl} {H0 : Hp} {n : Nat} {f : Hp → Hp → V → Option (V × Hp × Hp)} (hf : OwnOk w pl0 H0 n Bd f) : ∀ (vs : List V) (us : List Value) (H : Hp) (plb : Pl) (base : Hp) (ws : List V) (H' base' : Hp), OwnInv w pl0 H0 n H plb Bd base → ownEs f H base vs = some (ws, H', base') → us.length = vs.length →
    (∀ i, i < vs.length → (vs.getD i .any).ok = true → RV w (owned pl0 H0) pl0 (hlen H0) (vs.getD i .any) (us.getD i undef)) →
    ∃ plb', OwnTo w pl0 H0 n plb Bd base H' plb' base' ∧ ws.length = vs.length ∧ ∀ i, i < ws.length → (ws.getD i .any).sto = true ∧ RV w (owned pl0 H0) plb' (hlen base') (ws.getD i .any) (us.getD i undef)
  | [], us, H, plb, base, ws, H', base', hI, h, hl, hu => by
    simp only [ownEs, Option.some.injEq, Prod.mk.injEq] at h
    obtain ⟨rfl, rfl, rfl⟩ := h
    exact ⟨plb, .refl hI, rfl, fun i hi => by simp at hi⟩
  | v :: vs, [], H, plb, base, ws, H', base', hI, h, hl, hu => by simp at hl
  | v :: vs, u :: us, H, plb, base, ws, H', base', hI, h, hl, hu => by
    simp only [ownEs] at h
    split at h
    · rename_i x H1 base1 h1
      have hE := ownEl_ok hf
      obtain ⟨plb1, t1, r1⟩ := hE.ok hI h1 (hu 0 (by simp) (hE.known h1))
      have s1 := hE.sto h1
      split at h
      · rename_i xs H2 base2 h2
        simp only [Option.some.injEq, Prod.mk.injEq] at h
        obtain ⟨rfl, rfl, rfl⟩ := h
        obtain ⟨plb2, t2, l2, r2⟩ := ownEs_ok hf vs us H1 plb1 base1 xs H2 base2 t1.inv h2 (by simpa using hl) (fun i hi => hu (i + 1) (by simpa using hi))
        refine ⟨plb2, t1.trans t2, by simp [l2], fun i hi => ?_⟩
        cases i with
        | zero => exact ⟨s1, r1.mono (Ext.refl _ _) t2.ple t2.le⟩
        | succ i => exact r2 i (by simpa using hi)
      · simp at h
    · simp at h

/-- A value of a row's element, out of its cells. -/
theorem elem_value {O : Own} {pl : Pl} {n e : Nat} {x : V} {us : Array Value} (hrc : RCs w O pl n x.cells us) (he : x.cells.length = e) : ∃ u, RV w O pl n x u ∧ u.cells = us := by
  by_cases hag : x.isAgg = true
  · refine ⟨.agg us, ?_, rfl⟩
    cases x <;> simp [V.isAgg] at hag
    · rename_i y; cases y <;> simp [V.isAgg] at hag
      rename_i cs
      refine .d _ _ (.agg cs us (by simpa [V.cells] using hrc.size) (fun l hl => hrc.one l (by simpa [V.cells] using hl)) fun l hl => ?_)
      have := hrc.rel l (by simpa [V.cells] using hl)
      simp only [V.cells] at this
      rw [getD_map_d cs l hl] at this
      exact this.dd
    · rename_i cs
      exact .agg cs us hrc.size hrc.one hrc.rel
  · have hag' : x.isAgg = false := by simpa using hag
    have hc1 := cells_of_one hag'
    have hrv := hrc.rel 0 (by rw [hc1]; simp)
    have hone := hrc.one 0 (by rw [hc1]; simp)
    have hsz := hrc.size
    rw [hc1] at hrv hsz
    simp only [List.getD_cons_zero] at hrv
    refine ⟨us.getD 0 undef, hrv, ?_⟩
    have hus : (us.getD 0 undef).cells = #[us.getD 0 undef] := by
      generalize us.getD 0 undef = q at hone
      cases q <;> first | rfl | simp [Value.oneCell'] at hone
    rw [hus]
    apply Array.ext
    · simpa using hsz.symm
    · intro i h1 h2
      have : i = 0 := by simpa using h1
      subst this
      simp [Array.getD_eq_getD_getElem?, h2]

theorem layer_ok {pl0 : Pl} {H0 : Hp} {n : Nat} {B0 : Nat → Prop} (hH0 : HR w pl0 B0 H0) {f : Hp → Hp → V → Option (V × Hp × Hp)} (hf : OwnOk w pl0 H0 n Bd f) : OwnOk w pl0 H0 n Bd (layer n f) := by
  refine ⟨fun {H plb base v v' H' base' u} hI h hu => ?_, fun {H base v r} h => ?_, fun {H base v r} h => ?_⟩
  · unfold layer at h
    split at h
    · rename_i r0 h1
      simp only [Option.some.injEq] at h
      subst h
      exact own1_ok hH0 hI h1 hu
    · split at h
      · rename_i r g k hno
        split at h
        · simp at h
        · rename_i hge
          split at h
          · rename_i e xs hrow
            split at h
            · rename_i ys H1 base1 hes
              split at h
              · rename_i p hrow1
                simp only [Option.some.injEq, Prod.mk.injEq] at h
                obtain ⟨rfl, rfl, rfl⟩ := h
                have hgr := hget_row hrow
                rcases hI.same r _ hgr with hd | hg0
                · simp at hd
                obtain ⟨b, c, arr, ty, fr, hp, hh, hsa, hfz, hxc, he, hr, h1, _⟩ := row_lies hH0 (show rowOf H0 r g = some (e, xs) by simp [rowOf, hg0])
                -- the elements' values
                have hel : ∀ i, i < xs.length → ∃ u, RV w (owned pl0 H0) pl0 (hlen H0) (xs.getD i .any) u ∧ u.cells.size = e ∧ ∀ j, j < e → u.cells.getD j undef = arr.getD (i * e + j) undef := by
                  intro i hi
                  let us : Array Value := ((List.range e).map fun l => arr.getD (i * e + l) undef).toArray
                  have husg : ∀ l, l < e → us.getD l undef = arr.getD (i * e + l) undef := fun l hl => by
                    have hsz : l < us.size := by simp [us, hl]
                    rw [Array.getD_eq_getD_getElem?, Array.getElem?_eq_getElem hsz]
                    simp [us]
                  have hce := he i hi
                  have hrc : RCs w (owned pl0 H0) pl0 (hlen H0) (xs.getD i .any).cells us := ⟨by rw [hce]; simp [us], fun l hl => by rw [husg l (by omega)]; exact hr _ _ hi (by omega), fun l hl => by rw [husg l (by omega)]; exact h1 _ _ hi (by omega)⟩
                  obtain ⟨u, hu1, hu2⟩ := elem_value hrc hce
                  exact ⟨u, hu1, by rw [hu2]; simp [us], fun j hj => by rw [hu2]; exact husg j hj⟩
                let uv : List Value := (List.range xs.length).map fun i => if h : i < xs.length then (hel i h).choose else undef
                have huv : ∀ i, i < xs.length → ∃ u, uv.getD i undef = u ∧ RV w (owned pl0 H0) pl0 (hlen H0) (xs.getD i .any) u ∧ u.cells.size = e ∧ ∀ j, j < e → u.cells.getD j undef = arr.getD (i * e + j) undef := by
                  intro i hi
                  refine ⟨(hel i hi).choose, ?_, (hel i hi).choose_spec⟩
                  simp [uv, List.getD_eq_getElem?_getD, hi]
                obtain ⟨plb1, t1, l1, r1⟩ := ownEs_ok hf xs uv H plb base ys H1 base1 hI hes (by simp [uv]) (fun i hi _ => by
                  obtain ⟨u, e1, e2, _⟩ := huv i hi
                  rw [e1]; exact e2)
                have hI1 := t1.inv
                obtain ⟨e', xs'⟩ := p
                have hgr1 := hget_row hrow1
                rcases hI1.same r _ hgr1 with hd | hg1
                · simp at hd
                rw [hg0] at hg1
                simp only [Option.some.injEq, Obj.row.injEq, true_and] at hg1
                obtain ⟨rfl, rfl⟩ := hg1
                have t2 := own_push hH0 hI1 (ys := ys) (by omega) hgr1 hg0 hp hh hsa hfz (by omega) (fun i hi => by
                    obtain ⟨u, e1, e2, e3, e4⟩ := huv i (by omega)
                    obtain ⟨s1, s2⟩ := r1 i hi
                    have := (s2.cells s1).size
                    rw [e1] at this
                    omega) (fun i j hi hj => by
                    obtain ⟨u, e1, e2, e3, e4⟩ := huv i (by omega)
                    obtain ⟨s1, s2⟩ := r1 i hi
                    have hc := s2.cells s1
                    rw [e1] at hc
                    have := hc.rel j (by have := hc.size; omega)
                    rwa [e4 j hj] at this) (fun i j hi hj => h1 i j (by omega) hj)
                refine ⟨_, t1.trans t2, ?_⟩
                cases hu with
                | slc _ _ _ _ b2 e2 c2 hr2 hp2 hk =>
                  rw [hp] at hp2
                  simp only [Option.some.injEq, Prod.mk.injEq] at hp2
                  obtain ⟨rfl, rfl, rfl⟩ := hp2
                  exact .slc _ _ _ _ b e c (by rw [hlen_hpush]; omega) (plNew_self ..) hk
                | slc0 _ _ _ A cap hi _ => omega
              · simp at h
            · simp at h
          · simp at h
      · simp at h
  · unfold layer at h
    split at h
    · rename_i r0 h1
      simp only [Option.some.injEq] at h
      subst h
      exact own1_sto h1
    · split at h
      · split at h
        · simp at h
        · split at h
          · split at h
            · split at h
              · simp only [Option.some.injEq] at h; subst h; rfl
              · simp at h
            · simp at h
          · simp at h
      · simp at h
  · cases v <;> first | rfl | (simp [layer, own1] at h)

theorem ownL_ok {pl0 : Pl} {H0 : Hp} {n : Nat} {B0 : Nat → Prop} (hH0 : HR w pl0 B0 H0) (vs : List V) (us : List Value) (H : Hp) (plb : Pl) (base : Hp) (ws : List V) (H' base' : Hp) (hI : OwnInv w pl0 H0 n H plb Bd base) (h : ownL n H base vs = some (ws, H', base')) (hl : us.length = vs.length)
    (hu : ∀ i, i < vs.length → (vs.getD i .any).ok = true → RV w (owned pl0 H0) pl0 (hlen H0) (vs.getD i .any) (us.getD i undef)) :
    ∃ plb', OwnTo w pl0 H0 n plb Bd base H' plb' base' ∧ ws.length = vs.length ∧ ∀ i, i < ws.length → RV w (owned pl0 H0) plb' (hlen base') (ws.getD i .any) (us.getD i undef) := by
  obtain ⟨plb', t, l, r⟩ := ownEs_ok (layer_ok hH0 (layer_ok hH0 (layer_ok hH0 (own1_OwnOk hH0)))) vs us H plb base ws H' base' hI h hl hu
  exact ⟨plb', t, l, fun i hi => (r i hi).2⟩

/-- At the start. -/
theorem OwnInv.start {pl0 : Pl} {H0 : Hp} {n : Nat} {B0 : Nat → Prop} (hH0 : HR w pl0 B0 H0) (hn : B0 n) (hB : ∀ m, Bd m → B0 m ∧ m ≤ n) : OwnInv w pl0 H0 n H0 pl0 Bd (htake H0 n) := by
  have hle := hH0.le n hn
  have hbk : ∀ r' b, blk pl0 (htake H0 n) r' = some b → r' < n ∧ blk pl0 H0 r' = some b := by
    intro r' b hb
    obtain ⟨o, ho⟩ := blk_lt hb
    obtain ⟨hlt, ho'⟩ := hget_htake_some ho
    refine ⟨hlt, ?_⟩
    unfold blk at hb ⊢
    rwa [hget_htake hlt] at hb
  refine ⟨fun r o ho => ?_, fun r1 r2 b k1 k2 => hH0.inj r1 r2 b (hbk _ _ k1).2 (hbk _ _ k2).2, fun m hm r o hr ho => ?_, fun m hm => (hB m hm).2, by rw [hlen_htake hle]; omega, PlExt.refl _ _, fun r o ho => .inr ho, fun b ⟨r, hr⟩ => ⟨r, (hbk _ _ hr).2⟩, fun r b hr hb ⟨r', hr'⟩ => ?_⟩
  · obtain ⟨hlt, ho'⟩ := hget_htake_some ho
    rw [hlen_htake hle]
    exact hH0.bd n hn r o hlt ho'
  · obtain ⟨_, ho'⟩ := hget_htake_some ho
    exact hH0.bd m (hB m hm).1 r o hr ho'
  · obtain ⟨hlt, h2⟩ := hbk _ _ hr'
    have := hH0.inj r r' b hb h2
    omega
end
end Go.Ev

/- How the abstract heap and the world go on together: a new object, a row that is written or grows, an object given up, the objects of a call that has ended. -/
import Derived.Test.YtpmphmpaeooeeaaDoorE2
namespace Go.Ev
open Go
set_option linter.unusedSimpArgs false
set_option linter.unusedVariables false

structure Same (w w' : World) : Prop where
  os : w'.os = w.os
  tape : w'.tape = w.tape
  output : w'.output = w.output

theorem Same.refl (w : World) : Same w w := ⟨rfl, rfl, rfl⟩
theorem Same.trans {w w1 w2 : World} (h : Same w w1) (k : Same w1 w2) : Same w w2 := ⟨k.os.trans h.os, k.tape.trans h.tape, k.output.trans h.output⟩

def plNew (pl : Pl) (r : Nat) (p : Nat × Nat × Nat) : Pl := fun r' g => if r' = r then (if g = 0 then some p else none) else pl r' g
def plSet (pl : Pl) (r g : Nat) (p : Nat × Nat × Nat) : Pl := fun r' g' => if r' = r then (if g' = g then some p else pl r' g') else pl r' g'

theorem plNew_ne {pl : Pl} {r r' : Nat} {p : Nat × Nat × Nat} (h : r' ≠ r) : plNew pl r p r' = pl r' := by
  funext g; simp [plNew, h]
theorem plNew_self (pl : Pl) (r : Nat) (p : Nat × Nat × Nat) : plNew pl r p r 0 = some p := by simp [plNew]
theorem plSet_ne {pl : Pl} {r r' g : Nat} {p : Nat × Nat × Nat} (h : r' ≠ r) : plSet pl r g p r' = pl r' := by
  funext g; simp [plSet, h]
theorem plSet_self (pl : Pl) (r g : Nat) (p : Nat × Nat × Nat) : plSet pl r g p r g = some p := by simp [plSet]

theorem blk_push_lt {pl : Pl} {H : Hp} {o : Obj} {p : Nat × Nat × Nat} {r : Nat} (h : r < hlen H) : blk (plNew pl (hlen H) p) (hpush H o) r = blk pl H r := by
  unfold blk
  rw [hget_hpush_lt o h, plNew_ne (by omega)]

/-- A new object in a new block. -/
theorem HR.push {w w' : World} {pl : Pl} {Bd : Nat → Prop} {H : Hp} (h : HR w pl Bd H) (o : Obj) (ob : Go.Obj) (e c : Nat) (hw : w'.heap = w.heap.push ob) (hs : Same w w')
    (hb : blk (plNew pl (hlen H) (w.heap.size, e, c)) (hpush H o) (hlen H) = some w.heap.size)
    (ho : ∀ O', Ext w (owned pl H) w' O' → OR w' O' (plNew pl (hlen H) (w.heap.size, e, c)) (hlen H + 1) (hlen H) o) :
    HR w' (plNew pl (hlen H) (w.heap.size, e, c)) Bd (hpush H o) ∧ Ext w (owned pl H) w' (owned (plNew pl (hlen H) (w.heap.size, e, c)) (hpush H o)) ∧ PlExt (hlen H) pl (plNew pl (hlen H) (w.heap.size, e, c)) := by
  have hget' : ∀ b, b < w.heap.size → w'.heap[b]? = w.heap[b]? := fun b hb => by rw [hw, Array.getElem?_push_lt hb, Array.getElem?_eq_getElem hb]
  have hown : ∀ r b, blk (plNew pl (hlen H) (w.heap.size, e, c)) (hpush H o) r = some b → (r = hlen H ∧ b = w.heap.size) ∨ (r < hlen H ∧ blk pl H r = some b) := by
    intro r b hr
    rcases Nat.lt_trichotomy r (hlen H) with hlt | heq | hgt
    · exact .inr ⟨hlt, by rwa [blk_push_lt hlt] at hr⟩
    · subst heq; rw [hb] at hr; exact .inl ⟨rfl, by simpa using hr.symm⟩
    · obtain ⟨o', ho'⟩ := blk_lt hr
      have := hget_lt ho'
      rw [hlen_hpush] at this
      omega
  have E : Ext w (owned pl H) w' (owned (plNew pl (hlen H) (w.heap.size, e, c)) (hpush H o)) := by
    refine ⟨hs.os, hs.tape, hs.output, by rw [hw]; simp, fun b hlt hO => ⟨hget' b hlt, ?_⟩⟩
    rintro ⟨r, hr⟩
    rcases hown r b hr with ⟨_, hb'⟩ | ⟨_, hb'⟩
    · omega
    · exact hO ⟨r, hb'⟩
  have hpl : PlExt (hlen H) pl (plNew pl (hlen H) (w.heap.size, e, c)) := fun r hr g p hp => by rw [plNew_ne (by omega)]; exact hp
  have hold : ∀ r o', r < hlen H → hget H r = some o' → ∀ m n', PlExt m pl (plNew pl (hlen H) (w.heap.size, e, c)) → m ≤ n' → OR w (owned pl H) pl m r o' →
      OR w' (owned (plNew pl (hlen H) (w.heap.size, e, c)) (hpush H o)) (plNew pl (hlen H) (w.heap.size, e, c)) n' r o' := by
    intro r o' hr ho' m n' hm hn hor
    cases hor with
    | dead => exact .dead
    | row g e xs b c arr ty fr hp' hh hs hf hx he hr' h1 hg =>
      have hbs := (Array.getElem?_eq_some_iff.1 hh).1
      exact .row g e xs b c arr ty fr (by rw [plNew_ne (by omega)]; exact hp') ((hget' b hbs).trans hh) hs hf hx he (fun i j hi hj => (hr' i j hi hj).mono E hm hn) h1 (by rw [plNew_ne (by omega)]; exact hg)
    | map ks vs b e c es clock hp' hh hk hv hrk hrv =>
      have hbs := (Array.getElem?_eq_some_iff.1 hh).1
      exact .map ks vs b e c es clock (by rw [plNew_ne (by omega)]; exact hp') ((hget' b hbs).trans hh) hk hv (fun i hi => (hrk i hi).mono E hm hn) (fun i hi => (hrv i hi).mono E hm hn)
  refine ⟨⟨?_, ?_, ?_, ?_⟩, E, hpl⟩
  · intro r o' hr
    have hlt := hget_lt hr
    rw [hlen_hpush] at hlt ⊢
    rcases Nat.lt_or_eq_of_le (Nat.lt_succ_iff.1 hlt) with hlt' | heq
    · rw [hget_hpush_lt o hlt'] at hr
      exact hold r o' hlt' hr _ _ hpl (by omega) (h.obj r o' hr)
    · subst heq
      rw [hget_hpush_self] at hr
      obtain rfl := Option.some.inj hr
      exact ho _ E
  · intro r r' b hr hr'
    rcases hown r b hr with ⟨h1, h2⟩ | ⟨h1, h2⟩ <;> rcases hown r' b hr' with ⟨k1, k2⟩ | ⟨k1, k2⟩
    · omega
    · have := h.owned_lt ⟨r', k2⟩; omega
    · have := h.owned_lt ⟨r, h2⟩; omega
    · exact h.inj r r' b h2 k2
  · intro m hm r o' hr ho'
    have hmle := h.le m hm
    have hlt : r < hlen H := by omega
    rw [hget_hpush_lt o hlt] at ho'
    exact hold r o' hlt ho' _ _ (hpl.le hmle) (Nat.le_refl _) (h.bd m hm r o' hr ho')
  · intro m hm
    have := h.le m hm
    rw [hlen_hpush]; omega

/-- A row that is written, or grows into another block. -/
theorem HR.setRow {w w' : World} {pl : Pl} {Bd : Nat → Prop} {H : Hp} (h : HR w pl Bd H) {r g g' e : Nat} {xs xs' : List V} {b c b' c' : Nat} {arr' : Array Value} {ty : TypeId} {fr : Nat × Nat}
    (hr : hget H r = some (.row g e xs)) (hp : pl r g = some (b, e, c)) (hg : g ≤ g') (hgg : g' = g → (b', c') = (b, c))
    (hs : Same w w') (hsz : w.heap.size ≤ w'.heap.size) (hoth : ∀ b'', b'' < w.heap.size → b'' ≠ b → w'.heap[b'']? = w.heap[b'']?)
    (hb' : b' = b ∨ w.heap.size ≤ b') (hh : w'.heap[b']? = some (.cells arr' ty fr)) (hsa : arr'.size = c' * e) (hf : Unfrozen fr arr'.size) (hx : xs'.length ≤ c')
    (he : ∀ i, i < xs'.length → (xs'.getD i .any).cells.length = e)
    (h1 : ∀ i j, i < xs'.length → j < e → (arr'.getD (i * e + j) undef).oneCell' = true)
    (hrel : ∀ m, (m = hlen H ∨ (Bd m ∧ r < m)) → ∀ i j, i < xs'.length → j < e → RV w (owned pl H) pl m ((xs'.getD i .any).cells.getD j .any) (arr'.getD (i * e + j) undef)) :
    HR w' (plSet pl r g' (b', e, c')) Bd (hset H r (.row g' e xs')) ∧ Ext w (owned pl H) w' (owned (plSet pl r g' (b', e, c')) (hset H r (.row g' e xs'))) ∧ PlExt (hlen H) pl (plSet pl r g' (b', e, c')) := by
  have hrl := hget_lt hr
  have hbl : blk pl H r = some b := by simp [blk, hr, hp]
  have hpg : ∀ g'', g < g'' → pl r g'' = none := by
    have := h.obj r _ hr
    cases this with
    | row _ _ _ _ _ _ _ _ _ _ _ _ _ _ _ _ hg => exact hg
  have hbk : ∀ r', r' ≠ r → blk (plSet pl r g' (b', e, c')) (hset H r (.row g' e xs')) r' = blk pl H r' := by
    intro r' hne
    unfold blk
    rw [hget_hset_ne _ hne, plSet_ne hne]
  have hbr : blk (plSet pl r g' (b', e, c')) (hset H r (.row g' e xs')) r = some b' := by
    unfold blk
    rw [hget_hset_self _ hrl]
    simp [plSet_self]
  have hblt : b < w.heap.size := h.owned_lt ⟨r, hbl⟩
  have E : Ext w (owned pl H) w' (owned (plSet pl r g' (b', e, c')) (hset H r (.row g' e xs'))) := by
    refine ⟨hs.os, hs.tape, hs.output, hsz, fun b'' hlt hO => ⟨hoth b'' hlt (fun hh => hO ⟨r, by rw [hh]; exact hbl⟩), ?_⟩⟩
    rintro ⟨r', hr'⟩
    by_cases hne : r' = r
    · subst hne
      rw [hbr] at hr'
      have hbb : b' = b'' := by simpa using hr'
      rcases hb' with h1 | h1
      · exact hO ⟨r', by rw [hbl, ← h1, hbb]⟩
      · omega
    · rw [hbk r' hne] at hr'
      exact hO ⟨r', hr'⟩
  have hpl : PlExt (hlen H) pl (plSet pl r g' (b', e, c')) := by
    intro r' _ g'' p hp'
    by_cases hne : r' = r
    · subst hne
      by_cases hgg' : g'' = g'
      · subst hgg'
        rcases Nat.lt_or_eq_of_le hg with h1 | h1
        · rw [hpg _ h1] at hp'; cases hp'
        · have hbc := hgg h1.symm
          simp only [Prod.mk.injEq] at hbc
          rw [plSet_self, ← hp', ← h1, hp, hbc.1, hbc.2]
      · simp [plSet, hgg', hp']
    · rw [plSet_ne hne]; exact hp'
  have hnew : ∀ m, (m = hlen H ∨ (Bd m ∧ r < m)) → m ≤ hlen H → OR w' (owned (plSet pl r g' (b', e, c')) (hset H r (.row g' e xs'))) (plSet pl r g' (b', e, c')) m r (.row g' e xs') := by
    intro m hm hle
    refine .row g' e xs' b' c' arr' ty fr (plSet_self ..) hh hsa hf hx he (fun i j hi hj => (hrel m hm i j hi hj).mono E (hpl.le hle) (Nat.le_refl _)) h1 ?_
    intro g'' hg''
    show (if r = r then (if g'' = g' then some (b', e, c') else pl r g'') else pl r g'') = none
    rw [if_pos rfl, if_neg (by omega)]
    exact hpg g'' (by omega)
  have hold : ∀ r' o' m, r' ≠ r → hget H r' = some o' → m ≤ hlen H → OR w (owned pl H) pl m r' o' →
      OR w' (owned (plSet pl r g' (b', e, c')) (hset H r (.row g' e xs'))) (plSet pl r g' (b', e, c')) m r' o' := by
    intro r' o' m hne ho' hle hor
    cases hor with
    | dead => exact .dead
    | row g1 e1 xs1 b1 c1 arr1 ty1 fr1 hp1 hh1 hs1 hf1 hx1 he1 hr1 h11 hg1 =>
      have hbs := (Array.getElem?_eq_some_iff.1 hh1).1
      have hb1 : blk pl H r' = some b1 := by simp [blk, ho', hp1]
      have hne1 : b1 ≠ b := fun hh => hne (h.inj r' r b1 hb1 (by rw [hh]; exact hbl))
      exact .row g1 e1 xs1 b1 c1 arr1 ty1 fr1 (by rw [plSet_ne hne]; exact hp1) ((hoth b1 hbs hne1).trans hh1) hs1 hf1 hx1 he1 (fun i j hi hj => (hr1 i j hi hj).mono E (hpl.le hle) (Nat.le_refl _)) h11 (by rw [plSet_ne hne]; exact hg1)
    | map ks vs b1 e1 c1 es clock hp1 hh1 hk hv hrk hrv =>
      have hbs := (Array.getElem?_eq_some_iff.1 hh1).1
      have hb1 : blk pl H r' = some b1 := by simp [blk, ho', hp1]
      have hne1 : b1 ≠ b := fun hh => hne (h.inj r' r b1 hb1 (by rw [hh]; exact hbl))
      exact .map ks vs b1 e1 c1 es clock (by rw [plSet_ne hne]; exact hp1) ((hoth b1 hbs hne1).trans hh1) hk hv (fun i hi => (hrk i hi).mono E (hpl.le hle) (Nat.le_refl _)) (fun i hi => (hrv i hi).mono E (hpl.le hle) (Nat.le_refl _))
  refine ⟨⟨?_, ?_, ?_, ?_⟩, E, hpl⟩
  · intro r' o' ho'
    rw [hlen_hset]
    by_cases hne : r' = r
    · subst hne
      rw [hget_hset_self _ hrl] at ho'
      obtain rfl := Option.some.inj ho'
      exact hnew _ (.inl rfl) (Nat.le_refl _)
    · rw [hget_hset_ne _ hne] at ho'
      exact hold r' o' _ hne ho' (Nat.le_refl _) (h.obj r' o' ho')
  · intro r1 r2 b1 h1 h2
    by_cases n1 : r1 = r <;> by_cases n2 : r2 = r
    · rw [n1, n2]
    · subst n1
      rw [hbr] at h1
      rw [hbk r2 n2] at h2
      have hbb : b' = b1 := by simpa using h1
      rcases hb' with h3 | h3
      · have hx2 : blk pl H r2 = some b := by rw [h2, ← hbb, h3]
        exact absurd (h.inj r2 r1 b hx2 hbl) n2
      · have := h.owned_lt ⟨r2, h2⟩; omega
    · subst n2
      rw [hbr] at h2
      rw [hbk r1 n1] at h1
      have hbb : b' = b1 := by simpa using h2
      rcases hb' with h3 | h3
      · have hx1 : blk pl H r1 = some b := by rw [h1, ← hbb, h3]
        exact h.inj r1 r2 b hx1 hbl
      · have := h.owned_lt ⟨r1, h1⟩; omega
    · rw [hbk r1 n1] at h1
      rw [hbk r2 n2] at h2
      exact h.inj r1 r2 b1 h1 h2
  · intro m hm r' o' hlt ho'
    by_cases hne : r' = r
    · subst hne
      rw [hget_hset_self _ hrl] at ho'
      obtain rfl := Option.some.inj ho'
      exact hnew m (.inr ⟨hm, hlt⟩) (h.le m hm)
    · rw [hget_hset_ne _ hne] at ho'
      exact hold r' o' m hne ho' (h.le m hm) (h.bd m hm r' o' hlt ho')
  · intro m hm
    rw [hlen_hset]; exact h.le m hm

/-- An object is given up. -/
theorem HR.kill {w : World} {pl : Pl} {Bd : Nat → Prop} {H : Hp} (h : HR w pl Bd H) (r : Nat) :
    HR w pl Bd (hset H r .dead) ∧ Ext w (owned pl H) w (owned pl (hset H r .dead)) := by
  have hbk : ∀ r' b, blk pl (hset H r .dead) r' = some b → r' ≠ r ∧ blk pl H r' = some b := by
    intro r' b hb
    by_cases hne : r' = r
    · subst hne
      obtain ⟨o, ho⟩ := blk_lt hb
      have := hget_lt ho
      rw [hlen_hset] at this
      unfold blk at hb
      rw [hget_hset_self _ this] at hb
      simp at hb
    · refine ⟨hne, ?_⟩
      unfold blk at hb ⊢
      rwa [hget_hset_ne _ hne] at hb
  have E : Ext w (owned pl H) w (owned pl (hset H r .dead)) := ⟨rfl, rfl, rfl, Nat.le_refl _, fun b _ hO => ⟨rfl, fun ⟨r', hr'⟩ => hO ⟨r', (hbk r' b hr').2⟩⟩⟩
  have hkeep : ∀ r' o' m, hget (hset H r .dead) r' = some o' → (∀ o'', hget H r' = some o'' → OR w (owned pl H) pl m r' o'') → OR w (owned pl (hset H r .dead)) pl m r' o' := by
    intro r' o' m ho' hor
    by_cases hne : r' = r
    · subst hne
      have := hget_lt ho'
      rw [hlen_hset] at this
      rw [hget_hset_self _ this] at ho'
      obtain rfl := Option.some.inj ho'
      exact .dead
    · rw [hget_hset_ne _ hne] at ho'
      exact (hor o' ho').mono E (PlExt.refl _ _) (Nat.le_refl _) rfl (fun _ _ _ _ _ => rfl)
  refine ⟨⟨fun r' o' ho' => ?_, fun r1 r2 b h1 h2 => h.inj r1 r2 b (hbk _ _ h1).2 (hbk _ _ h2).2, fun m hm r' o' hlt ho' => hkeep r' o' m ho' (fun o'' h'' => h.bd m hm r' o'' hlt h''), fun m hm => ?_⟩, E⟩
  · rw [hlen_hset]
    exact hkeep r' o' _ ho' (fun o'' h'' => h.obj r' o'' h'')
  · rw [hlen_hset]; exact h.le m hm

theorem hlen_htake {H : Hp} {n : Nat} (h : n ≤ hlen H) : hlen (htake H n) = n := by simp [hlen, htake] at *; omega
theorem hget_htake {H : Hp} {n r : Nat} (h : r < n) : hget (htake H n) r = hget H r := by
  induction H generalizing n r with
  | nil => simp [htake, hget]
  | cons a H ih =>
    cases n with
    | zero => omega
    | succ n => cases r with
      | zero => rfl
      | succ r => exact ih (by omega)
theorem hget_htake_some {H : Hp} {n r : Nat} {o : Obj} (h : hget (htake H n) r = some o) : r < n ∧ hget H r = some o := by
  have hlt := hget_lt h
  have : r < n := by simp [hlen, htake] at hlt; omega
  exact ⟨this, by rwa [hget_htake this] at h⟩

/-- The objects of a call that has ended are gone. -/
theorem HR.take {w : World} {pl : Pl} {Bd Bd' : Nat → Prop} {H : Hp} (h : HR w pl Bd H) (n : Nat) (hn : Bd n) (hB : ∀ m, Bd' m → Bd m ∧ m ≤ n) :
    HR w pl Bd' (htake H n) ∧ Ext w (owned pl H) w (owned pl (htake H n)) := by
  have hle := h.le n hn
  have hbk : ∀ r' b, blk pl (htake H n) r' = some b → r' < n ∧ blk pl H r' = some b := by
    intro r' b hb
    obtain ⟨o, ho⟩ := blk_lt hb
    obtain ⟨hlt, ho'⟩ := hget_htake_some ho
    refine ⟨hlt, ?_⟩
    unfold blk at hb ⊢
    rwa [hget_htake hlt] at hb
  have E : Ext w (owned pl H) w (owned pl (htake H n)) := ⟨rfl, rfl, rfl, Nat.le_refl _, fun b _ hO => ⟨rfl, fun ⟨r', hr'⟩ => hO ⟨r', (hbk r' b hr').2⟩⟩⟩
  refine ⟨⟨fun r o ho => ?_, fun r1 r2 b h1 h2 => h.inj r1 r2 b (hbk _ _ h1).2 (hbk _ _ h2).2, fun m hm r o hlt ho => ?_, fun m hm => ?_⟩, E⟩
  · obtain ⟨hlt, ho'⟩ := hget_htake_some ho
    rw [hlen_htake hle]
    exact (h.bd n hn r o hlt ho').mono E (PlExt.refl _ _) (Nat.le_refl _) rfl (fun _ _ _ _ _ => rfl)
  · obtain ⟨_, ho'⟩ := hget_htake_some ho
    exact (h.bd m (hB m hm).1 r o hlt ho').mono E (PlExt.refl _ _) (Nat.le_refl _) rfl (fun _ _ _ _ _ => rfl)
  · rw [hlen_htake hle]; exact (hB m hm).2

/-- A call begins. -/
theorem HR.enter {w : World} {pl : Pl} {Bd : Nat → Prop} {H : Hp} (h : HR w pl Bd H) : HR w pl (fun m => Bd m ∨ m = hlen H) H :=
  ⟨h.obj, h.inj, fun m hm r o hlt ho => by
    rcases hm with hm | rfl
    · exact h.bd m hm r o hlt ho
    · exact h.obj r o ho, fun m hm => by
    rcases hm with hm | rfl
    · exact h.le m hm
    · exact Nat.le_refl _⟩
end Go.Ev

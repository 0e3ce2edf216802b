/- What abstract values stand for in a world, and that it stays so while the world goes on. -/
import Derived.Test.YtpmphmpaeooeeaaDoorE1
import Derived.OwnWalk
import Derived.Laws.IdiomCopy
import Derived.ArgAppend
namespace Go.Ev
open Go
set_option linter.unusedSimpArgs false
set_option linter.unusedVariables false

/-- Blocks that belong to objects of the abstract heap. -/
abbrev Own := Nat → Prop
/-- Where a row lies at a generation: its block, cells an element, room in elements. -/
abbrev Pl := Nat → Nat → Option (Nat × Nat × Nat)

inductive RD (w : World) (O : Own) : D → Value → Prop where
  | bool (b : Bool) : RD w O (.bool b) (.bool b)
  | int (k : IntKind) (n : Int) : RD w O (.int k n) (.int k n)
  | str (s : List UInt8) (t : ByteArray) (h : t.data.toList = s) : RD w O (.str s) (.string t)
  | agg (cs : List D) (us : Array Value) (hl : us.size = cs.length) (h1 : ∀ i, i < cs.length → (us.getD i undef).oneCell' = true) (h : ∀ i, i < cs.length → RD w O (cs.getD i .nilp) (us.getD i undef)) : RD w O (.agg cs) (.agg us)
  | vals0 (e : Nat) (a : Option Addr) (cap : Nat) : RD w O (.vals e []) (.slice a 0 cap)
  | vals (e : Nat) (xs : List D) (b o cap : Nat) (F : Nat → Nat → Value) (hcap : xs.length ≤ cap) (hO : ¬ O b) (hb : b < w.heap.size)
      (he : ∀ i, i < xs.length → (xs.getD i .nilp).cells.length = e)
      (hc : ∀ i j, i < xs.length → j < e → w.cell? ⟨b, o + i * e + j, none⟩ = some (F i j)) (h1 : ∀ i j, i < xs.length → j < e → (F i j).oneCell' = true)
      (hr : ∀ i j, i < xs.length → j < e → RD w O ((xs.getD i .nilp).cells.getD j .nilp) (F i j)) : RD w O (.vals e xs) (.slice (some ⟨b, o, none⟩) xs.length cap)
  | nilp : RD w O .nilp (.pointer none)
  | rptr (cs : List D) (b o : Nat) (F : Nat → Value) (hO : ¬ O b) (hb : b < w.heap.size)
      (hc : ∀ j, j < cs.length → w.cell? ⟨b, o + j, none⟩ = some (F j)) (h1 : ∀ j, j < cs.length → (F j).oneCell' = true)
      (hr : ∀ j, j < cs.length → RD w O (cs.getD j .nilp) (F j)) : RD w O (.rptr cs) (.pointer (some ⟨b, o, none⟩))
  | fn (f : Fn) (caps : List D) (us : Array Value) (hl : us.size = caps.length) (h : ∀ i, i < caps.length → RD w O (caps.getD i .nilp) (us.getD i undef)) : RD w O (.fn f caps) (.func f #[] us)
  | nilfn : RD w O .nilfn .nilFunc
  | iface (t : Nat) (x : D) (u : Value) (h : RD w O x u) : RD w O (.iface t x) (.iface t u)
  | niface : RD w O .niface .nilIface
  | mval0 : RD w O (.mval [] []) (.map none)
  | mval (ks vs : List D) (b : Nat) (es : Array MapEntry) (clock : Nat) (hO : ¬ O b) (hb : b < w.heap.size) (hm : w.heap[b]? = some (.map es clock))
      (hk : es.size = ks.length) (hv : es.size = vs.length)
      (hrk : ∀ i, i < es.size → RD w O (ks.getD i .nilp) (es.getD i default).key)
      (hrv : ∀ i, i < es.size → RD w O (vs.getD i .nilp) (es.getD i default).val) : RD w O (.mval ks vs) (.map (some b))

inductive RV (w : World) (O : Own) (pl : Pl) (n : Nat) : V → Value → Prop where
  | d (x : D) (u : Value) (h : RD w O x u) : RV w O pl n (.d x) u
  | agg (cs : List V) (us : Array Value) (hl : us.size = cs.length) (h1 : ∀ i, i < cs.length → (us.getD i undef).oneCell' = true) (h : ∀ i, i < cs.length → RV w O pl n (cs.getD i .any) (us.getD i undef)) : RV w O pl n (.agg cs) (.agg us)
  | tup (cs : List V) (us : Array Value) (hl : us.size = cs.length) (h : ∀ i, i < cs.length → RV w O pl n (cs.getD i .any) (us.getD i undef)) : RV w O pl n (.tup cs) (.tuple us)
  | slc (r g i k b e c : Nat) (hr : r < n) (hp : pl r g = some (b, e, c)) (hk : i + k ≤ c) : RV w O pl n (.slc r g i k) (.slice (some ⟨b, i * e, none⟩) k (c - i))
  | slc0 (r g i : Nat) (a : Option Addr) (cap : Nat) (hi : 0 < i) (hr : r < n) : RV w O pl n (.slc r g i 0) (.slice a 0 cap)
  | ptr (r g i j b e c : Nat) (hr : r < n) (hp : pl r g = some (b, e, c)) : RV w O pl n (.ptr r g i j) (.pointer (some ⟨b, i * e + j, none⟩))
  | fn (f : Fn) (cs : List V) (us : Array Value) (hl : us.size = cs.length) (h : ∀ i, i < cs.length → RV w O pl n (cs.getD i .any) (us.getD i undef)) : RV w O pl n (.fn f cs) (.func f #[] us)
  | mref (r b e c : Nat) (hr : r < n) (hp : pl r 0 = some (b, e, c)) : RV w O pl n (.mref r) (.map (some b))
  | nils (e : Nat) (a : Option Addr) : RV w O pl n (.nils e) (.slice a 0 0)
  | und : RV w O pl n .und undef

/-- The world has gone on: what belongs to nobody stays as it was, and stays nobody's. -/
structure Ext (w : World) (O : Own) (w' : World) (O' : Own) : Prop where
  os : w'.os = w.os
  tape : w'.tape = w.tape
  output : w'.output = w.output
  size : w.heap.size ≤ w'.heap.size
  keep : ∀ b, b < w.heap.size → ¬ O b → w'.heap[b]? = w.heap[b]? ∧ ¬ O' b

theorem Ext.refl (w : World) (O : Own) : Ext w O w O := ⟨rfl, rfl, rfl, Nat.le_refl _, fun _ _ h => ⟨rfl, h⟩⟩
theorem Ext.trans {w w1 w2 : World} {O O1 O2 : Own} (h : Ext w O w1 O1) (k : Ext w1 O1 w2 O2) : Ext w O w2 O2 :=
  ⟨k.os.trans h.os, k.tape.trans h.tape, k.output.trans h.output, Nat.le_trans h.size k.size, fun b hb hO => by
    obtain ⟨h1, h2⟩ := h.keep b hb hO
    obtain ⟨k1, k2⟩ := k.keep b (Nat.lt_of_lt_of_le hb h.size) h2
    exact ⟨k1.trans h1, k2⟩⟩

theorem cell_of_heap {w w' : World} {b o : Nat} (h : w'.heap[b]? = w.heap[b]?) : w'.cell? ⟨b, o, none⟩ = w.cell? ⟨b, o, none⟩ := by
  simp only [World.cell?, h]

theorem RD.mono {w w' : World} {O O' : Own} (E : Ext w O w' O') {x : D} {u : Value} (h : RD w O x u) : RD w' O' x u := by
  induction h with
  | bool b => exact .bool b
  | int k n => exact .int k n
  | str s t h => exact .str s t h
  | agg cs us hl h1 _ ih => exact .agg cs us hl h1 ih
  | vals0 e a cap => exact .vals0 e a cap
  | vals e xs b o cap F hcap hO hb he hc h1c _ ih =>
    obtain ⟨h1, h2⟩ := E.keep b hb hO
    exact .vals e xs b o cap F hcap h2 (Nat.lt_of_lt_of_le hb E.size) he (fun i j hi hj => (cell_of_heap h1).trans (hc i j hi hj)) h1c ih
  | nilp => exact .nilp
  | rptr cs b o F hO hb hc h1c _ ih =>
    obtain ⟨h1, h2⟩ := E.keep b hb hO
    exact .rptr cs b o F h2 (Nat.lt_of_lt_of_le hb E.size) (fun j hj => (cell_of_heap h1).trans (hc j hj)) h1c ih
  | fn f caps us hl _ ih => exact .fn f caps us hl ih
  | nilfn => exact .nilfn
  | iface t x u _ ih => exact .iface t x u ih
  | niface => exact .niface
  | mval0 => exact .mval0
  | mval ks vs b es clock hO hb hm hk hv _ _ ihk ihv =>
    obtain ⟨h1, h2⟩ := E.keep b hb hO
    exact .mval ks vs b es clock h2 (Nat.lt_of_lt_of_le hb E.size) (h1.trans hm) hk hv ihk ihv

/-- Places stay as they were, for the first n references. -/
def PlExt (n : Nat) (pl pl' : Pl) : Prop := ∀ r, r < n → ∀ g p, pl r g = some p → pl' r g = some p
theorem PlExt.refl (n : Nat) (pl : Pl) : PlExt n pl pl := fun _ _ _ _ h => h
theorem PlExt.trans {n : Nat} {pl pl1 pl2 : Pl} (h : PlExt n pl pl1) (k : PlExt n pl1 pl2) : PlExt n pl pl2 := fun r hr g p hp => k r hr g p (h r hr g p hp)
theorem PlExt.le {m n : Nat} {pl pl' : Pl} (h : PlExt n pl pl') (hm : m ≤ n) : PlExt m pl pl' := fun r hr => h r (Nat.lt_of_lt_of_le hr hm)

theorem RV.mono {w w' : World} {O O' : Own} {pl pl' : Pl} {n n' : Nat} (E : Ext w O w' O') (hp : PlExt n pl pl') (hn : n ≤ n') {x : V} {u : Value}
    (h : RV w O pl n x u) : RV w' O' pl' n' x u := by
  induction h with
  | d x u h => exact .d x u (h.mono E)
  | agg cs us hl h1 _ ih => exact .agg cs us hl h1 ih
  | tup cs us hl _ ih => exact .tup cs us hl ih
  | slc r g i k b e c hr h hk => exact .slc r g i k b e c (Nat.lt_of_lt_of_le hr hn) (hp r hr g _ h) hk
  | slc0 r g i a cap hi hr => exact .slc0 r g i a cap hi (Nat.lt_of_lt_of_le hr hn)
  | ptr r g i j b e c hr h => exact .ptr r g i j b e c (Nat.lt_of_lt_of_le hr hn) (hp r hr g _ h)
  | fn f cs us hl _ ih => exact .fn f cs us hl ih
  | mref r b e c hr h => exact .mref r b e c (Nat.lt_of_lt_of_le hr hn) (hp r hr 0 _ h)
  | nils e a => exact .nils e a
  | und => exact .und

/-! ### Objects -/
/-- The block of a live object. -/
def blk (pl : Pl) (H : Hp) (r : Nat) : Option Nat :=
  match hget H r with
  | some (.row g _ _) => (pl r g).map (·.1)
  | some (.map _ _) => (pl r 0).map (·.1)
  | _ => none

def owned (pl : Pl) (H : Hp) : Own := fun b => ∃ r, blk pl H r = some b

def Unfrozen (fr : Nat × Nat) (n : Nat) : Prop := ∀ o, o < n → ¬ (fr.1 ≤ o ∧ o < fr.2)

/-- One object as it lies. -/
inductive OR (w : World) (O : Own) (pl : Pl) (n : Nat) (r : Nat) : Obj → Prop where
  | dead : OR w O pl n r .dead
  | row (g e : Nat) (xs : List V) (b c : Nat) (arr : Array Value) (ty : TypeId) (fr : Nat × Nat) (hp : pl r g = some (b, e, c)) (hh : w.heap[b]? = some (.cells arr ty fr))
      (hs : arr.size = c * e) (hf : Unfrozen fr arr.size) (hx : xs.length ≤ c) (he : ∀ i, i < xs.length → (xs.getD i .any).cells.length = e)
      (hr : ∀ i j, i < xs.length → j < e → RV w O pl n ((xs.getD i .any).cells.getD j .any) (arr.getD (i * e + j) undef))
      (h1 : ∀ i j, i < xs.length → j < e → (arr.getD (i * e + j) undef).oneCell' = true) (hg : ∀ g', g < g' → pl r g' = none) : OR w O pl n r (.row g e xs)
  | map (ks vs : List V) (b e c : Nat) (es : Array MapEntry) (clock : Nat) (hp : pl r 0 = some (b, e, c)) (hh : w.heap[b]? = some (.map es clock))
      (hk : es.size = ks.length) (hv : es.size = vs.length)
      (hrk : ∀ i, i < es.size → RV w O pl n (ks.getD i .any) (es.getD i default).key)
      (hrv : ∀ i, i < es.size → RV w O pl n (vs.getD i .any) (es.getD i default).val) : OR w O pl n r (.map ks vs)

/-- The heap as it lies. Bd: how many objects lay before each call that is under way; none of these leads to a later one. -/
structure HR (w : World) (pl : Pl) (Bd : Nat → Prop) (H : Hp) : Prop where
  obj : ∀ r o, hget H r = some o → OR w (owned pl H) pl (hlen H) r o
  inj : ∀ r r' b, blk pl H r = some b → blk pl H r' = some b → r = r'
  bd : ∀ m, Bd m → ∀ r o, r < m → hget H r = some o → OR w (owned pl H) pl m r o
  le : ∀ m, Bd m → m ≤ hlen H

theorem OR.mono {w w' : World} {O O' : Own} {pl pl' : Pl} {n n' r : Nat} (E : Ext w O w' O') (hp : PlExt n pl pl') (hn : n ≤ n') {o : Obj}
    (hpr : pl' r = pl r) (hb : ∀ g b e c, pl r g = some (b, e, c) → w'.heap[b]? = w.heap[b]?) (h : OR w O pl n r o) : OR w' O' pl' n' r o := by
  cases h with
  | dead => exact .dead
  | row g e xs b c arr ty fr hp' hh hs hf hx he hr h1 hg =>
    exact .row g e xs b c arr ty fr (by rw [hpr]; exact hp') ((hb g b e c hp').trans hh) hs hf hx he (fun i j hi hj => (hr i j hi hj).mono E hp hn) h1 (by rw [hpr]; exact hg)
  | map ks vs b e c es clock hp' hh hk hv hrk hrv =>
    exact .map ks vs b e c es clock (by rw [hpr]; exact hp') ((hb 0 b e c hp').trans hh) hk hv (fun i hi => (hrk i hi).mono E hp hn) (fun i hi => (hrv i hi).mono E hp hn)

theorem blk_lt {pl : Pl} {H : Hp} {r b : Nat} (h : blk pl H r = some b) : ∃ o, hget H r = some o := by
  unfold blk at h
  cases hg : hget H r with
  | none => rw [hg] at h; simp at h
  | some o => exact ⟨o, rfl⟩

theorem hget_lt {H : Hp} {r : Nat} {o : Obj} (h : hget H r = some o) : r < hlen H := by
  induction H generalizing r with
  | nil => simp [hget] at h
  | cons a H ih =>
    cases r with
    | zero => simp [hlen]
    | succ r => have := ih (by simpa [hget] using h); simp [hlen] at *; omega

theorem hget_some {H : Hp} {r : Nat} (h : r < hlen H) : ∃ o, hget H r = some o := by
  induction H generalizing r with
  | nil => simp [hlen] at h
  | cons a H ih =>
    cases r with
    | zero => exact ⟨a, rfl⟩
    | succ r => exact ih (by simp [hlen] at *; omega)

theorem hlen_hset (H : Hp) (r : Nat) (o : Obj) : hlen (hset H r o) = hlen H := by
  induction H generalizing r with
  | nil => rfl
  | cons a H ih => cases r with
    | zero => rfl
    | succ r => have := ih r; simp only [hlen, hset, List.length_cons] at *; omega

theorem hlen_hpush (H : Hp) (o : Obj) : hlen (hpush H o) = hlen H + 1 := by simp [hlen, hpush]

theorem hget_hset_self {H : Hp} {r : Nat} (o : Obj) (h : r < hlen H) : hget (hset H r o) r = some o := by
  induction H generalizing r with
  | nil => simp [hlen] at h
  | cons a H ih => cases r with
    | zero => rfl
    | succ r => exact ih (by simp [hlen] at *; omega)

theorem hget_hset_ne {H : Hp} {r r' : Nat} (o : Obj) (h : r' ≠ r) : hget (hset H r o) r' = hget H r' := by
  induction H generalizing r r' with
  | nil => rfl
  | cons a H ih => cases r with
    | zero => cases r' with
      | zero => exact absurd rfl h
      | succ r' => rfl
    | succ r => cases r' with
      | zero => rfl
      | succ r' => exact ih (by omega)

theorem hget_hpush_lt {H : Hp} {r : Nat} (o : Obj) (h : r < hlen H) : hget (hpush H o) r = hget H r := by
  induction H generalizing r with
  | nil => simp [hlen] at h
  | cons a H ih => cases r with
    | zero => rfl
    | succ r => exact ih (by simp [hlen] at *; omega)

theorem hget_hpush_self (H : Hp) (o : Obj) : hget (hpush H o) (hlen H) = some o := by
  induction H with
  | nil => rfl
  | cons a H ih => exact ih

theorem hget_ge {H : Hp} {r : Nat} (h : hlen H ≤ r) : hget H r = none := by
  cases hg : hget H r with
  | none => rfl
  | some o => have := hget_lt hg; omega

/-- A live object's block lies in the world. -/
theorem OR.block {w : World} {pl : Pl} {H : Hp} {r b : Nat} {O : Own} {n : Nat} {o : Obj} (ho : hget H r = some o) (h : OR w O pl n r o) (hb : blk pl H r = some b) : b < w.heap.size := by
  unfold blk at hb
  rw [ho] at hb
  cases h with
  | dead => simp at hb
  | row g e xs b' c arr ty fr hp hh => simp [hp] at hb; subst hb; exact (Array.getElem?_eq_some_iff.1 hh).1
  | map ks vs b' e c es clock hp hh => simp [hp] at hb; subst hb; exact (Array.getElem?_eq_some_iff.1 hh).1

theorem HR.owned_lt {w : World} {pl : Pl} {Bd : Nat → Prop} {H : Hp} (h : HR w pl Bd H) {b : Nat} (hb : owned pl H b) : b < w.heap.size := by
  obtain ⟨r, hr⟩ := hb
  obtain ⟨o, ho⟩ := blk_lt hr
  exact (h.obj r o ho).block ho hr
end Go.Ev

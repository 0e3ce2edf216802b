/- Lemmas (several texts in one). -/
import Derived.Test.YtjdmiodinhlchaaDoorM3
import Derived.Lib.LaidTab
import Derived.Sort.Grow
import Derived.WalkSmall
import Derived.ChangeArms
import Derived.ChangeSlices
import Derived.OpenShut
import Derived.ChangeShapes
import Derived.Shelf.Strconv.Itoa0
import Derived.Shelf.Strconv.Itoa1
import Derived.Shelf.LaysM
import Derived.Shelf.Strconv.Itoa2
import Derived.Shelf.Strconv.Itoa3
import Derived.Test.YtjdmiodinhlchaaDoorProg
import Derived.Test.YtjdmiodinhlchaaDoorChecked
import Derived.KernelRfl
/- Programs with variables and functions whose meaning is given: tables of integers. -/
namespace Go.Ev
open Go Go.Sort
set_option linter.unusedSimpArgs false
set_option linter.unusedVariables false

/-- A program out of a table, with variables that are read and functions that are given. -/
def ofTabG (t : List (Nat × AFunc)) (glob : Glob) (prim : Nat → Option (List V → Hp → Option (V × Hp))) : Prg := { fns := getF t, glob := glob, prim := prim }

theorem ofTabG_ok {P : Program} {t : List (Nat × AFunc)} {glob : Glob} {prim : Nat → Option (List V → Hp → Option (V × Hp))} (hm : P.follows .mixedOrders = true) (h : ∀ p ∈ t, ∃ fn, P.funcs[p.1]? = some fn ∧ chkFunc P fn p.2 = true)
    (hp : ∀ k p, prim k = some p → ∀ args H r, p args H = some r → SoundAt P glob k args H r) : PrgOk P (ofTabG t glob prim) :=
  ⟨hm, fun _ _ hk => h _ (getF_mem hk), hp⟩

/-- A variable that holds integers. -/
def intsD (k : IntKind) (zs : List Int) : List D := zs.map (.int k)

theorem tab_of_gr {P : Program} {G : Glob} {w : World} {O : Own} (hG : GR G w O) {name : String} {g : Nat} {k : IntKind} {zs : List Int} (hn : P.globalNamed name = some g) (hg : G g = some (intsD k zs)) : Lib.TabIs P w name k zs := by
  obtain ⟨h1, arr, ty, fr, hh, hs⟩ := hG g _ hg
  cases h1 with
  | rptr _ b o F hO hb hc h1c hr =>
    unfold Lib.TabIs World.var?
    rw [hn]
    simp only [Option.bind_some, hh, Option.some.injEq]
    have hl : arr.size = zs.length := by simpa [intsD] using hs
    apply Array.ext
    · simp [hl]
    · intro i h1 h2
      have hi : i < zs.length := by omega
      have hi' : i < (intsD k zs).length := by simpa [intsD] using hi
      have c := hc i hi'
      have r := hr i hi'
      have e : (intsD k zs).getD i .nilp = .int k (zs[i]) := by simp [intsD, List.getD_eq_getElem?_getD, hi]
      rw [e] at r
      simp only [World.cell?, hh] at c
      simp only [Nat.zero_add] at c
      rw [Array.getElem?_eq_getElem h1] at c
      simp only [Option.isSome_none, Bool.false_eq_true, if_false, Option.some.injEq] at c
      rw [c]
      generalize F i = q at r ⊢
      cases r
      simp

/-- A table, out of what the row lists. -/
theorem gr_of_tab {P : Program} {w : World} {name : String} {g : Nat} {k : IntKind} {zs : List Int} (hn : P.globalNamed name = some g) (h : Lib.TabIs P w name k zs) :
    RD w (fun _ => False) (.rptr (intsD k zs)) (.pointer (some ⟨g, 0, none⟩)) ∧ ∃ arr ty fr, w.heap[g]? = some (.cells arr ty fr) ∧ arr.size = (intsD k zs).length := by
  unfold Lib.TabIs World.var? at h
  rw [hn] at h
  simp only [Option.bind_some] at h
  split at h
  · rename_i cs ty fr hh
    simp only [Option.some.injEq] at h
    subst h
    refine ⟨.rptr _ g 0 (fun j => .int k (zs.getD j 0)) (fun h => h) (Array.getElem?_eq_some_iff.1 hh).1 (fun j hj => ?_) (fun j hj => rfl) (fun j hj => ?_), _, _, _, hh, by simp [intsD]⟩
    · have hj' : j < zs.length := by simpa [intsD] using hj
      simp [World.cell?, hh, List.getD_eq_getElem?_getD, hj']
    · have hj' : j < zs.length := by simpa [intsD] using hj
      have e : (intsD k zs).getD j .nilp = .int k (zs.getD j 0) := by simp [intsD, List.getD_eq_getElem?_getD, hj']
      rw [e]
      exact .int _ _
  · simp at h

/-- What is said of a world's going on is so of one that has only grown. -/
theorem ext_grow {w : World} {O : Own} (k : Nat) (os : Array Go.Obj) : Ext w O (grow (w.drewN k) os) O :=
  ⟨rfl, rfl, rfl, by simp [grow, World.drewN], fun b hb hO => ⟨by
    show (w.heap ++ os)[b]? = _
    rw [Array.getElem?_append_left hb], hO⟩⟩

/-- A given function of data that leaves every heap ags it is. -/
theorem prim_sound {P : Program} {G : Glob} {k : Nat} {args : List V} {H : Hp} {x : D} (hf : FnOk P k)
    (hc : ∀ (w : World) (pl : Pl) (us : Array Value), GR G w (owned pl H) → RVs w (owned pl H) pl (hlen H) args us → Calls P k us w fun e w' => ∃ u, e = .returned u ∧ RD w' (owned pl H) x u ∧ ∃ m os, w' = grow (w.drewN m) os) : SoundAt P G k args H (.d x, H) := by
  refine ⟨hf, fun w pl Bd us hH hG hR => (hc w pl us hG hR).mono fun e w' he => ?_⟩
  obtain ⟨u, rfl, hx, m, os, rfl⟩ := he
  have E : Ext w (owned pl H) (grow (w.drewN m) os) (owned pl H) := ext_grow m os
  refine ⟨u, pl, rfl, ⟨?_, .d _ _ hx, E, PlExt.refl _ _, Nat.le_refl _⟩⟩
  exact (hH.mono_all (w' := grow (w.drewN m) os) ⟨rfl, rfl, rfl, by simp [grow, World.drewN], fun b hb _ => ⟨by
    show (w.heap ++ os)[b]? = _
    rw [Array.getElem?_append_left hb], fun h => h⟩⟩).1
end Go.Ev
/- Arguments of any type of plain data, ags data. -/
namespace Go.Ev
open Go Go.ChangeShapes Go.WideShapes
set_option linter.unusedSimpArgs false
set_option linter.unusedVariables false

/-- Types of plain data. A struct is a chain of fields. -/
inductive Ty where
  | bool
  | int (k : IntKind)
  | str
  | slice (e : Ty)
  | fin
  | fld (f r : Ty)

def Ty.size : Ty → Nat
  | .fin => 0
  | .fld f r => f.size + r.size
  | _ => 1
def Ty.isAgg : Ty → Bool
  | .fin => true
  | .fld _ _ => true
  | _ => false
def Ty.toD (e : Ty) (cs : List D) : D := bif e.isAgg then .agg cs else cs.getD 0 .nilp

/-- What cells of a type may be. -/
def Shape : Ty → List D → Prop
  | .bool, ds => ∃ b, ds = [.bool b]
  | .int k, ds => ∃ n, ds = [.int k n] ∧ (Lit.int k n).wf = true
  | .str, ds => ∃ s, ds = [.str s] ∧ s.length ≤ maxLen
  | .slice e, ds => ∃ xss : List (List D), ds = [.vals e.size (xss.map e.toD)] ∧ xss.length ≤ maxLen ∧ ∀ xs ∈ xss, Shape e xs
  | .fin, ds => ds = []
  | .fld f r, ds => ∃ a b, ds = a ++ b ∧ Shape f a ∧ Shape r b

def isB : TypeDesc → Bool | .bool => true | _ => false
def isS : TypeDesc → Bool | .string => true | _ => false
def isI (k : IntKind) : TypeDesc → Bool | .int k' => decide (k = k') | _ => false

/-- A type of the program is so; fields from an offset on are so. -/
def tyIs (P : Program) : Ty → (TypeId → Bool) × (List Field → Nat → Bool)
  | .bool => (fun t => match P.underlying t with | some d => isB d | none => false, fun _ _ => false)
  | .int k => (fun t => match P.underlying t with | some d => isI k d | none => false, fun _ _ => false)
  | .str => (fun t => match P.underlying t with | some d => isS d | none => false, fun _ _ => false)
  | .slice e => (fun t => match P.underlying t with | some (.slice u) => (tyIs P e).1 u && Nat.beq (P.cellsOf u) e.size && Nat.blt 0 e.size | _ => false, fun _ _ => false)
  | .fin => (fun _ => false, fun gs _ => match gs with | [] => true | _ :: _ => false)
  | .fld f r => (fun t => match P.underlying t with | some (.struct gs) => (match gs.toList with | g :: rest => Nat.beq g.offset 0 && (tyIs P f).1 g.type && Nat.beq (P.cellsOf g.type) f.size && (tyIs P r).2 rest f.size | [] => false) && Nat.beq (P.cellsOf t) (f.size + r.size) | _ => false,
      fun gs off => match gs with | g :: rest => Nat.beq g.offset off && (tyIs P f).1 g.type && Nat.beq (P.cellsOf g.type) f.size && (tyIs P r).2 rest (off + f.size) | [] => false)

theorem isB_eq {d : TypeDesc} (h : isB d = true) : d = .bool := by cases d <;> simp [isB] at h ⊢
theorem isS_eq {d : TypeDesc} (h : isS d = true) : d = .string := by cases d <;> simp [isS] at h ⊢
theorem isI_eq {k : IntKind} {d : TypeDesc} (h : isI k d = true) : d = .int k := by cases d <;> simp [isI] at h ⊢; exact h.symm

theorem shape_len : ∀ (T : Ty) (ds : List D), Shape T ds → ds.length = T.size
  | .bool, ds, h => by obtain ⟨b, rfl⟩ := h; rfl
  | .int k, ds, h => by obtain ⟨n, rfl, _⟩ := h; rfl
  | .str, ds, h => by obtain ⟨s, rfl, _⟩ := h; rfl
  | .slice e, ds, h => by obtain ⟨xs, rfl, _⟩ := h; rfl
  | .fin, ds, h => by simp only [Shape] at h; subst h; rfl
  | .fld f r, ds, h => by
    obtain ⟨a, b, rfl, h1, h2⟩ := h
    rw [List.length_append, shape_len f a h1, shape_len r b h2]
    rfl
theorem toD_cells {T : Ty} {ds : List D} (h : Shape T ds) : (T.toD ds).cells = ds := by
  cases T with
  | bool => obtain ⟨b, rfl⟩ := h; rfl
  | int k => obtain ⟨n, rfl, _⟩ := h; rfl
  | str => obtain ⟨s, rfl, _⟩ := h; rfl
  | slice e => obtain ⟨xs, rfl, _⟩ := h; rfl
  | fin => rfl
  | fld f r => rfl

/-- Cells that stand for data. -/
def Reads (w : World) (ds : List D) (cs : List Value) : Prop := ds.length = cs.length ∧ ∀ i, i < cs.length → RD w (fun _ => False) (ds.getD i .nilp) (cs.getD i undef) ∧ (cs.getD i undef).oneCell' = true

theorem reads_one {w : World} {x : D} {u : Value} (h : RD w (fun _ => False) x u) (h1 : u.oneCell' = true) : Reads w [x] [u] :=
  ⟨rfl, fun i hi => by
    obtain rfl : i = 0 := by simpa using hi
    exact ⟨h, h1⟩⟩

section
variable {H : Type} {enc : TypeId × Value → H} {P : Program} {w : World} {base : Nat} {spare : Nat → Bool} {held : Bool}

theorem cells?_get {a : Addr} {n : Nat} {cs : List Value} (h : w.cells? base a n = some cs) : cs.length = n ∧ ∀ i, i < n → w.cell? (a.add i) = some (cs.getD i undef) := by
  obtain ⟨h1, h2, h3⟩ := World.cells?_some h
  refine ⟨h2, fun i hi => ?_⟩
  have h4 := h3 i hi
  rw [h4, List.getD_eq_getElem?_getD, List.getElem?_eq_getElem (by omega)]
  rfl

theorem open_ty : ∀ (T : Ty), (∀ (t : TypeId) (fuel : Nat) (cs : List Value) (x : DataW H × List MemPlace), (tyIs P T).1 t = true → DataW.trod enc P w base spare held fuel t cs = some x → ∃ ds, Shape T ds ∧ Reads w ds cs) ∧
    (∀ (gs : List Field) (off : Nat) (cs : List Value) (n : Nat), (tyIs P T).2 gs off = true → off + T.size = cs.length → (∀ g ∈ gs, ∃ y, DataW.trod enc P w base spare held n g.type ((cs.drop g.offset).take (P.cellsOf g.type)) = some y) → ∃ ds, Shape T ds ∧ Reads w ds (cs.drop off)) := by
  intro T
  induction T with
  | bool =>
    refine ⟨fun t fuel cs x ht h => ?_, fun gs off cs n h => by simp [tyIs] at h⟩
    simp only [tyIs] at ht
    split at ht
    · rename_i d hd
      rw [isB_eq ht] at hd
      obtain ⟨b, rfl, _⟩ := DataW.trod_bool hd h
      exact ⟨[.bool b], ⟨b, rfl⟩, reads_one (.bool b) rfl⟩
    · simp at ht
  | int k =>
    refine ⟨fun t fuel cs x ht h => ?_, fun gs off cs n h => by simp [tyIs] at h⟩
    simp only [tyIs] at ht
    split at ht
    · rename_i d hd
      rw [isI_eq ht] at hd
      obtain ⟨n, rfl, _, hw⟩ := DataW.trod_int hd h
      exact ⟨[.int k n], ⟨n, rfl, hw⟩, reads_one (.int k n) rfl⟩
    · simp at ht
  | str =>
    refine ⟨fun t fuel cs x ht h => ?_, fun gs off cs n h => by simp [tyIs] at h⟩
    simp only [tyIs] at ht
    split at ht
    · rename_i d hd
      rw [isS_eq ht] at hd
      obtain ⟨s, rfl, _, hs⟩ := DataW.trod_string hd h
      exact ⟨[.str s.data.toList], ⟨_, rfl, by simpa using hs⟩, reads_one (.str _ s rfl) rfl⟩
    · simp at ht
  | slice e ih =>
    refine ⟨fun t fuel cs x ht h => ?_, fun gs off cs n h => by simp [tyIs] at h⟩
    simp only [tyIs] at ht
    split at ht
    · rename_i u hu
      simp only [Bool.and_eq_true] at ht
      obtain ⟨⟨h1, h2⟩, h3⟩ := ht
      have h2 := Nat.eq_of_beq_eq_true h2
      have h3 : 0 < e.size := by simpa using h3
      rcases DataW.trod_slice hu h with ⟨rfl, _⟩ | ⟨a, len, cap, elems, rest, n, _, rfl, _, hb, hl, hm, hlen, hel, _, _⟩
      · exact ⟨[.vals e.size []], ⟨[], rfl, Nat.zero_le _, fun xs hx => by simp at hx⟩, reads_one (.vals0 _ _ _) rfl⟩
      · have each : ∀ i, i < len → ∃ (ds : List D) (cs : List Value), w.cells? base (a.add (i * e.size)) e.size = some cs ∧ Shape e ds ∧ Reads w ds cs := by
          intro i hi
          have h4 := hel i hi
          rw [List.getElem?_eq_getElem (by omega), h2, Option.bind_eq_some_iff] at h4
          obtain ⟨cs, hcs, h5⟩ := h4
          obtain ⟨ds, k1, k2⟩ := ih.1 u n cs _ h1 h5
          exact ⟨ds, cs, hcs, k1, k2⟩
        let xss : List (List D) := (List.range len).map fun i => if h : i < len then (each i h).choose else []
        have hx : ∀ i (hi : i < len), xss.getD i [] = (each i hi).choose := fun i hi => by simp [xss, List.getD_eq_getElem?_getD, hi]
        have hxl : xss.length = len := by simp [xss]
        have hsh : ∀ i, i < len → Shape e (xss.getD i []) := fun i hi => by
          rw [hx i hi]
          obtain ⟨cs, k1, k2, k3⟩ := (each i hi).choose_spec
          exact k2
        refine ⟨[.vals e.size (xss.map e.toD)], ⟨xss, rfl, by omega, fun xs hm => ?_⟩, reads_one ?_ rfl⟩
        · obtain ⟨i, hi⟩ := List.getElem?_of_mem hm
          have hil := (List.getElem?_eq_some_iff.1 hi).1
          have := hsh i (by omega)
          rw [List.getD_eq_getElem?_getD, hi] at this
          exact this
        · by_cases h0 : len = 0
          · subst h0
            have : xss = [] := List.eq_nil_of_length_eq_zero hxl
            rw [this]
            exact .vals0 _ _ _
          · obtain ⟨cs0, q1, _, _⟩ := (each 0 (by omega)).choose_spec
            obtain ⟨q2, q3⟩ := cells?_get q1
            have q4 := q3 0 h3
            rw [Nat.zero_mul] at q4
            have ha0 : (a.add 0).add 0 = a := by simp [Addr.add]
            rw [ha0] at q4
            obtain ⟨hsp, hblk⟩ := cell_spot q4
            obtain ⟨b, o, sp⟩ := a
            simp only at hsp hblk
            subst hsp
            have hg : ∀ i, i < len → (xss.map e.toD).getD i .nilp = e.toD (xss.getD i []) := fun i hi => by
              simp [List.getD_eq_getElem?_getD, hxl, hi]
            have cell : ∀ i j, i < len → j < e.size → ∃ u, w.cell? ⟨b, o + i * e.size + j, none⟩ = some u ∧ u.oneCell' = true ∧ RD w (fun _ => False) ((xss.getD i []).getD j .nilp) u := by
              intro i j hi hj
              obtain ⟨cs, k1, k2, k3⟩ := (each i hi).choose_spec
              obtain ⟨m1, m2⟩ := cells?_get k1
              have m3 := m2 j hj
              rw [hx i hi]
              obtain ⟨m4, m5⟩ := k3.2 j (by omega)
              refine ⟨_, ?_, m5, m4⟩
              have : ((⟨b, o, none⟩ : Addr).add (i * e.size)).add j = ⟨b, o + i * e.size + j, none⟩ := by rw [Go.Ev.add_plain, Go.Ev.add_plain]
              rw [this] at m3
              exact m3
            have := RD.vals (w := w) (O := fun _ => False) e.size (xss.map e.toD) b o cap (fun i j => (w.cell? ⟨b, o + i * e.size + j, none⟩).getD undef) (by simp; omega) (fun h => h) hblk
              (fun i hi => by
                have hi' : i < len := by simpa [hxl] using hi
                rw [hg i hi', toD_cells (hsh i hi')]
                exact shape_len _ _ (hsh i hi'))
              (fun i j hi hj => by
                obtain ⟨u, k1, _, _⟩ := cell i j (by simpa [hxl] using hi) hj
                rw [k1]; rfl)
              (fun i j hi hj => by
                obtain ⟨u, k1, k2, _⟩ := cell i j (by simpa [hxl] using hi) hj
                simp only [k1, Option.getD_some]; exact k2)
              (fun i j hi hj => by
                have hi' : i < len := by simpa [hxl] using hi
                obtain ⟨u, k1, _, k3⟩ := cell i j hi' hj
                rw [hg i hi', toD_cells (hsh i hi')]
                simp only [k1, Option.getD_some]; exact k3)
            rw [List.length_map, hxl] at this
            exact this
    · simp at ht
  | fin =>
    refine ⟨fun t fuel cs x ht h => by simp [tyIs] at ht, fun gs off cs n h hl _ => ?_⟩
    refine ⟨[], rfl, ?_⟩
    have : cs.drop off = [] := List.drop_of_length_le (by simp [Ty.size] at hl; omega)
    rw [this]
    exact ⟨rfl, fun i hi => by simp at hi⟩
  | fld f r ihf ihr =>
    have key : ∀ (gs : List Field) (off : Nat) (cs : List Value) (n : Nat), (tyIs P (.fld f r)).2 gs off = true → off + (Ty.fld f r).size = cs.length → (∀ g ∈ gs, ∃ y, DataW.trod enc P w base spare held n g.type ((cs.drop g.offset).take (P.cellsOf g.type)) = some y) → ∃ ds, Shape (.fld f r) ds ∧ Reads w ds (cs.drop off) := by
      intro gs off cs n h hl hg
      simp only [tyIs] at h
      cases gs with
      | nil => simp at h
      | cons g rest =>
        simp only [Bool.and_eq_true] at h
        obtain ⟨⟨⟨h1, h2⟩, h3⟩, h4⟩ := h
        have h1 := Nat.eq_of_beq_eq_true h1
        have h3 := Nat.eq_of_beq_eq_true h3
        simp only [Ty.size] at hl
        obtain ⟨y, hy⟩ := hg g (by simp)
        rw [h1, h3] at hy
        obtain ⟨a, a1, a2, a3⟩ := ihf.1 g.type n _ y h2 hy
        obtain ⟨b, b1, b2, b3⟩ := ihr.2 rest (off + f.size) cs n h4 (by omega) (fun g' hg' => hg g' (by simp [hg']))
        have al : ((cs.drop off).take f.size).length = f.size := by simp; omega
        rw [al] at a2 a3
        have bl : (cs.drop (off + f.size)).length = r.size := by simp; omega
        rw [bl] at b2 b3
        refine ⟨a ++ b, ⟨a, b, rfl, a1, b1⟩, by simp; omega, fun i hi => ?_⟩
        by_cases hif : i < f.size
        · have := a3 i hif
          have e1 : (a ++ b).getD i .nilp = a.getD i .nilp := by simp [List.getD_eq_getElem?_getD, List.getElem?_append_left (show i < a.length by omega)]
          have e2 : ((cs.drop off).take f.size).getD i undef = (cs.drop off).getD i undef := by simp [List.getD_eq_getElem?_getD, List.getElem?_take, hif]
          rw [e1]
          rw [e2] at this
          exact this
        · simp only [List.length_drop] at hi
          have := b3 (i - f.size) (by omega)
          have e1 : (a ++ b).getD i .nilp = b.getD (i - f.size) .nilp := by
            rw [List.getD_eq_getElem?_getD, List.getElem?_append_right (by omega), a2, ← List.getD_eq_getElem?_getD]
          have e2 : (cs.drop (off + f.size)).getD (i - f.size) undef = (cs.drop off).getD i undef := by
            simp only [List.getD_eq_getElem?_getD, List.getElem?_drop]
            rw [show off + f.size + (i - f.size) = off + i by omega]
          rw [e1]
          rw [e2] at this
          exact this
    refine ⟨fun t fuel cs x ht h => ?_, key⟩
    simp only [tyIs] at ht
    split at ht
    · rename_i gs hgs
      rw [Bool.and_eq_true] at ht
      obtain ⟨h1, h2⟩ := ht
      have h2 := Nat.eq_of_beq_eq_true h2
      obtain ⟨xs, n, _, _, hcl, hxl, hf⟩ := DataW.trod_struct hgs h
      have := key gs.toList 0 cs n (by
        simp only [tyIs]
        cases hg : gs.toList with
        | nil => rw [hg] at h1; simp at h1
        | cons g rest =>
          rw [hg] at h1
          simpa using h1) (by simp only [Ty.size]; omega) (fun g hg => by
        obtain ⟨i, hi⟩ := List.getElem?_of_mem hg
        have hi' : gs[i]? = some g := by simpa using hi
        have hil := (Array.getElem?_eq_some_iff.1 hi').1
        have := hf i g hi'
        rw [this, List.getElem?_eq_getElem (by omega)]
        exact ⟨_, rfl⟩)
      simpa using this
    · simp at ht

/-- A whole argument. -/
theorem open_arg {T : Ty} {t : TypeId} {v : Value} {d : DataW H} {ps : List MemPlace} {b0 : Nat} (hT : (tyIs P T).1 t = true) (hok : Value.okWide P w .any b0 t v) (h : DataW.Trod enc P w base spare held t v d ps) : ∃ ds, Shape T ds ∧ RD w (fun _ => False) (T.toD ds) v := by
  obtain ⟨fuel, h⟩ := h
  obtain ⟨ds, h1, h2⟩ := (open_ty T).1 t fuel _ _ hT h
  refine ⟨ds, h1, ?_⟩
  have hsz := shape_len T ds h1
  have one : T.isAgg = false → v.cells = #[v] → RD w (fun _ => False) (T.toD ds) v := by
    intro ha hv
    rw [hv] at h2
    have h3 := (h2.2 0 (by simp)).1
    simp only [Ty.toD, ha, cond_false]
    simpa using h3
  cases T with
  | bool =>
    simp only [tyIs] at hT
    split at hT
    · rename_i d hd
      rw [isB_eq hT] at hd
      obtain ⟨b, rfl⟩ := okWide_bool hd hok
      exact one rfl rfl
    · simp at hT
  | int k =>
    simp only [tyIs] at hT
    split at hT
    · rename_i d hd
      rw [isI_eq hT] at hd
      obtain ⟨n, rfl⟩ := okWide_int hd hok
      exact one rfl rfl
    · simp at hT
  | str =>
    simp only [tyIs] at hT
    split at hT
    · rename_i d hd
      rw [isS_eq hT] at hd
      obtain ⟨s, rfl⟩ := okWide_string hd hok
      exact one rfl rfl
    · simp at hT
  | slice e =>
    simp only [tyIs] at hT
    split at hT
    · rename_i u hu
      obtain ⟨a, l, c, rfl⟩ := okWide_slice hu hok
      exact one rfl rfl
    · simp at hT
  | fin => simp [tyIs] at hT
  | fld f r =>
    simp only [tyIs] at hT
    split at hT
    · rename_i gs hgs
      have hk := hok
      unfold Value.okWide at hk
      rw [hgs] at hk
      obtain ⟨us, rfl, _, _⟩ := hk
      simp only [Ty.toD, Ty.isAgg, cond_true]
      simp only [Value.cells] at h2
      have hl : us.size = ds.length := by simpa using h2.1.symm
      refine .agg ds us hl (fun i hi => ?_) (fun i hi => ?_)
      · have := (h2.2 i (by simp; omega)).2
        simpa [List.getD_eq_getElem?_getD, Array.getD_eq_getD_getElem?] using this
      · have := (h2.2 i (by simp; omega)).1
        simpa [List.getD_eq_getElem?_getD, Array.getD_eq_getD_getElem?] using this
    · simp at hT
end
end Go.Ev
/- Words for proofs about code: known objects behind an unknown heap, rounds with an invariant. -/
namespace Go.Ev
open Go
set_option linter.unusedSimpArgs false
set_option linter.unusedVariables false

/-! ### Objects behind a heap -/
def ap (H l : Hp) : Hp := (H : List Obj) ++ l
theorem ap0 (H : Hp) (o : Obj) : hpush H o = ap H [o] := rfl
theorem ap_nil (H : Hp) : ap H [] = H := List.append_nil _
theorem ap_push (H l : Hp) (o : Obj) : hpush (ap H l) o = ap H ((l : List Obj) ++ [o]) := by simp [ap, hpush]
theorem ap_len (H l : Hp) : hlen (ap H l) = hlen H + l.length := by simp [ap, hlen]
theorem hget_at : ∀ (H : Hp) (r : Nat), hget H r = H[r]?
  | [], _ => rfl
  | o :: H, 0 => rfl
  | o :: H, r + 1 => by simp only [hget, List.getElem?_cons_succ, hget_at H r]
theorem hset_at : ∀ (H : Hp) (r : Nat) (o : Obj), hset H r o = H.set r o
  | [], _, _ => rfl
  | x :: H, 0, _ => rfl
  | x :: H, r + 1, o => by simp only [hset, List.set_cons_succ, hset_at H r]
theorem ap_get (H l : Hp) (k : Nat) : hget (ap H l) (hlen H + k) = hget l k := by
  rw [hget_at, hget_at, ap, List.getElem?_append_right (by simp [hlen])]
  simp [hlen]
theorem ap_get0 (H l : Hp) : hget (ap H l) (hlen H) = hget l 0 := ap_get H l 0
theorem ap_set (H l : Hp) (k : Nat) (o : Obj) : hset (ap H l) (hlen H + k) o = ap H (hset l k o) := by
  rw [hset_at, hset_at, ap, List.set_append_right _ _ (by simp [hlen])]
  simp [hlen, ap]
theorem ap_set0 (H l : Hp) (o : Obj) : hset (ap H l) (hlen H) o = ap H (hset l 0 o) := ap_set H l 0 o
theorem ap_take (H l : Hp) : htake (ap H l) (hlen H) = H := by simp [ap, htake, hlen]
theorem ap_takeN (H l : Hp) (k : Nat) : htake (ap H l) (hlen H + k) = ap H (l.take k) := by
  simp only [ap, htake, hlen, List.take_append]
  rw [List.take_of_length_le (by omega)]
  congr 2
  omega
theorem ap_nlt (H : Hp) (k : Nat) : ¬ hlen H + k < hlen H := by omega
theorem ap_nlt0 (H : Hp) : ¬ hlen H < hlen H := by omega
theorem ap_ble (H : Hp) (k : Nat) : (hlen H).ble (hlen H + k) = true := by simp
theorem ap_ble0 (H : Hp) : (hlen H).ble (hlen H) = true := by simp
theorem ap_blt (H : Hp) (a b : Nat) : Nat.blt (hlen H + a) (hlen H + b) = Nat.blt a b := by
  rw [Bool.eq_iff_iff]; simp
theorem ap_blt0 (H : Hp) (b : Nat) : Nat.blt (hlen H) (hlen H + b) = Nat.blt 0 b := by
  rw [Bool.eq_iff_iff]; simp
theorem ap_bltR (H : Hp) (a : Nat) : Nat.blt (hlen H + a) (hlen H) = false := by
  cases h : Nat.blt (hlen H + a) (hlen H) with
  | false => rfl
  | true => simp at h; omega
theorem ap_blt00 (H : Hp) : Nat.blt (hlen H) (hlen H) = false := by simpa using ap_bltR H 0
theorem ap_bleN (H : Hp) (a b : Nat) : Nat.ble (hlen H + a) (hlen H + b) = Nat.ble a b := by
  rw [Bool.eq_iff_iff]; simp
theorem ap_bleR (H : Hp) (a : Nat) : Nat.ble (hlen H + (a + 1)) (hlen H) = false := by
  cases h : Nat.ble (hlen H + (a + 1)) (hlen H) with
  | false => rfl
  | true => have := Nat.le_of_ble_eq_true h; omega

theorem allD_d' : ∀ (ds : List D), allD (ds.map V.d) = some ds
  | [] => rfl
  | x :: r => by simp only [List.map_cons, allD, allD_d' r]
theorem allD_app : ∀ (ds : List D) (vs : List V), allD (ds.map V.d ++ vs) = (match allD vs with | some es => some (ds ++ es) | none => none)
  | [], vs => by
    rw [List.map_nil, List.nil_append]
    cases allD vs <;> rfl
  | x :: r, vs => by
    simp only [List.map_cons, List.cons_append, allD, allD_app r vs]
    cases allD vs <;> rfl
theorem mapO_fz_all : ∀ {vs : List V} {ds : List D} {n d : Nat} {H : Hp}, allD vs = some ds → mapO (fz n d H) vs = some ds
  | [], ds, _, _, _, h => by simp only [allD, Option.some.injEq] at h; subst h; rfl
  | .d x :: r, ds, n, d, H, h => by
    simp only [allD] at h
    split at h
    · rename_i xs hx
      simp only [Option.some.injEq] at h; subst h
      have : fz n d H (.d x) = some x := by cases d <;> rfl
      simp only [mapO, this, mapO_fz_all hx]
    · simp at h
  | .agg _ :: _, _, _, _, _, h => by simp [allD] at h
  | .tup _ :: _, _, _, _, _, h => by simp [allD] at h
  | .slc _ _ _ _ :: _, _, _, _, _, h => by simp [allD] at h
  | .ptr _ _ _ _ :: _, _, _, _, _, h => by simp [allD] at h
  | .fn _ _ :: _, _, _, _, _, h => by simp [allD] at h
  | .mref _ :: _, _, _, _, _, h => by simp [allD] at h
  | .nils _ :: _, _, _, _, _, h => by simp [allD] at h
  | .und :: _, _, _, _, _, h => by simp [allD] at h
  | .any :: _, _, _, _, _, h => by simp [allD] at h
theorem allD_len : ∀ {vs : List V} {ds : List D}, allD vs = some ds → ds.length = vs.length := fun h => by
  have := allD_some h
  rw [this]; simp
/-- A row behind the heap that is handed back becomes data. -/
theorem ap_fzC {H l : Hp} {k g e n : Nat} {xs : List V} {ds : List D} (h1 : hget l k = some (.row g e xs)) (h2 : allD xs = some ds) (h3 : n = ds.length) : fzC (hlen H) (ap H l) (.slc (hlen H + k) g 0 n) = some (.d (.vals e ds)) := by
  have hr : rowOf (ap H l) (hlen H + k) g = some (e, xs) := by
    unfold rowOf
    rw [ap_get, h1]
    simp
  have hl := allD_len h2
  have hm : mapO (fz (hlen H) 7 (ap H l)) ((xs.drop 0).take n) = some ds := by
    rw [List.drop_zero, List.take_of_length_le (by omega)]
    exact mapO_fz_all h2
  have := fz_row (n := hlen H) (d := 7) (r := hlen H + k) (g := g) (i := 0) (k := n) (by omega) hr (by omega) hm
  show (if hlen H + k < hlen H then _ else (match fz (hlen H) deep _ (.slc (hlen H + k) g 0 n) with | some x => some (V.d x) | none => none)) = _
  rw [if_neg (by omega), show deep = 7 + 1 from rfl, this]

theorem fz_ap (H l : Hp) (d k g i n : Nat) : fz (hlen H) (d + 1) (ap H l) (.slc (hlen H + k) g i n) = (match hget l k with
    | some (.row g' e xs) => bif Nat.beq g' g then (if i + n ≤ xs.length then (match mapO (fz (hlen H) d (ap H l)) ((xs.drop i).take n) with | some ys => some (.vals e ys) | none => none) else none) else none
    | _ => none) := by
  simp only [fz, rowOf, ap_get, if_neg (ap_nlt H k)]
  cases hget l k with
  | none => rfl
  | some o =>
    cases o with
    | dead => rfl
    | map _ _ => rfl
    | row g' e xs =>
      cases h : Nat.beq g' g with
      | false => simp only [h, cond_false]
      | true =>
        simp only [h, cond_true]
        split
        · cases mapO (fz (hlen H) d (ap H l)) ((xs.drop i).take n) <;> rfl
        · rfl
theorem fzC_ap (H l : Hp) (k g i n : Nat) : fzC (hlen H) (ap H l) (.slc (hlen H + k) g i n) = (match hget l k with
    | some (.row g' e xs) => bif Nat.beq g' g then (if i + n ≤ xs.length then (match mapO (fz (hlen H) 7 (ap H l)) ((xs.drop i).take n) with | some ys => some (.d (.vals e ys)) | none => none) else none) else none
    | _ => none) := by
  have h := fz_ap H l 7 k g i n
  show (if hlen H + k < hlen H then _ else (match fz (hlen H) (7 + 1) _ (.slc (hlen H + k) g i n) with | some x => some (V.d x) | none => none)) = _
  rw [if_neg (by omega), h]
  cases hget l k with
  | none => rfl
  | some o =>
    cases o with
    | dead => rfl
    | map _ _ => rfl
    | row g' e xs =>
      cases h : Nat.beq g' g with
      | false => simp only [h, cond_false]
      | true =>
        simp only [h, cond_true]
        by_cases hi : i + n ≤ xs.length
        · simp only [if_pos hi]
          cases mapO (fz (hlen H) 7 (ap H l)) ((xs.drop i).take n) <;> rfl
        · simp only [if_neg hi]
theorem fzC_ap0 (H l : Hp) (g i n : Nat) : fzC (hlen H) (ap H l) (.slc (hlen H) g i n) = (match hget l 0 with
    | some (.row g' e xs) => bif Nat.beq g' g then (if i + n ≤ xs.length then (match mapO (fz (hlen H) 7 (ap H l)) ((xs.drop i).take n) with | some ys => some (.d (.vals e ys)) | none => none) else none) else none
    | _ => none) := fzC_ap H l 0 g i n
theorem mapO_fz_app (n d : Nat) (H : Hp) (f g : List V) : mapO (fz n d H) (f ++ g) = (match mapO (fz n d H) f with | some a => (match mapO (fz n d H) g with | some b => some (a ++ b) | none => none) | none => none) := by
  induction f with
  | nil => simp only [List.nil_append, mapO]; cases mapO (fz n d H) g <;> rfl
  | cons x r ih =>
    simp only [List.cons_append, mapO, ih]
    cases fz n d H x <;> cases mapO (fz n d H) r <;> cases mapO (fz n d H) g <;> rfl
theorem fz_d (n d : Nat) (H : Hp) (x : D) : fz n d H (.d x) = some x := by cases d <;> rfl

/-! ### Cells -/
theorem vc_agg (cs : List V) : V.cells (.agg cs) = cs := rfl
theorem vc_dagg (cs : List D) : V.cells (.d (.agg cs)) = cs.map V.d := rfl
theorem va_agg (cs : List V) : V.isAgg (.agg cs) = true := rfl
theorem va_dagg (cs : List D) : V.isAgg (.d (.agg cs)) = true := rfl
theorem dc_agg (cs : List D) : D.cells (.agg cs) = cs := rfl
theorem vc_str (s : List UInt8) : V.cells (.d (.str s)) = [.d (.str s)] := rfl
theorem va_str (s : List UInt8) : V.isAgg (.d (.str s)) = false := rfl
theorem dc_str (s : List UInt8) : D.cells (.str s) = [.str s] := rfl
theorem vc_int (k : IntKind) (n : Int) : V.cells (.d (.int k n)) = [.d (.int k n)] := rfl
theorem va_int (k : IntKind) (n : Int) : V.isAgg (.d (.int k n)) = false := rfl
theorem dc_int (k : IntKind) (n : Int) : D.cells (.int k n) = [.int k n] := rfl
theorem vc_bool (b : Bool) : V.cells (.d (.bool b)) = [.d (.bool b)] := rfl
theorem va_bool (b : Bool) : V.isAgg (.d (.bool b)) = false := rfl
theorem dc_bool (b : Bool) : D.cells (.bool b) = [.bool b] := rfl
theorem vc_vals (e : Nat) (xs : List D) : V.cells (.d (.vals e xs)) = [.d (.vals e xs)] := rfl
theorem va_vals (e : Nat) (xs : List D) : V.isAgg (.d (.vals e xs)) = false := rfl
theorem dc_vals (e : Nat) (xs : List D) : D.cells (.vals e xs) = [.vals e xs] := rfl
theorem vc_nilp  : V.cells (.d (.nilp)) = [.d (.nilp)] := rfl
theorem va_nilp  : V.isAgg (.d (.nilp)) = false := rfl
theorem dc_nilp  : D.cells (.nilp) = [.nilp] := rfl
theorem vc_rptr (cs : List D) : V.cells (.d (.rptr cs)) = [.d (.rptr cs)] := rfl
theorem va_rptr (cs : List D) : V.isAgg (.d (.rptr cs)) = false := rfl
theorem dc_rptr (cs : List D) : D.cells (.rptr cs) = [.rptr cs] := rfl
theorem vc_fnd (f : Fn) (cs : List D) : V.cells (.d (.fn f cs)) = [.d (.fn f cs)] := rfl
theorem va_fnd (f : Fn) (cs : List D) : V.isAgg (.d (.fn f cs)) = false := rfl
theorem dc_fnd (f : Fn) (cs : List D) : D.cells (.fn f cs) = [.fn f cs] := rfl
theorem vc_nilfn  : V.cells (.d (.nilfn)) = [.d (.nilfn)] := rfl
theorem va_nilfn  : V.isAgg (.d (.nilfn)) = false := rfl
theorem dc_nilfn  : D.cells (.nilfn) = [.nilfn] := rfl
theorem vc_iface (t : Nat) (x : D) : V.cells (.d (.iface t x)) = [.d (.iface t x)] := rfl
theorem va_iface (t : Nat) (x : D) : V.isAgg (.d (.iface t x)) = false := rfl
theorem dc_iface (t : Nat) (x : D) : D.cells (.iface t x) = [.iface t x] := rfl
theorem vc_niface  : V.cells (.d (.niface)) = [.d (.niface)] := rfl
theorem va_niface  : V.isAgg (.d (.niface)) = false := rfl
theorem dc_niface  : D.cells (.niface) = [.niface] := rfl
theorem vc_mval (ks vs : List D) : V.cells (.d (.mval ks vs)) = [.d (.mval ks vs)] := rfl
theorem va_mval (ks vs : List D) : V.isAgg (.d (.mval ks vs)) = false := rfl
theorem dc_mval (ks vs : List D) : D.cells (.mval ks vs) = [.mval ks vs] := rfl
theorem vc_slc (r g i n : Nat) : V.cells (.slc r g i n) = [.slc r g i n] := rfl
theorem va_slc (r g i n : Nat) : V.isAgg (.slc r g i n) = false := rfl
theorem vc_ptr (r g i j : Nat) : V.cells (.ptr r g i j) = [.ptr r g i j] := rfl
theorem va_ptr (r g i j : Nat) : V.isAgg (.ptr r g i j) = false := rfl
theorem vc_fnv (f : Fn) (cs : List V) : V.cells (.fn f cs) = [.fn f cs] := rfl
theorem va_fnv (f : Fn) (cs : List V) : V.isAgg (.fn f cs) = false := rfl
theorem vc_mref (r : Nat) : V.cells (.mref r) = [.mref r] := rfl
theorem va_mref (r : Nat) : V.isAgg (.mref r) = false := rfl
theorem vc_nils (e : Nat) : V.cells (.nils e) = [.nils e] := rfl
theorem va_nils (e : Nat) : V.isAgg (.nils e) = false := rfl
theorem vc_und  : V.cells (.und) = [.und] := rfl
theorem va_und  : V.isAgg (.und) = false := rfl
theorem ap_ap (H l m : Hp) : ap (ap H l) m = ap H ((l : List Obj) ++ m) := by simp [ap]

/-! ### Rounds -/
section
variable {F : St → Option (Out × St)} {lv : List Nat}
theorem evLoop_next {st st' : St} (h : F ⟨st.env.keep lv, st.hp⟩ = some (.normal, st')) : evLoop F lv st = evLoop F lv st' := by
  rw [evLoop_eq, h]
theorem evLoop_stop {st st' : St} {o : Out} (h : F ⟨st.env.keep lv, st.hp⟩ = some (o, st')) (ho : o ≠ .normal) : evLoop F lv st = some (o, st') := by
  rw [evLoop_eq, h]
  cases o with
  | normal => exact absurd rfl ho
  | exit id => rfl
  | ret => rfl

/-- Rounds that count: n of them from i on. -/
def runI {σ ρ : Type} (f : Nat → σ → σ ⊕ ρ) : Nat → Nat → σ → σ ⊕ ρ
  | 0, _, s => .inl s
  | n + 1, i, s =>
    match f i s with
    | .inl s' => runI f n (i + 1) s'
    | .inr r => .inr r

/-- What is so of an end. -/
def Gives (Q : Out → Env → Hp → Prop) (r : Option (Out × St)) : Prop :=
  match r with
  | some (o, ⟨e, X⟩) => Q o e X
  | none => False
theorem gives_some (Q : Out → Env → Hp → Prop) (o : Out) (e : Env) (X : Hp) : Gives Q (some (o, ⟨e, X⟩)) = Q o e X := rfl
theorem Gives.out {Q : Out → Env → Hp → Prop} {r : Option (Out × St)} (h : Gives Q r) : ∃ o e X, r = some (o, ⟨e, X⟩) ∧ Q o e X := by
  match r, h with
  | some (o, ⟨e, X⟩), h => exact ⟨o, e, X, rfl, h⟩
/-- A round: on to the next one, or out. -/
def Step (Rep : Env → Hp → Prop) (Done : Out → Env → Hp → Prop) : Out → Env → Hp → Prop
  | .normal, e, X => Rep e X
  | .exit id, e, X => Done (.exit id) e X
  | .ret, e, X => Done .ret e X
theorem step_normal (R : Env → Hp → Prop) (D : Out → Env → Hp → Prop) (e : Env) (X : Hp) : Step R D .normal e X = R e X := rfl
theorem step_exit (R : Env → Hp → Prop) (D : Out → Env → Hp → Prop) (e : Env) (X : Hp) (id : Nat) : Step R D (.exit id) e X = D (.exit id) e X := rfl
theorem step_ret (R : Env → Hp → Prop) (D : Out → Env → Hp → Prop) (e : Env) (X : Hp) : Step R D .ret e X = D .ret e X := rfl
/-- What a loop that counts leaves, and what one round of it does. -/
def Fin2 {σ ρ : Type} (Done : σ → Out → Env → Hp → Prop) (Quit : ρ → Out → Env → Hp → Prop) (x : σ ⊕ ρ) : Out → Env → Hp → Prop := match x with
  | .inl s => Done s
  | .inr q => Quit q
def Round {σ ρ : Type} (Rep : σ → Env → Hp → Prop) (Quit : ρ → Out → Env → Hp → Prop) (x : σ ⊕ ρ) : Out → Env → Hp → Prop := match x with
  | .inl s => fun o e X => o = .normal ∧ Rep s e X
  | .inr q => fun o e X => o ≠ .normal ∧ Quit q o e X

theorem loop_run {σ ρ : Type} (f : Nat → σ → σ ⊕ ρ) (N : Nat) (Rep : Nat → σ → Env → Hp → Prop) (Done : σ → Out → Env → Hp → Prop) (Quit : ρ → Out → Env → Hp → Prop)
    (hend : ∀ s e X, Rep N s e X → Gives (fun o e X => o ≠ .normal ∧ Done s o e X) (F ⟨e.keep lv, X⟩))
    (hstep : ∀ i s e X, i < N → Rep i s e X → Gives (Round (Rep (i + 1)) Quit (f i s)) (F ⟨e.keep lv, X⟩)) :
    ∀ (n i : Nat) (s : σ) (e : Env) (X : Hp), i + n = N → Rep i s e X → Gives (Fin2 Done Quit (runI f n i s)) (evLoop F lv ⟨e, X⟩)
  | 0, i, s, e, X, hn, hr => by
    obtain rfl : i = N := by omega
    obtain ⟨o, e', X', h1, h2, h3⟩ := (hend s e X hr).out
    rw [evLoop_stop h1 h2]
    exact h3
  | n + 1, i, s, e, X, hn, hr => by
    obtain ⟨o, e', X', h1, h⟩ := (hstep i s e X (by omega) hr).out
    simp only [runI]
    cases hf : f i s with
    | inl s' =>
      rw [hf] at h
      obtain ⟨rfl, h2⟩ := h
      simp only
      rw [evLoop_next h1]
      exact loop_run f N Rep Done Quit hend hstep n (i + 1) s' e' X' (by omega) h2
    | inr q =>
      rw [hf] at h
      obtain ⟨h2, h3⟩ := h
      rw [evLoop_stop h1 h2]
      exact h3

/-- A loop that counts and only ends behind its last round. -/
theorem loop_all {σ : Type} (f : Nat → σ → σ) (N : Nat) (Rep : Nat → σ → Env → Hp → Prop) (Done : σ → Out → Env → Hp → Prop)
    (hend : ∀ s e X, Rep N s e X → Gives (fun o e X => o ≠ .normal ∧ Done s o e X) (F ⟨e.keep lv, X⟩))
    (hstep : ∀ i s e X, i < N → Rep i s e X → Gives (fun o e X => o = .normal ∧ Rep (i + 1) (f i s) e X) (F ⟨e.keep lv, X⟩)) :
    ∀ (n i : Nat) (s : σ) (e : Env) (X : Hp), i + n = N → Rep i s e X → Gives (Done ((List.range' i n).foldl (fun s i => f i s) s)) (evLoop F lv ⟨e, X⟩)
  | 0, i, s, e, X, hn, hr => by
    obtain rfl : i = N := by omega
    obtain ⟨o, e', X', h1, h2, h3⟩ := (hend s e X hr).out
    rw [evLoop_stop h1 h2]
    exact h3
  | n + 1, i, s, e, X, hn, hr => by
    obtain ⟨o, e', X', h1, rfl, h2⟩ := (hstep i s e X (by omega) hr).out
    rw [evLoop_next h1, List.range'_succ, List.foldl_cons]
    exact loop_all f N Rep Done hend hstep n (i + 1) (f i s) e' X' (by omega) h2

/-- A loop that counts, with nothing to be said of its rounds but what stands in Rep. -/
theorem loop_keep (N : Nat) (Rep : Nat → Env → Hp → Prop) (Done : Out → Env → Hp → Prop)
    (hend : ∀ e X, Rep N e X → Gives (fun o e X => o ≠ .normal ∧ Done o e X) (F ⟨e.keep lv, X⟩))
    (hstep : ∀ i e X, i < N → Rep i e X → Gives (Step (Rep (i + 1)) Done) (F ⟨e.keep lv, X⟩)) :
    ∀ (n i : Nat) (e : Env) (X : Hp), i + n = N → Rep i e X → Gives Done (evLoop F lv ⟨e, X⟩)
  | 0, i, e, X, hn, hr => by
    obtain rfl : i = N := by omega
    obtain ⟨o, e', X', h1, h2, h3⟩ := (hend e X hr).out
    rw [evLoop_stop h1 h2]
    exact h3
  | n + 1, i, e, X, hn, hr => by
    obtain ⟨o, e', X', h1, h2⟩ := (hstep i e X (by omega) hr).out
    cases o with
    | normal =>
      rw [evLoop_next h1]
      exact loop_keep N Rep Done hend hstep n (i + 1) e' X' (by omega) h2
    | exit id => rw [evLoop_stop h1 (by simp)]; exact h2
    | ret => rw [evLoop_stop h1 (by simp)]; exact h2
/-- A loop with a measure. -/
theorem loop_while (I : Nat → Env → Hp → Prop) (Done : Out → Env → Hp → Prop)
    (hs : ∀ n e X, I n e X → Gives (Step (fun e X => ∃ m, m < n ∧ I m e X) Done) (F ⟨e.keep lv, X⟩)) :
    ∀ (n : Nat) (e : Env) (X : Hp), I n e X → Gives Done (evLoop F lv ⟨e, X⟩) := by
  intro n
  induction n using Nat.strongRecOn with
  | ind n ih =>
    intro e X h
    obtain ⟨o, e', X', h1, h2⟩ := (hs n e X h).out
    cases o with
    | normal =>
      obtain ⟨m, hm, h3⟩ := h2
      rw [evLoop_next h1]
      exact ih m hm e' X' h3
    | exit id => rw [evLoop_stop h1 (by simp)]; exact h2
    | ret => rw [evLoop_stop h1 (by simp)]; exact h2
end
end Go.Ev
/-
  DERIVED: THE SHELF's CONTRACTS AT THIS DUMP, IN PLAIN WORDS (tools/lay-plain.mjs out of 'YtjdmiodinhlchaaDoorShelf.lean', which tools/lay-shelf.mjs wrote): THE SAME DECLARATIONS UNDER THE SAME NAMES: 'import', 'namespace', 'open', 'def', 'theorem' AND NOTHING ELSE: no command of the shelf's: FOR A HAND-IN. Each laying: the table of numbers ('.._ren') and one theorem, a field a fact of the dump's own or the kernel's comparison; each contract: ONE APPLICATION.
-/
namespace Go.Proofs
open Go.Shelf
def Tryd.lays129_ren : Go.Shelf.Ren := ⟨fun | 129 => 78 | n => n, fun | 53 => 96 | 3 => 3 | 4 => 4 | 46 => 106 | 5 => 5 | 9 => 9 | n => n, fun | n => n⟩
theorem Tryd.lays129 : Go.Proofs.Lays.n129 Tryd.prog Tryd.lays129_ren := {
  mixed := by kernel_rfl
  f129 := Tryd.func78.trans (congrArg some (by kernel_rfl))
  t3 := Tryd.underlying3
  a3 := Tryd.isAgg3
  z3 := Tryd.sizeOf3
  v3 := Tryd.zeroValue3
  t4 := Tryd.underlying4
  a4 := Tryd.isAgg4
  z4 := Tryd.sizeOf4
  v4 := Tryd.zeroValue4
  t5 := Tryd.underlying5
  a5 := Tryd.isAgg5
  z5 := Tryd.sizeOf5
  v5 := Tryd.zeroValue5
  t9 := Tryd.underlying9
  a9 := Tryd.isAgg9
  z9 := Tryd.sizeOf9
  v9 := Tryd.zeroValue9
  t46 := Tryd.underlying106
  a46 := Tryd.isAgg106
  z46 := Tryd.sizeOf106
  v46 := Tryd.zeroValue106
  t53 := Tryd.underlying96
  a53 := Tryd.isAgg96
  z53 := Tryd.sizeOf96
  v53 := Tryd.zeroValue96 }
/-- bits.Len64: "Len64 returns the minimum number of bits required to represent x; the result is 0 for x == 0.": IT RETURNS 'Lib.bitLen x'; the world is as it was. ('h0', 'h1': x is a uint64.) (LAID: no walk: one application.) -/
theorem Tryd.bits_Len64 (x : Int) (w : World) (h0 : 0 ≤ x) (h1 : x ≤ 18446744073709551615) :
    Calls Tryd.prog 78 #[.int .u64 x] w fun e w' => e = .returned (.int .i64 (Lib.bitLen x.toNat)) ∧ w' = w := Any.bits_Len64 Tryd.lays129 x w h0 h1
def Tryd.lays317_ren : Go.Shelf.Ren := ⟨fun | 317 => 77 | n => n, fun | 3 => 3 | 46 => 106 | n => n, fun | n => n⟩
theorem Tryd.lays317 : Go.Proofs.Lays.n317 Tryd.prog Tryd.lays317_ren := {
  mixed := by kernel_rfl
  f317 := Tryd.func77.trans (congrArg some (by kernel_rfl))
  t3 := Tryd.underlying3
  a3 := Tryd.isAgg3
  z3 := Tryd.sizeOf3
  v3 := Tryd.zeroValue3
  t46 := Tryd.underlying106
  a46 := Tryd.isAgg106
  z46 := Tryd.sizeOf106
  v46 := Tryd.zeroValue106 }
open Go.Lib in
/-- internal/strconv.log10Pow2: "log10Pow2(x) returns ⌊log₁₀ 2**x⌋ = ⌊x * log₁₀ 2⌋.": '(x * 78913) >> 18', at an x up to 64 (a length in bits). The world is as it was. (LAID: no walk: one application.) -/
theorem Tryd.internal_strconv_log10Pow2 (x : Nat) (h : x ≤ 64) (w : World) :
    Calls Tryd.prog 77 #[.int .i64 x] w fun e w' => e = .returned (.int .i64 (Lib.l10 x)) ∧ w' = w := Any.internal_strconv_log10Pow2 Tryd.lays317 x h w
def Tryd.lays318_ren : Go.Shelf.Ren := ⟨fun | 318 => 79 | n => n, fun | 3 => 3 | 4 => 4 | n => n, fun | n => n⟩
theorem Tryd.lays318 : Go.Proofs.Lays.n318 Tryd.prog Tryd.lays318_ren := {
  mixed := by kernel_rfl
  f318 := Tryd.func79.trans (congrArg some (by kernel_rfl))
  t3 := Tryd.underlying3
  a3 := Tryd.isAgg3
  z3 := Tryd.sizeOf3
  v3 := Tryd.zeroValue3
  t4 := Tryd.underlying4
  a4 := Tryd.isAgg4
  z4 := Tryd.sizeOf4
  v4 := Tryd.zeroValue4 }
open Go.Lib in
/-- internal/strconv.bool2: "bool2 converts b to an integer: 1 for true, 0 for false." The world is as it was. (LAID: no walk: one application.) -/
theorem Tryd.internal_strconv_bool2_int (b : Bool) (w : World) :
    Calls Tryd.prog 79 #[.bool b] w fun e w' => e = .returned (.int .i64 (if b then 1 else 0)) ∧ w' = w := Any.internal_strconv_bool2_int Tryd.lays318 b w
def Tryd.lays283_ren : Go.Shelf.Ren := ⟨fun | 283 => 73 | n => n, fun | 3 => 3 | 9 => 9 | 4 => 4 | n => n, fun | n => n⟩
theorem Tryd.lays283 : Go.Proofs.Lays.n283 Tryd.prog Tryd.lays283_ren := {
  mixed := by kernel_rfl
  f283 := Tryd.func73.trans (congrArg some (by kernel_rfl))
  t3 := Tryd.underlying3
  a3 := Tryd.isAgg3
  z3 := Tryd.sizeOf3
  v3 := Tryd.zeroValue3
  t4 := Tryd.underlying4
  a4 := Tryd.isAgg4
  z4 := Tryd.sizeOf4
  v4 := Tryd.zeroValue4
  t9 := Tryd.underlying9
  a9 := Tryd.isAgg9
  z9 := Tryd.sizeOf9
  v9 := Tryd.zeroValue9 }
open Go.Lib in
/-- internal/strconv.small: "small returns the string for an i with 0 <= i < nSmalls.": i's decimal numeral. The world is as it was. (LAID: no walk: one application.) -/
theorem Tryd.internal_strconv_small (i : Nat) (h : i < 100) (w : World) :
    Calls Tryd.prog 73 #[.int .i64 i] w fun e w' => e = .returned (.string ⟨(Lib.decDigits i).toArray⟩) ∧ w' = w := Any.internal_strconv_small Tryd.lays283 i h w
def Tryd.laysM284_ren : Go.Shelf.Ren := ⟨fun | 284 => 74 | 129 => 78 | 317 => 77 | 318 => 79 | n => n, fun | 53 => 96 | 3 => 3 | 212 => 103 | 0 => 0 | 4 => 4 | 46 => 106 | 5 => 5 | 9 => 9 | n => n, fun | 17 => 0 | n => n⟩
theorem Tryd.laysM284 : Go.Proofs.LaysM.n284 Tryd.prog Tryd.laysM284_ren := {
  mixed := by kernel_rfl
  f129 := Tryd.func78.trans (congrArg some (by kernel_rfl))
  f284 := Tryd.func74.trans (congrArg some (by kernel_rfl))
  f317 := Tryd.func77.trans (congrArg some (by kernel_rfl))
  f318 := Tryd.func79.trans (congrArg some (by kernel_rfl))
  t0 := Tryd.underlying0
  a0 := Tryd.isAgg0
  z0 := Tryd.sizeOf0
  v0 := Tryd.zeroValue0
  t3 := Tryd.underlying3
  a3 := Tryd.isAgg3
  z3 := Tryd.sizeOf3
  v3 := Tryd.zeroValue3
  t4 := Tryd.underlying4
  a4 := Tryd.isAgg4
  z4 := Tryd.sizeOf4
  v4 := Tryd.zeroValue4
  t5 := Tryd.underlying5
  a5 := Tryd.isAgg5
  z5 := Tryd.sizeOf5
  v5 := Tryd.zeroValue5
  t9 := Tryd.underlying9
  a9 := Tryd.isAgg9
  z9 := Tryd.sizeOf9
  v9 := Tryd.zeroValue9
  t46 := Tryd.underlying106
  a46 := Tryd.isAgg106
  z46 := Tryd.sizeOf106
  v46 := Tryd.zeroValue106
  t53 := Tryd.underlying96
  a53 := Tryd.isAgg96
  z53 := Tryd.sizeOf96
  v53 := Tryd.zeroValue96
  t212 := Tryd.underlying103
  a212 := Tryd.isAgg103
  z212 := Tryd.sizeOf103
  v212 := Tryd.zeroValue103
  g17 := by kernel_rfl
  i0 := by kernel_rfl
  i3 := by kernel_rfl
  i4 := by kernel_rfl
  i5 := by kernel_rfl
  i9 := by kernel_rfl
  i46 := by kernel_rfl
  i53 := by kernel_rfl
  i212 := by kernel_rfl
  m17 := by kernel_rfl }
open Go.Lib in
/-- internal/strconv.numDigits, at a d that is not 0: THE NUMBER OF d's DECIMAL DIGITS. The world is as it was. (LAID: no walk: one application.) -/
theorem Tryd.internal_strconv_numDigits (u : Nat) (h1 : 1 ≤ u) (h2 : u < 18446744073709551616) (w : World) (htab : Lib.TabIs Tryd.prog w "internal/strconv.uint64pow10" .u64 Lib.pow10Tab) :
    Calls Tryd.prog 74 #[.int .u64 u] w fun e w' => e = .returned (.int .i64 (Lib.nDigits u)) ∧ w' = w := Any.internal_strconv_numDigits Tryd.laysM284 u h1 h2 w htab
def Tryd.lays285_ren : Go.Shelf.Ren := ⟨fun | 285 => 75 | n => n, fun | 37 => 69 | 53 => 96 | 3 => 3 | 4 => 4 | 51 => 104 | 9 => 9 | 5 => 5 | 0 => 0 | n => n, fun | n => n⟩
theorem Tryd.lays285 : Go.Proofs.Lays.n285 Tryd.prog Tryd.lays285_ren := {
  mixed := by kernel_rfl
  f285 := Tryd.func75.trans (congrArg some (by kernel_rfl))
  t0 := Tryd.underlying0
  a0 := Tryd.isAgg0
  z0 := Tryd.sizeOf0
  v0 := Tryd.zeroValue0
  t3 := Tryd.underlying3
  a3 := Tryd.isAgg3
  z3 := Tryd.sizeOf3
  v3 := Tryd.zeroValue3
  t4 := Tryd.underlying4
  a4 := Tryd.isAgg4
  z4 := Tryd.sizeOf4
  v4 := Tryd.zeroValue4
  t5 := Tryd.underlying5
  a5 := Tryd.isAgg5
  z5 := Tryd.sizeOf5
  v5 := Tryd.zeroValue5
  t9 := Tryd.underlying9
  a9 := Tryd.isAgg9
  z9 := Tryd.sizeOf9
  v9 := Tryd.zeroValue9
  t37 := Tryd.underlying69
  a37 := Tryd.isAgg69
  z37 := Tryd.sizeOf69
  v37 := Tryd.zeroValue69
  t51 := Tryd.underlying104
  a51 := Tryd.isAgg104
  z51 := Tryd.sizeOf104
  v51 := Tryd.zeroValue104
  t53 := Tryd.underlying96
  a53 := Tryd.isAgg96
  z53 := Tryd.sizeOf96
  v53 := Tryd.zeroValue96 }
open Go.RowKit Go.Sort Go.Lib in
/-- internal/strconv.formatBase10: "formatBase10 formats the decimal representation of u into a. The caller is responsible for ensuring that a is big enough to hold u. If a is too big, leading zeros will be filled in as needed.": THE ROW HOLDS u's DIGITS ('FmtInv .. 0 ..': every place t holds 'dg u (len - 1 - t)'); all else is as it was but for the count of draws. (LAID: no walk: one application.) -/
theorem Tryd.internal_strconv_formatBase10 (blk off cap : Nat) (u : Nat) (d : Array UInt8) (w : World) (hH : Holds (fun (b : UInt8) => Value.int .u8 (b.toNat : Int)) w blk off d) (hu : u < 10 ^ d.size) (hu64 : u < 18446744073709551616) (hsz : d.size < 4611686018427387904) :
    Calls Tryd.prog 75 #[.slice (some ⟨blk, off, none⟩) d.size cap, .int .u64 u] w fun e w' =>
      e = .returned (.tuple #[]) ∧ ∃ (n v' : Nat) (dk : Array UInt8), w' = (putRow (fun (b : UInt8) => Value.int .u8 (b.toNat : Int)) w blk off dk).drewN n ∧ FmtInv d.size u 0 v' dk := Any.internal_strconv_formatBase10 Tryd.lays285 blk off cap u d w hH hu hu64 hsz
def Tryd.laysM246_ren : Go.Shelf.Ren := ⟨fun | 246 => 70 | 283 => 73 | 284 => 74 | 285 => 75 | 286 => 76 | 129 => 78 | 317 => 77 | 318 => 79 | 319 => 80 | 320 => 81 | 337 => 82 | 338 => 83 | n => n, fun | 2 => 2 | 3 => 3 | 9 => 9 | 4 => 4 | 171 => 95 | 0 => 0 | 53 => 96 | 37 => 69 | 5 => 5 | 173 => 99 | 212 => 103 | 51 => 104 | 20 => 20 | 213 => 105 | 46 => 106 | 232 => 109 | 233 => 110 | n => n, fun | 17 => 0 | 18 => 1 | 19 => 2 | n => n⟩
theorem Tryd.laysM246 : Go.Proofs.LaysM.n246 Tryd.prog Tryd.laysM246_ren := {
  mixed := by kernel_rfl
  f129 := Tryd.func78.trans (congrArg some (by kernel_rfl))
  f246 := Tryd.func70.trans (congrArg some (by kernel_rfl))
  f283 := Tryd.func73.trans (congrArg some (by kernel_rfl))
  f284 := Tryd.func74.trans (congrArg some (by kernel_rfl))
  f285 := Tryd.func75.trans (congrArg some (by kernel_rfl))
  f286 := Tryd.func76.trans (congrArg some (by kernel_rfl))
  f317 := Tryd.func77.trans (congrArg some (by kernel_rfl))
  f318 := Tryd.func79.trans (congrArg some (by kernel_rfl))
  f319 := Tryd.func80.trans (congrArg some (by kernel_rfl))
  f320 := Tryd.func81.trans (congrArg some (by kernel_rfl))
  f337 := Tryd.func82.trans (congrArg some (by kernel_rfl))
  f338 := Tryd.func83.trans (congrArg some (by kernel_rfl))
  t0 := Tryd.underlying0
  a0 := Tryd.isAgg0
  z0 := Tryd.sizeOf0
  v0 := Tryd.zeroValue0
  t2 := Tryd.underlying2
  a2 := Tryd.isAgg2
  z2 := Tryd.sizeOf2
  v2 := Tryd.zeroValue2
  t3 := Tryd.underlying3
  a3 := Tryd.isAgg3
  z3 := Tryd.sizeOf3
  v3 := Tryd.zeroValue3
  t4 := Tryd.underlying4
  a4 := Tryd.isAgg4
  z4 := Tryd.sizeOf4
  v4 := Tryd.zeroValue4
  t5 := Tryd.underlying5
  a5 := Tryd.isAgg5
  z5 := Tryd.sizeOf5
  v5 := Tryd.zeroValue5
  t9 := Tryd.underlying9
  a9 := Tryd.isAgg9
  z9 := Tryd.sizeOf9
  v9 := Tryd.zeroValue9
  t20 := Tryd.underlying20
  a20 := Tryd.isAgg20
  z20 := Tryd.sizeOf20
  v20 := Tryd.zeroValue20
  t37 := Tryd.underlying69
  a37 := Tryd.isAgg69
  z37 := Tryd.sizeOf69
  v37 := Tryd.zeroValue69
  t46 := Tryd.underlying106
  a46 := Tryd.isAgg106
  z46 := Tryd.sizeOf106
  v46 := Tryd.zeroValue106
  t51 := Tryd.underlying104
  a51 := Tryd.isAgg104
  z51 := Tryd.sizeOf104
  v51 := Tryd.zeroValue104
  t53 := Tryd.underlying96
  a53 := Tryd.isAgg96
  z53 := Tryd.sizeOf96
  v53 := Tryd.zeroValue96
  t171 := Tryd.underlying95
  a171 := Tryd.isAgg95
  z171 := Tryd.sizeOf95
  v171 := Tryd.zeroValue95
  t173 := Tryd.underlying99
  a173 := Tryd.isAgg99
  z173 := Tryd.sizeOf99
  v173 := Tryd.zeroValue99
  t212 := Tryd.underlying103
  a212 := Tryd.isAgg103
  z212 := Tryd.sizeOf103
  v212 := Tryd.zeroValue103
  t213 := Tryd.underlying105
  a213 := Tryd.isAgg105
  z213 := Tryd.sizeOf105
  t232 := Tryd.underlying109
  a232 := Tryd.isAgg109
  z232 := Tryd.sizeOf109
  v232 := Tryd.zeroValue109
  t233 := Tryd.underlying110
  a233 := Tryd.isAgg110
  z233 := Tryd.sizeOf110
  v233 := Tryd.zeroValue110
  g17 := by kernel_rfl
  g18 := by kernel_rfl
  g19 := by kernel_rfl
  i0 := by kernel_rfl
  i2 := by kernel_rfl
  i3 := by kernel_rfl
  i4 := by kernel_rfl
  i5 := by kernel_rfl
  i9 := by kernel_rfl
  i20 := by kernel_rfl
  i37 := by kernel_rfl
  i46 := by kernel_rfl
  i51 := by kernel_rfl
  i53 := by kernel_rfl
  i171 := by kernel_rfl
  i173 := by kernel_rfl
  i212 := by kernel_rfl
  i232 := by kernel_rfl
  i233 := by kernel_rfl
  m17 := by kernel_rfl
  m18 := by kernel_rfl
  m19 := by kernel_rfl }
open Go.RowKit Go.Sort Go.Lib in
/-- internal/strconv.FormatInt: "FormatInt returns the string representation of i in the given base": AT BASE 10: i's decimal numeral, for every int64. The world behind the call: the world before it, new blocks behind the heap, draws. (LAID: no walk: one application.) -/
theorem Tryd.internal_strconv_FormatInt_10 (n : Int) (h0 : -9223372036854775808 ≤ n) (h1 : n ≤ 9223372036854775807) (w : World) (htab : Lib.TabIs Tryd.prog w "internal/strconv.uint64pow10" .u64 Lib.pow10Tab) :
    Calls Tryd.prog 70 #[.int .i64 n, .int .i64 10] w fun e w' => e = .returned (.string ⟨(Lib.itoa n).toArray⟩) ∧ ∃ k os, w' = grow (w.drewN k) os := Any.internal_strconv_FormatInt_10 Tryd.laysM246 n h0 h1 w htab
def Tryd.lays246_ren : Go.Shelf.Ren := ⟨fun | 246 => 70 | 283 => 73 | 284 => 74 | 285 => 75 | 286 => 76 | 129 => 78 | 317 => 77 | 318 => 79 | 319 => 80 | 320 => 81 | 337 => 82 | 338 => 83 | n => n, fun | 2 => 2 | 3 => 3 | 9 => 9 | 4 => 4 | 171 => 95 | 0 => 0 | 53 => 96 | 37 => 69 | 5 => 5 | 173 => 99 | 212 => 103 | 51 => 104 | 20 => 20 | 213 => 105 | 46 => 106 | 232 => 109 | 233 => 110 | n => n, fun | 17 => 0 | 18 => 1 | 19 => 2 | n => n⟩
theorem Tryd.lays246 : Go.Proofs.Lays.n246 Tryd.prog Tryd.lays246_ren := {
  mixed := by kernel_rfl
  f129 := Tryd.func78.trans (congrArg some (by kernel_rfl))
  f246 := Tryd.func70.trans (congrArg some (by kernel_rfl))
  f283 := Tryd.func73.trans (congrArg some (by kernel_rfl))
  f284 := Tryd.func74.trans (congrArg some (by kernel_rfl))
  f285 := Tryd.func75.trans (congrArg some (by kernel_rfl))
  f286 := Tryd.func76.trans (congrArg some (by kernel_rfl))
  f317 := Tryd.func77.trans (congrArg some (by kernel_rfl))
  f318 := Tryd.func79.trans (congrArg some (by kernel_rfl))
  f319 := Tryd.func80.trans (congrArg some (by kernel_rfl))
  f320 := Tryd.func81.trans (congrArg some (by kernel_rfl))
  f337 := Tryd.func82.trans (congrArg some (by kernel_rfl))
  f338 := Tryd.func83.trans (congrArg some (by kernel_rfl))
  t0 := Tryd.underlying0
  a0 := Tryd.isAgg0
  z0 := Tryd.sizeOf0
  v0 := Tryd.zeroValue0
  t2 := Tryd.underlying2
  a2 := Tryd.isAgg2
  z2 := Tryd.sizeOf2
  v2 := Tryd.zeroValue2
  t3 := Tryd.underlying3
  a3 := Tryd.isAgg3
  z3 := Tryd.sizeOf3
  v3 := Tryd.zeroValue3
  t4 := Tryd.underlying4
  a4 := Tryd.isAgg4
  z4 := Tryd.sizeOf4
  v4 := Tryd.zeroValue4
  t5 := Tryd.underlying5
  a5 := Tryd.isAgg5
  z5 := Tryd.sizeOf5
  v5 := Tryd.zeroValue5
  t9 := Tryd.underlying9
  a9 := Tryd.isAgg9
  z9 := Tryd.sizeOf9
  v9 := Tryd.zeroValue9
  t20 := Tryd.underlying20
  a20 := Tryd.isAgg20
  z20 := Tryd.sizeOf20
  v20 := Tryd.zeroValue20
  t37 := Tryd.underlying69
  a37 := Tryd.isAgg69
  z37 := Tryd.sizeOf69
  v37 := Tryd.zeroValue69
  t46 := Tryd.underlying106
  a46 := Tryd.isAgg106
  z46 := Tryd.sizeOf106
  v46 := Tryd.zeroValue106
  t51 := Tryd.underlying104
  a51 := Tryd.isAgg104
  z51 := Tryd.sizeOf104
  v51 := Tryd.zeroValue104
  t53 := Tryd.underlying96
  a53 := Tryd.isAgg96
  z53 := Tryd.sizeOf96
  v53 := Tryd.zeroValue96
  t171 := Tryd.underlying95
  a171 := Tryd.isAgg95
  z171 := Tryd.sizeOf95
  v171 := Tryd.zeroValue95
  t173 := Tryd.underlying99
  a173 := Tryd.isAgg99
  z173 := Tryd.sizeOf99
  v173 := Tryd.zeroValue99
  t212 := Tryd.underlying103
  a212 := Tryd.isAgg103
  z212 := Tryd.sizeOf103
  v212 := Tryd.zeroValue103
  t213 := Tryd.underlying105
  a213 := Tryd.isAgg105
  z213 := Tryd.sizeOf105
  t232 := Tryd.underlying109
  a232 := Tryd.isAgg109
  z232 := Tryd.sizeOf109
  v232 := Tryd.zeroValue109
  t233 := Tryd.underlying110
  a233 := Tryd.isAgg110
  z233 := Tryd.sizeOf110
  v233 := Tryd.zeroValue110
  g17 := by kernel_rfl
  g18 := by kernel_rfl
  g19 := by kernel_rfl }
open Go.RowKit Go.Sort Go.Lib in
/-- THE ROAD WITHOUT THE TABLE: 0 <= i < 100: two constants are read, nothing is laid: no premise on the world, and the world is as it was. (LAID: no walk: one application.) -/
theorem Tryd.internal_strconv_FormatInt_10_small (i : Nat) (hi : i < 100) (w : World) :
    Calls Tryd.prog 70 #[.int .i64 i, .int .i64 10] w fun e w' => e = .returned (.string ⟨(Lib.decDigits i).toArray⟩) ∧ w' = w := Any.internal_strconv_FormatInt_10_small Tryd.lays246 i hi w
def Tryd.laysM243_ren : Go.Shelf.Ren := ⟨fun | 243 => 62 | 246 => 70 | 283 => 73 | 284 => 74 | 285 => 75 | 286 => 76 | 129 => 78 | 317 => 77 | 318 => 79 | 319 => 80 | 320 => 81 | 337 => 82 | 338 => 83 | n => n, fun | 3 => 3 | 9 => 9 | 2 => 2 | 4 => 4 | 171 => 95 | 0 => 0 | 53 => 96 | 37 => 69 | 5 => 5 | 173 => 99 | 212 => 103 | 51 => 104 | 20 => 20 | 213 => 105 | 46 => 106 | 232 => 109 | 233 => 110 | n => n, fun | 17 => 0 | 18 => 1 | 19 => 2 | n => n⟩
theorem Tryd.laysM243 : Go.Proofs.LaysM.n243 Tryd.prog Tryd.laysM243_ren := {
  mixed := by kernel_rfl
  f129 := Tryd.func78.trans (congrArg some (by kernel_rfl))
  f243 := Tryd.func62.trans (congrArg some (by kernel_rfl))
  f246 := Tryd.func70.trans (congrArg some (by kernel_rfl))
  f283 := Tryd.func73.trans (congrArg some (by kernel_rfl))
  f284 := Tryd.func74.trans (congrArg some (by kernel_rfl))
  f285 := Tryd.func75.trans (congrArg some (by kernel_rfl))
  f286 := Tryd.func76.trans (congrArg some (by kernel_rfl))
  f317 := Tryd.func77.trans (congrArg some (by kernel_rfl))
  f318 := Tryd.func79.trans (congrArg some (by kernel_rfl))
  f319 := Tryd.func80.trans (congrArg some (by kernel_rfl))
  f320 := Tryd.func81.trans (congrArg some (by kernel_rfl))
  f337 := Tryd.func82.trans (congrArg some (by kernel_rfl))
  f338 := Tryd.func83.trans (congrArg some (by kernel_rfl))
  t0 := Tryd.underlying0
  a0 := Tryd.isAgg0
  z0 := Tryd.sizeOf0
  v0 := Tryd.zeroValue0
  t2 := Tryd.underlying2
  a2 := Tryd.isAgg2
  z2 := Tryd.sizeOf2
  v2 := Tryd.zeroValue2
  t3 := Tryd.underlying3
  a3 := Tryd.isAgg3
  z3 := Tryd.sizeOf3
  v3 := Tryd.zeroValue3
  t4 := Tryd.underlying4
  a4 := Tryd.isAgg4
  z4 := Tryd.sizeOf4
  v4 := Tryd.zeroValue4
  t5 := Tryd.underlying5
  a5 := Tryd.isAgg5
  z5 := Tryd.sizeOf5
  v5 := Tryd.zeroValue5
  t9 := Tryd.underlying9
  a9 := Tryd.isAgg9
  z9 := Tryd.sizeOf9
  v9 := Tryd.zeroValue9
  t20 := Tryd.underlying20
  a20 := Tryd.isAgg20
  z20 := Tryd.sizeOf20
  v20 := Tryd.zeroValue20
  t37 := Tryd.underlying69
  a37 := Tryd.isAgg69
  z37 := Tryd.sizeOf69
  v37 := Tryd.zeroValue69
  t46 := Tryd.underlying106
  a46 := Tryd.isAgg106
  z46 := Tryd.sizeOf106
  v46 := Tryd.zeroValue106
  t51 := Tryd.underlying104
  a51 := Tryd.isAgg104
  z51 := Tryd.sizeOf104
  v51 := Tryd.zeroValue104
  t53 := Tryd.underlying96
  a53 := Tryd.isAgg96
  z53 := Tryd.sizeOf96
  v53 := Tryd.zeroValue96
  t171 := Tryd.underlying95
  a171 := Tryd.isAgg95
  z171 := Tryd.sizeOf95
  v171 := Tryd.zeroValue95
  t173 := Tryd.underlying99
  a173 := Tryd.isAgg99
  z173 := Tryd.sizeOf99
  v173 := Tryd.zeroValue99
  t212 := Tryd.underlying103
  a212 := Tryd.isAgg103
  z212 := Tryd.sizeOf103
  v212 := Tryd.zeroValue103
  t213 := Tryd.underlying105
  a213 := Tryd.isAgg105
  z213 := Tryd.sizeOf105
  t232 := Tryd.underlying109
  a232 := Tryd.isAgg109
  z232 := Tryd.sizeOf109
  v232 := Tryd.zeroValue109
  t233 := Tryd.underlying110
  a233 := Tryd.isAgg110
  z233 := Tryd.sizeOf110
  v233 := Tryd.zeroValue110
  g17 := by kernel_rfl
  g18 := by kernel_rfl
  g19 := by kernel_rfl
  i0 := by kernel_rfl
  i2 := by kernel_rfl
  i3 := by kernel_rfl
  i4 := by kernel_rfl
  i5 := by kernel_rfl
  i9 := by kernel_rfl
  i20 := by kernel_rfl
  i37 := by kernel_rfl
  i46 := by kernel_rfl
  i51 := by kernel_rfl
  i53 := by kernel_rfl
  i171 := by kernel_rfl
  i173 := by kernel_rfl
  i212 := by kernel_rfl
  i232 := by kernel_rfl
  i233 := by kernel_rfl
  m17 := by kernel_rfl
  m18 := by kernel_rfl
  m19 := by kernel_rfl }
open Go.RowKit Go.Sort Go.Lib in
/-- internal/strconv.Itoa: "Itoa is equivalent to FormatInt(int64(i), 10).": i's decimal numeral, for every int. (LAID: no walk: one application.) -/
theorem Tryd.internal_strconv_Itoa (n : Int) (h0 : -9223372036854775808 ≤ n) (h1 : n ≤ 9223372036854775807) (w : World) (htab : Lib.TabIs Tryd.prog w "internal/strconv.uint64pow10" .u64 Lib.pow10Tab) :
    Calls Tryd.prog 62 #[.int .i64 n] w fun e w' => e = .returned (.string ⟨(Lib.itoa n).toArray⟩) ∧ ∃ k os, w' = grow (w.drewN k) os := Any.internal_strconv_Itoa Tryd.laysM243 n h0 h1 w htab
def Tryd.lays243_ren : Go.Shelf.Ren := ⟨fun | 243 => 62 | 246 => 70 | 283 => 73 | 284 => 74 | 285 => 75 | 286 => 76 | 129 => 78 | 317 => 77 | 318 => 79 | 319 => 80 | 320 => 81 | 337 => 82 | 338 => 83 | n => n, fun | 3 => 3 | 9 => 9 | 2 => 2 | 4 => 4 | 171 => 95 | 0 => 0 | 53 => 96 | 37 => 69 | 5 => 5 | 173 => 99 | 212 => 103 | 51 => 104 | 20 => 20 | 213 => 105 | 46 => 106 | 232 => 109 | 233 => 110 | n => n, fun | 17 => 0 | 18 => 1 | 19 => 2 | n => n⟩
theorem Tryd.lays243 : Go.Proofs.Lays.n243 Tryd.prog Tryd.lays243_ren := {
  mixed := by kernel_rfl
  f129 := Tryd.func78.trans (congrArg some (by kernel_rfl))
  f243 := Tryd.func62.trans (congrArg some (by kernel_rfl))
  f246 := Tryd.func70.trans (congrArg some (by kernel_rfl))
  f283 := Tryd.func73.trans (congrArg some (by kernel_rfl))
  f284 := Tryd.func74.trans (congrArg some (by kernel_rfl))
  f285 := Tryd.func75.trans (congrArg some (by kernel_rfl))
  f286 := Tryd.func76.trans (congrArg some (by kernel_rfl))
  f317 := Tryd.func77.trans (congrArg some (by kernel_rfl))
  f318 := Tryd.func79.trans (congrArg some (by kernel_rfl))
  f319 := Tryd.func80.trans (congrArg some (by kernel_rfl))
  f320 := Tryd.func81.trans (congrArg some (by kernel_rfl))
  f337 := Tryd.func82.trans (congrArg some (by kernel_rfl))
  f338 := Tryd.func83.trans (congrArg some (by kernel_rfl))
  t0 := Tryd.underlying0
  a0 := Tryd.isAgg0
  z0 := Tryd.sizeOf0
  v0 := Tryd.zeroValue0
  t2 := Tryd.underlying2
  a2 := Tryd.isAgg2
  z2 := Tryd.sizeOf2
  v2 := Tryd.zeroValue2
  t3 := Tryd.underlying3
  a3 := Tryd.isAgg3
  z3 := Tryd.sizeOf3
  v3 := Tryd.zeroValue3
  t4 := Tryd.underlying4
  a4 := Tryd.isAgg4
  z4 := Tryd.sizeOf4
  v4 := Tryd.zeroValue4
  t5 := Tryd.underlying5
  a5 := Tryd.isAgg5
  z5 := Tryd.sizeOf5
  v5 := Tryd.zeroValue5
  t9 := Tryd.underlying9
  a9 := Tryd.isAgg9
  z9 := Tryd.sizeOf9
  v9 := Tryd.zeroValue9
  t20 := Tryd.underlying20
  a20 := Tryd.isAgg20
  z20 := Tryd.sizeOf20
  v20 := Tryd.zeroValue20
  t37 := Tryd.underlying69
  a37 := Tryd.isAgg69
  z37 := Tryd.sizeOf69
  v37 := Tryd.zeroValue69
  t46 := Tryd.underlying106
  a46 := Tryd.isAgg106
  z46 := Tryd.sizeOf106
  v46 := Tryd.zeroValue106
  t51 := Tryd.underlying104
  a51 := Tryd.isAgg104
  z51 := Tryd.sizeOf104
  v51 := Tryd.zeroValue104
  t53 := Tryd.underlying96
  a53 := Tryd.isAgg96
  z53 := Tryd.sizeOf96
  v53 := Tryd.zeroValue96
  t171 := Tryd.underlying95
  a171 := Tryd.isAgg95
  z171 := Tryd.sizeOf95
  v171 := Tryd.zeroValue95
  t173 := Tryd.underlying99
  a173 := Tryd.isAgg99
  z173 := Tryd.sizeOf99
  v173 := Tryd.zeroValue99
  t212 := Tryd.underlying103
  a212 := Tryd.isAgg103
  z212 := Tryd.sizeOf103
  v212 := Tryd.zeroValue103
  t213 := Tryd.underlying105
  a213 := Tryd.isAgg105
  z213 := Tryd.sizeOf105
  t232 := Tryd.underlying109
  a232 := Tryd.isAgg109
  z232 := Tryd.sizeOf109
  v232 := Tryd.zeroValue109
  t233 := Tryd.underlying110
  a233 := Tryd.isAgg110
  z233 := Tryd.sizeOf110
  v233 := Tryd.zeroValue110
  g17 := by kernel_rfl
  g18 := by kernel_rfl
  g19 := by kernel_rfl }
open Go.RowKit Go.Sort Go.Lib in
/-- THE ROAD WITHOUT THE TABLE: 0 <= i < 100. (LAID: no walk: one application.) -/
theorem Tryd.internal_strconv_Itoa_small (i : Nat) (hi : i < 100) (w : World) :
    Calls Tryd.prog 62 #[.int .i64 i] w fun e w' => e = .returned (.string ⟨(Lib.decDigits i).toArray⟩) ∧ w' = w := Any.internal_strconv_Itoa_small Tryd.lays243 i hi w
def Tryd.laysM171_ren : Go.Shelf.Ren := ⟨fun | 171 => 48 | 243 => 62 | 246 => 70 | 283 => 73 | 284 => 74 | 285 => 75 | 286 => 76 | 129 => 78 | 317 => 77 | 318 => 79 | 319 => 80 | 320 => 81 | 337 => 82 | 338 => 83 | n => n, fun | 3 => 3 | 9 => 9 | 2 => 2 | 4 => 4 | 171 => 95 | 0 => 0 | 53 => 96 | 37 => 69 | 5 => 5 | 173 => 99 | 212 => 103 | 51 => 104 | 20 => 20 | 213 => 105 | 46 => 106 | 232 => 109 | 233 => 110 | n => n, fun | 17 => 0 | 18 => 1 | 19 => 2 | n => n⟩
theorem Tryd.laysM171 : Go.Proofs.LaysM.n171 Tryd.prog Tryd.laysM171_ren := {
  mixed := by kernel_rfl
  f129 := Tryd.func78.trans (congrArg some (by kernel_rfl))
  f171 := Tryd.func48.trans (congrArg some (by kernel_rfl))
  f243 := Tryd.func62.trans (congrArg some (by kernel_rfl))
  f246 := Tryd.func70.trans (congrArg some (by kernel_rfl))
  f283 := Tryd.func73.trans (congrArg some (by kernel_rfl))
  f284 := Tryd.func74.trans (congrArg some (by kernel_rfl))
  f285 := Tryd.func75.trans (congrArg some (by kernel_rfl))
  f286 := Tryd.func76.trans (congrArg some (by kernel_rfl))
  f317 := Tryd.func77.trans (congrArg some (by kernel_rfl))
  f318 := Tryd.func79.trans (congrArg some (by kernel_rfl))
  f319 := Tryd.func80.trans (congrArg some (by kernel_rfl))
  f320 := Tryd.func81.trans (congrArg some (by kernel_rfl))
  f337 := Tryd.func82.trans (congrArg some (by kernel_rfl))
  f338 := Tryd.func83.trans (congrArg some (by kernel_rfl))
  t0 := Tryd.underlying0
  a0 := Tryd.isAgg0
  z0 := Tryd.sizeOf0
  v0 := Tryd.zeroValue0
  t2 := Tryd.underlying2
  a2 := Tryd.isAgg2
  z2 := Tryd.sizeOf2
  v2 := Tryd.zeroValue2
  t3 := Tryd.underlying3
  a3 := Tryd.isAgg3
  z3 := Tryd.sizeOf3
  v3 := Tryd.zeroValue3
  t4 := Tryd.underlying4
  a4 := Tryd.isAgg4
  z4 := Tryd.sizeOf4
  v4 := Tryd.zeroValue4
  t5 := Tryd.underlying5
  a5 := Tryd.isAgg5
  z5 := Tryd.sizeOf5
  v5 := Tryd.zeroValue5
  t9 := Tryd.underlying9
  a9 := Tryd.isAgg9
  z9 := Tryd.sizeOf9
  v9 := Tryd.zeroValue9
  t20 := Tryd.underlying20
  a20 := Tryd.isAgg20
  z20 := Tryd.sizeOf20
  v20 := Tryd.zeroValue20
  t37 := Tryd.underlying69
  a37 := Tryd.isAgg69
  z37 := Tryd.sizeOf69
  v37 := Tryd.zeroValue69
  t46 := Tryd.underlying106
  a46 := Tryd.isAgg106
  z46 := Tryd.sizeOf106
  v46 := Tryd.zeroValue106
  t51 := Tryd.underlying104
  a51 := Tryd.isAgg104
  z51 := Tryd.sizeOf104
  v51 := Tryd.zeroValue104
  t53 := Tryd.underlying96
  a53 := Tryd.isAgg96
  z53 := Tryd.sizeOf96
  v53 := Tryd.zeroValue96
  t171 := Tryd.underlying95
  a171 := Tryd.isAgg95
  z171 := Tryd.sizeOf95
  v171 := Tryd.zeroValue95
  t173 := Tryd.underlying99
  a173 := Tryd.isAgg99
  z173 := Tryd.sizeOf99
  v173 := Tryd.zeroValue99
  t212 := Tryd.underlying103
  a212 := Tryd.isAgg103
  z212 := Tryd.sizeOf103
  v212 := Tryd.zeroValue103
  t213 := Tryd.underlying105
  a213 := Tryd.isAgg105
  z213 := Tryd.sizeOf105
  t232 := Tryd.underlying109
  a232 := Tryd.isAgg109
  z232 := Tryd.sizeOf109
  v232 := Tryd.zeroValue109
  t233 := Tryd.underlying110
  a233 := Tryd.isAgg110
  z233 := Tryd.sizeOf110
  v233 := Tryd.zeroValue110
  g17 := by kernel_rfl
  g18 := by kernel_rfl
  g19 := by kernel_rfl
  i0 := by kernel_rfl
  i2 := by kernel_rfl
  i3 := by kernel_rfl
  i4 := by kernel_rfl
  i5 := by kernel_rfl
  i9 := by kernel_rfl
  i20 := by kernel_rfl
  i37 := by kernel_rfl
  i46 := by kernel_rfl
  i51 := by kernel_rfl
  i53 := by kernel_rfl
  i171 := by kernel_rfl
  i173 := by kernel_rfl
  i212 := by kernel_rfl
  i232 := by kernel_rfl
  i233 := by kernel_rfl
  m17 := by kernel_rfl
  m18 := by kernel_rfl
  m19 := by kernel_rfl }
open Go.RowKit Go.Sort Go.Lib in
/-- strconv.Itoa: "Itoa is equivalent to FormatInt(int64(i), 10).": i's DECIMAL NUMERAL ('Lib.itoa': a '-' where i is negative, then the digits), FOR EVERY int. The world behind the call: the world before it, new blocks behind the heap (the library's 'var a [24]byte'), draws. (LAID: no walk: one application.) -/
theorem Tryd.strconv_Itoa (n : Int) (h0 : -9223372036854775808 ≤ n) (h1 : n ≤ 9223372036854775807) (w : World) (htab : Lib.TabIs Tryd.prog w "internal/strconv.uint64pow10" .u64 Lib.pow10Tab) :
    Calls Tryd.prog 48 #[.int .i64 n] w fun e w' => e = .returned (.string ⟨(Lib.itoa n).toArray⟩) ∧ ∃ k os, w' = grow (w.drewN k) os := Any.strconv_Itoa Tryd.laysM171 n h0 h1 w htab
def Tryd.lays171_ren : Go.Shelf.Ren := ⟨fun | 171 => 48 | 243 => 62 | 246 => 70 | 283 => 73 | 284 => 74 | 285 => 75 | 286 => 76 | 129 => 78 | 317 => 77 | 318 => 79 | 319 => 80 | 320 => 81 | 337 => 82 | 338 => 83 | n => n, fun | 3 => 3 | 9 => 9 | 2 => 2 | 4 => 4 | 171 => 95 | 0 => 0 | 53 => 96 | 37 => 69 | 5 => 5 | 173 => 99 | 212 => 103 | 51 => 104 | 20 => 20 | 213 => 105 | 46 => 106 | 232 => 109 | 233 => 110 | n => n, fun | 17 => 0 | 18 => 1 | 19 => 2 | n => n⟩
theorem Tryd.lays171 : Go.Proofs.Lays.n171 Tryd.prog Tryd.lays171_ren := {
  mixed := by kernel_rfl
  f129 := Tryd.func78.trans (congrArg some (by kernel_rfl))
  f171 := Tryd.func48.trans (congrArg some (by kernel_rfl))
  f243 := Tryd.func62.trans (congrArg some (by kernel_rfl))
  f246 := Tryd.func70.trans (congrArg some (by kernel_rfl))
  f283 := Tryd.func73.trans (congrArg some (by kernel_rfl))
  f284 := Tryd.func74.trans (congrArg some (by kernel_rfl))
  f285 := Tryd.func75.trans (congrArg some (by kernel_rfl))
  f286 := Tryd.func76.trans (congrArg some (by kernel_rfl))
  f317 := Tryd.func77.trans (congrArg some (by kernel_rfl))
  f318 := Tryd.func79.trans (congrArg some (by kernel_rfl))
  f319 := Tryd.func80.trans (congrArg some (by kernel_rfl))
  f320 := Tryd.func81.trans (congrArg some (by kernel_rfl))
  f337 := Tryd.func82.trans (congrArg some (by kernel_rfl))
  f338 := Tryd.func83.trans (congrArg some (by kernel_rfl))
  t0 := Tryd.underlying0
  a0 := Tryd.isAgg0
  z0 := Tryd.sizeOf0
  v0 := Tryd.zeroValue0
  t2 := Tryd.underlying2
  a2 := Tryd.isAgg2
  z2 := Tryd.sizeOf2
  v2 := Tryd.zeroValue2
  t3 := Tryd.underlying3
  a3 := Tryd.isAgg3
  z3 := Tryd.sizeOf3
  v3 := Tryd.zeroValue3
  t4 := Tryd.underlying4
  a4 := Tryd.isAgg4
  z4 := Tryd.sizeOf4
  v4 := Tryd.zeroValue4
  t5 := Tryd.underlying5
  a5 := Tryd.isAgg5
  z5 := Tryd.sizeOf5
  v5 := Tryd.zeroValue5
  t9 := Tryd.underlying9
  a9 := Tryd.isAgg9
  z9 := Tryd.sizeOf9
  v9 := Tryd.zeroValue9
  t20 := Tryd.underlying20
  a20 := Tryd.isAgg20
  z20 := Tryd.sizeOf20
  v20 := Tryd.zeroValue20
  t37 := Tryd.underlying69
  a37 := Tryd.isAgg69
  z37 := Tryd.sizeOf69
  v37 := Tryd.zeroValue69
  t46 := Tryd.underlying106
  a46 := Tryd.isAgg106
  z46 := Tryd.sizeOf106
  v46 := Tryd.zeroValue106
  t51 := Tryd.underlying104
  a51 := Tryd.isAgg104
  z51 := Tryd.sizeOf104
  v51 := Tryd.zeroValue104
  t53 := Tryd.underlying96
  a53 := Tryd.isAgg96
  z53 := Tryd.sizeOf96
  v53 := Tryd.zeroValue96
  t171 := Tryd.underlying95
  a171 := Tryd.isAgg95
  z171 := Tryd.sizeOf95
  v171 := Tryd.zeroValue95
  t173 := Tryd.underlying99
  a173 := Tryd.isAgg99
  z173 := Tryd.sizeOf99
  v173 := Tryd.zeroValue99
  t212 := Tryd.underlying103
  a212 := Tryd.isAgg103
  z212 := Tryd.sizeOf103
  v212 := Tryd.zeroValue103
  t213 := Tryd.underlying105
  a213 := Tryd.isAgg105
  z213 := Tryd.sizeOf105
  t232 := Tryd.underlying109
  a232 := Tryd.isAgg109
  z232 := Tryd.sizeOf109
  v232 := Tryd.zeroValue109
  t233 := Tryd.underlying110
  a233 := Tryd.isAgg110
  z233 := Tryd.sizeOf110
  v233 := Tryd.zeroValue110
  g17 := by kernel_rfl
  g18 := by kernel_rfl
  g19 := by kernel_rfl }
open Go.RowKit Go.Sort Go.Lib in
/-- THE ROAD WITHOUT THE TABLE: 0 <= i < 100: NO PREMISE ON THE WORLD, AND THE WORLD IS AS IT WAS: a row that keeps its argument in that range need list no table ('laid = []'). (LAID: no walk: one application.) -/
theorem Tryd.strconv_Itoa_small (i : Nat) (hi : i < 100) (w : World) :
    Calls Tryd.prog 48 #[.int .i64 i] w fun e w' => e = .returned (.string ⟨(Lib.decDigits i).toArray⟩) ∧ w' = w := Any.strconv_Itoa_small Tryd.lays171 i hi w
end Go.Proofs
/- The functions of these laws as compact code, and that it is the given code. -/
namespace Go.Proofs.YtjdmiodinhlchaaDoor.Code
open Go Go.Ev Go.Proofs
/- laws.FnExactFileOf -/
def f3 : AFunc := { np := 1, nt := 27, res := [.tmp 2], own := false, body := (.seq (.reg false [⟨some 1, none, .box (.t 0)⟩,
  ⟨some 2, none, .mv (.c (.bool false))⟩]) [1]
 (.seq (.reg false [⟨some 3, none, .mv (.c (.int .i64 (1048576)))⟩]) [1, 3]
 (.seq (.reg false [⟨some 7, none, .load true 2 (.t 1)⟩,
  ⟨some 8, none, .mv (.t 3)⟩,
  ⟨some 9, none, .pcall (.f 4) [.t 7, .t 8]⟩,
  ⟨some 3, none, .mv (.t 9)⟩]) [1, 3]
 (.seq (.seq (.reg false [⟨some 10, none, .mv (.t 3)⟩,
  ⟨some 11, none, .bin .lss .val (.t 10) (.c (.int .i64 (0)))⟩]) [1, 11]
 (.cond (.t 11) (.seq (.reg false [⟨some 2, none, .mv (.c (.bool true))⟩]) [2]
 (.ret)) (.skip))) [1]
 (.seq (.reg false [⟨some 12, none, .load true 2 (.t 1)⟩,
  ⟨some 13, none, .pcall (.f 6) [.t 12]⟩,
  ⟨some 14, none, .pcall (.f 5) [.t 13]⟩,
  ⟨some 4, none, .mv (.t 14)⟩]) [1, 4]
 (.seq (.reg false [⟨some 15, none, .load true 2 (.t 1)⟩,
  ⟨some 16, none, .pcall (.f 6) [.t 15]⟩,
  ⟨some 5, none, .alloc (.agg [.d (.int .i64 (0)), .nils 7])⟩,
  ⟨none, none, .store 2 (.t 5) (.t 16)⟩]) [1, 4, 5]
 (.seq (.reg false [⟨some 17, none, .load true 2 (.t 5)⟩,
  ⟨some 18, none, .pcall (.f 7) [.t 17]⟩,
  ⟨some 6, none, .mv (.t 18)⟩]) [1, 4, 5, 6]
 (.seq (.seq (.reg false [⟨some 19, none, .mv (.t 6)⟩,
  ⟨some 20, none, .mv (.t 4)⟩,
  ⟨some 21, none, .bin .neq .val (.t 19) (.t 20)⟩]) [1, 5, 21]
 (.cond (.t 21) (.seq (.reg false [⟨some 2, none, .mv (.c (.bool false))⟩]) [2]
 (.ret)) (.skip))) [1, 5]
 (.seq (.seq (.reg true [⟨some 22, none, .load true 2 (.t 5)⟩,
  ⟨some 23, none, .load true 2 (.t 1)⟩,
  ⟨some 24, none, .pcall (.f 6) [.t 23]⟩,
  ⟨some 25, none, .pcall (.f 8) [.t 22, .t 24]⟩,
  ⟨some 26, none, .un .not (.t 25)⟩]) [26]
 (.cond (.t 26) (.seq (.reg false [⟨some 2, none, .mv (.c (.bool false))⟩]) [2]
 (.ret)) (.skip))) []
 (.seq (.reg false [⟨some 2, none, .mv (.c (.bool true))⟩]) [2]
 (.ret))))))))))) }
/- laws.szBase -/
def f4 : AFunc := { np := 2, nt := 12, res := [.tmp 4], own := false, body := (.seq (.reg false [⟨some 2, none, .box (.t 0)⟩,
  ⟨some 4, none, .mv (.c (.int .i64 (0)))⟩]) [1, 2]
 (.seq (.reg false [⟨some 5, none, .faddr 1 (.t 2)⟩,
  ⟨some 6, none, .load false 1 (.t 5)⟩,
  ⟨some 7, none, .mv (.t 1)⟩,
  ⟨some 8, none, .pcall (.f 9) [.t 6, .t 7]⟩,
  ⟨some 1, none, .mv (.t 8)⟩]) [1]
 (.seq (.seq (.reg false [⟨some 9, none, .mv (.t 1)⟩,
  ⟨some 10, none, .bin .lss .val (.t 9) (.c (.int .i64 (0)))⟩]) [1, 10]
 (.cond (.t 10) (.seq (.reg false [⟨some 4, none, .mv (.c (.int .i64 (-1)))⟩]) [4]
 (.ret)) (.skip))) [1]
 (.seq (.reg false [⟨some 11, none, .mv (.t 1)⟩,
  ⟨some 4, none, .mv (.t 11)⟩]) [4]
 (.ret))))) }
/- spec.FileOf -/
def f5l0 : ACode := (.seq (.seq (.reg false [⟨some 8, none, .mv (.t 4)⟩,
  ⟨some 9, none, .faddr 1 (.t 1)⟩,
  ⟨some 10, none, .load false 1 (.t 9)⟩,
  ⟨some 11, none, .len false (.t 10)⟩,
  ⟨some 12, none, .bin .lss .val (.t 8) (.t 11)⟩]) [1, 3, 4, 12]
 (.cond (.t 12) (.skip) (.exit 0))) [1, 3, 4]
 (.seq (.block 1 (.reg true [⟨some 15, none, .mv (.t 3)⟩,
  ⟨some 16, none, .faddr 0 (.t 1)⟩,
  ⟨some 17, none, .load false 1 (.t 16)⟩,
  ⟨some 18, none, .faddr 1 (.t 1)⟩,
  ⟨some 19, none, .load false 1 (.t 18)⟩,
  ⟨some 20, none, .mv (.t 4)⟩,
  ⟨some 21, none, .iaddr 7 (.t 19) (.t 20)⟩,
  ⟨some 22, none, .load true 7 (.t 21)⟩,
  ⟨some 23, none, .pcall (.f 12) [.t 22]⟩,
  ⟨some 24, none, .pcall (.f 11) [.t 17, .t 23]⟩,
  ⟨some 25, none, .bin .add .val (.t 15) (.t 24)⟩,
  ⟨some 3, none, .mv (.t 25)⟩])) [1, 3, 4]
 (.reg false [⟨some 13, none, .mv (.t 4)⟩,
  ⟨some 14, none, .bin .add .val (.t 13) (.c (.int .i64 (1)))⟩,
  ⟨some 4, none, .mv (.t 14)⟩])))
def f5 : AFunc := { np := 1, nt := 34, res := [.tmp 2], own := false, body := (.seq (.reg false [⟨some 1, none, .box (.t 0)⟩,
  ⟨some 2, none, .mv (.c (.str []))⟩]) [1]
 (.seq (.seq (.reg false [⟨some 5, none, .load true 2 (.t 1)⟩,
  ⟨some 6, none, .pcall (.f 10) [.t 5]⟩,
  ⟨some 7, none, .un .not (.t 6)⟩]) [1, 7]
 (.cond (.t 7) (.seq (.reg false [⟨some 2, none, .mv (.c (.str []))⟩]) [2]
 (.ret)) (.skip))) [1]
 (.seq (.reg false [⟨some 3, none, .mv (.c (.str []))⟩]) [1, 3]
 (.seq (.seq (.reg false [⟨some 4, none, .mv (.c (.int .i64 (0)))⟩]) [1, 3, 4]
 (.block 0 (.loop [1, 3, 4] f5l0))) [1, 3]
 (.seq (.seq (.reg false [⟨some 26, none, .mv (.t 3)⟩,
  ⟨some 27, none, .bin .eql .val (.t 26) (.c (.str []))⟩]) [1, 3, 27]
 (.cond (.t 27) (.reg false [⟨some 28, none, .faddr 0 (.t 1)⟩,
  ⟨some 29, none, .load false 1 (.t 28)⟩,
  ⟨some 30, none, .lit false 1 [.c (.str [68, 66, 83, 73, 90, 69])]⟩,
  ⟨some 31, none, .lit false 1 [.t 30]⟩,
  ⟨some 32, none, .pcall (.f 11) [.t 29, .t 31]⟩,
  ⟨some 3, none, .mv (.t 32)⟩]) (.skip))) [3]
 (.seq (.reg false [⟨some 33, none, .mv (.t 3)⟩,
  ⟨some 2, none, .mv (.t 33)⟩]) [2]
 (.ret))))))) }
/- laws.toBase -/
def f6 : AFunc := { np := 1, nt := 12, res := [.cell 2 true 2], own := false, body := (.seq (.reg false [⟨some 1, none, .box (.t 0)⟩,
  ⟨some 2, none, .alloc (.agg [.d (.int .i64 (0)), .nils 7])⟩]) [1, 2]
 (.seq (.reg false [⟨some 3, none, .alloc (.agg [.d (.int .i64 (0)), .nils 7])⟩]) [1, 2, 3]
 (.seq (.reg false [⟨some 4, none, .faddr 0 (.t 1)⟩,
  ⟨some 5, none, .load false 1 (.t 4)⟩,
  ⟨some 6, none, .faddr 0 (.t 3)⟩,
  ⟨none, none, .store 1 (.t 6) (.t 5)⟩]) [1, 2, 3]
 (.seq (.reg false [⟨some 7, none, .faddr 1 (.t 1)⟩,
  ⟨some 8, none, .load false 1 (.t 7)⟩,
  ⟨some 9, none, .pcall (.f 13) [.t 8]⟩,
  ⟨some 10, none, .faddr 1 (.t 3)⟩,
  ⟨none, none, .store 1 (.t 10) (.t 9)⟩]) [2, 3]
 (.seq (.reg false [⟨some 11, none, .load true 2 (.t 3)⟩,
  ⟨none, none, .store 2 (.t 2) (.t 11)⟩]) [2]
 (.ret)))))) }
/- impl.FileOf -/
def f7l0 : ACode := (.trim [1, 3, 19, 20, 21] (.seq (.reg false [⟨some 22, none, .bin .lss .val (.t 21) (.t 20)⟩]) [1, 3, 19, 20, 21, 22]
 (.seq (.cond (.t 22) (.skip) (.exit 0)) [1, 3, 19, 20, 21]
 (.seq (.block 1 (.seq (.reg false [⟨some 23, none, .iaddr 7 (.t 19) (.t 21)⟩,
  ⟨some 24, none, .load true 7 (.t 23)⟩,
  ⟨some 5, none, .alloc (.agg [.d (.str []), .d (.int .i64 (0)), .d (.int .i64 (0)), .d (.str []), .nils 1, .nils 2, .nils 2])⟩,
  ⟨none, none, .store 7 (.t 5) (.t 24)⟩]) [1, 3, 5, 19, 20, 21]
 (.reg true [⟨some 25, none, .mv (.t 3)⟩,
  ⟨some 26, none, .faddr 0 (.t 1)⟩,
  ⟨some 27, none, .load false 1 (.t 26)⟩,
  ⟨some 28, none, .load true 7 (.t 5)⟩,
  ⟨some 29, none, .pcall (.f 16) [.t 28]⟩,
  ⟨some 30, none, .pcall (.f 15) [.t 27, .t 29]⟩,
  ⟨some 31, none, .bin .add .val (.t 25) (.t 30)⟩,
  ⟨some 3, none, .mv (.t 31)⟩]))) [1, 3, 19, 20, 21]
 (.reg false [⟨some 32, none, .bin .add .val (.t 21) (.c (.int .i64 (1)))⟩,
  ⟨some 21, none, .mv (.t 32)⟩])))))
def f7 : AFunc := { np := 1, nt := 34, res := [.tmp 2], own := false, body := (.seq (.reg false [⟨some 1, none, .box (.t 0)⟩,
  ⟨some 2, none, .mv (.c (.str []))⟩]) [1]
 (.seq (.seq (.reg false [⟨some 6, none, .load true 2 (.t 1)⟩,
  ⟨some 7, none, .pcall (.f 14) [.t 6]⟩,
  ⟨some 8, none, .un .not (.t 7)⟩]) [1, 8]
 (.cond (.t 8) (.seq (.reg false [⟨some 2, none, .mv (.c (.str []))⟩]) [2]
 (.ret)) (.skip))) [1]
 (.seq (.seq (.reg false [⟨some 9, none, .faddr 1 (.t 1)⟩,
  ⟨some 10, none, .load false 1 (.t 9)⟩,
  ⟨some 11, none, .len false (.t 10)⟩,
  ⟨some 12, none, .bin .eql .val (.t 11) (.c (.int .i64 (0)))⟩]) [1, 12]
 (.cond (.t 12) (.seq (.reg false [⟨some 13, none, .faddr 0 (.t 1)⟩,
  ⟨some 14, none, .load false 1 (.t 13)⟩,
  ⟨some 15, none, .lit false 1 [.c (.str [68, 66, 83, 73, 90, 69])]⟩,
  ⟨some 16, none, .lit false 1 [.t 15]⟩,
  ⟨some 17, none, .pcall (.f 15) [.t 14, .t 16]⟩,
  ⟨some 2, none, .mv (.t 17)⟩]) [2]
 (.ret)) (.skip))) [1]
 (.seq (.reg false [⟨some 3, none, .mv (.c (.str []))⟩]) [1, 3]
 (.seq (.seq (.reg false [⟨some 18, none, .faddr 1 (.t 1)⟩,
  ⟨some 19, none, .load false 1 (.t 18)⟩,
  ⟨some 20, none, .len false (.t 19)⟩,
  ⟨some 21, none, .mv (.c (.int .i64 (0)))⟩]) [1, 3, 19, 20, 21]
 (.block 0 (.loop [1, 3, 19, 20, 21] f7l0))) [3]
 (.seq (.reg false [⟨some 33, none, .mv (.t 3)⟩,
  ⟨some 2, none, .mv (.t 33)⟩]) [2]
 (.ret))))))) }
/- laws.eqBase -/
def f8 : AFunc := { np := 2, nt := 16, res := [.tmp 4], own := false, body := (.seq (.reg false [⟨some 2, none, .box (.t 0)⟩,
  ⟨some 3, none, .box (.t 1)⟩,
  ⟨some 4, none, .mv (.c (.bool false))⟩]) [2, 3]
 (.seq (.seq (.reg false [⟨some 5, none, .faddr 0 (.t 2)⟩,
  ⟨some 6, none, .load false 1 (.t 5)⟩,
  ⟨some 7, none, .faddr 0 (.t 3)⟩,
  ⟨some 8, none, .load false 1 (.t 7)⟩,
  ⟨some 9, none, .bin .neq .val (.t 6) (.t 8)⟩]) [2, 3, 9]
 (.cond (.t 9) (.seq (.reg false [⟨some 4, none, .mv (.c (.bool false))⟩]) [4]
 (.ret)) (.skip))) [2, 3]
 (.seq (.seq (.reg false [⟨some 10, none, .faddr 1 (.t 2)⟩,
  ⟨some 11, none, .load false 1 (.t 10)⟩,
  ⟨some 12, none, .faddr 1 (.t 3)⟩,
  ⟨some 13, none, .load false 1 (.t 12)⟩,
  ⟨some 14, none, .pcall (.f 17) [.t 11, .t 13]⟩,
  ⟨some 15, none, .un .not (.t 14)⟩]) [15]
 (.cond (.t 15) (.seq (.reg false [⟨some 4, none, .mv (.c (.bool false))⟩]) [4]
 (.ret)) (.skip))) []
 (.seq (.reg false [⟨some 4, none, .mv (.c (.bool true))⟩]) [4]
 (.ret))))) }
/- laws.szEntryS -/
def f9l0 : ACode := (.seq (.seq (.reg false [⟨some 12, none, .mv (.t 5)⟩,
  ⟨some 13, none, .mv (.t 0)⟩,
  ⟨some 14, none, .len false (.t 13)⟩,
  ⟨some 15, none, .bin .lss .val (.t 12) (.t 14)⟩]) [0, 1, 5, 15]
 (.cond (.t 15) (.skip) (.exit 0))) [0, 1, 5]
 (.seq (.block 1 (.seq (.reg false [⟨some 18, none, .mv (.t 0)⟩,
  ⟨some 19, none, .mv (.t 5)⟩,
  ⟨some 20, none, .iaddr 7 (.t 18) (.t 19)⟩,
  ⟨some 21, none, .load true 7 (.t 20)⟩,
  ⟨some 22, none, .mv (.t 1)⟩,
  ⟨some 23, none, .pcall (.f 18) [.t 21, .t 22]⟩,
  ⟨some 1, none, .mv (.t 23)⟩]) [0, 1, 5]
 (.seq (.reg false [⟨some 24, none, .mv (.t 1)⟩,
  ⟨some 25, none, .bin .lss .val (.t 24) (.c (.int .i64 (0)))⟩]) [0, 1, 5, 25]
 (.cond (.t 25) (.seq (.reg false [⟨some 4, none, .mv (.c (.int .i64 (-1)))⟩]) [4]
 (.ret)) (.skip))))) [0, 1, 5]
 (.reg false [⟨some 16, none, .mv (.t 5)⟩,
  ⟨some 17, none, .bin .add .val (.t 16) (.c (.int .i64 (1)))⟩,
  ⟨some 5, none, .mv (.t 17)⟩])))
def f9 : AFunc := { np := 2, nt := 27, res := [.tmp 4], own := false, body := (.seq (.reg false [⟨some 4, none, .mv (.c (.int .i64 (0)))⟩]) [0, 1]
 (.seq (.reg false [⟨some 6, none, .mv (.t 1)⟩,
  ⟨some 7, none, .mv (.t 0)⟩,
  ⟨some 8, none, .len false (.t 7)⟩,
  ⟨some 9, none, .bin .sub .val (.t 6) (.t 8)⟩,
  ⟨some 1, none, .mv (.t 9)⟩]) [0, 1]
 (.seq (.seq (.reg false [⟨some 10, none, .mv (.t 1)⟩,
  ⟨some 11, none, .bin .lss .val (.t 10) (.c (.int .i64 (0)))⟩]) [0, 1, 11]
 (.cond (.t 11) (.seq (.reg false [⟨some 4, none, .mv (.c (.int .i64 (-1)))⟩]) [4]
 (.ret)) (.skip))) [0, 1]
 (.seq (.seq (.reg false [⟨some 5, none, .mv (.c (.int .i64 (0)))⟩]) [0, 1, 5]
 (.block 0 (.loop [0, 1, 5] f9l0))) [1]
 (.seq (.reg false [⟨some 26, none, .mv (.t 1)⟩,
  ⟨some 4, none, .mv (.t 26)⟩]) [4]
 (.ret)))))) }
/- spec.BaseOk -/
def f10l0 : ACode := (.trim [1, 3] (.seq (.seq (.reg false [⟨some 5, none, .mv (.t 3)⟩,
  ⟨some 6, none, .faddr 1 (.t 1)⟩,
  ⟨some 7, none, .load false 1 (.t 6)⟩,
  ⟨some 8, none, .len false (.t 7)⟩,
  ⟨some 9, none, .bin .lss .val (.t 5) (.t 8)⟩]) [1, 3, 9]
 (.cond (.t 9) (.skip) (.exit 0))) [1, 3]
 (.seq (.block 1 (.seq (.reg false [⟨some 12, none, .faddr 1 (.t 1)⟩,
  ⟨some 13, none, .load false 1 (.t 12)⟩,
  ⟨some 14, none, .mv (.t 3)⟩,
  ⟨some 15, none, .iaddr 7 (.t 13) (.t 14)⟩,
  ⟨some 16, none, .load true 7 (.t 15)⟩,
  ⟨some 4, none, .alloc (.agg [.d (.str []), .d (.int .i64 (0)), .d (.int .i64 (0)), .d (.str []), .nils 1, .nils 2, .nils 2])⟩,
  ⟨none, none, .store 7 (.t 4) (.t 16)⟩]) [1, 3, 4]
 (.seq (.reg true [⟨some 17, none, .load true 7 (.t 4)⟩,
  ⟨some 18, none, .pcall (.f 19) [.t 17]⟩,
  ⟨some 19, none, .un .not (.t 18)⟩,
  ⟨some 20, none, .mv (.t 19)⟩,
  ⟨some 21, some (20, false), .faddr 1 (.t 4)⟩,
  ⟨some 22, some (20, false), .load false 1 (.t 21)⟩,
  ⟨some 23, some (20, false), .bin .neq .val (.t 22) (.c (.int .i64 (0)))⟩,
  ⟨some 24, some (20, false), .mv (.t 23)⟩,
  ⟨some 25, some (24, true), .faddr 1 (.t 4)⟩,
  ⟨some 26, some (24, true), .load false 1 (.t 25)⟩,
  ⟨some 27, some (24, true), .faddr 0 (.t 1)⟩,
  ⟨some 28, some (24, true), .load false 1 (.t 27)⟩,
  ⟨some 29, some (24, true), .bin .leq .val (.t 26) (.t 28)⟩,
  ⟨some 30, some (20, false), .pick (.t 24) (.t 29) (.c (.bool false))⟩,
  ⟨some 31, none, .pick (.t 20) (.c (.bool true)) (.t 30)⟩,
  ⟨some 32, none, .mv (.t 31)⟩,
  ⟨some 33, some (32, false), .mv (.t 3)⟩,
  ⟨some 34, some (32, false), .bin .gtr .val (.t 33) (.c (.int .i64 (0)))⟩,
  ⟨some 35, some (32, false), .mv (.t 34)⟩,
  ⟨some 36, some (35, true), .faddr 1 (.t 1)⟩,
  ⟨some 37, some (35, true), .load false 1 (.t 36)⟩,
  ⟨some 38, some (35, true), .mv (.t 3)⟩,
  ⟨some 39, some (35, true), .bin .sub .val (.t 38) (.c (.int .i64 (1)))⟩,
  ⟨some 40, some (35, true), .iaddr 7 (.t 37) (.t 39)⟩,
  ⟨some 41, some (35, true), .faddr 0 (.t 40)⟩,
  ⟨some 42, some (35, true), .load false 1 (.t 41)⟩,
  ⟨some 43, some (35, true), .faddr 0 (.t 4)⟩,
  ⟨some 44, some (35, true), .load false 1 (.t 43)⟩,
  ⟨some 45, some (35, true), .bin .geq .val (.t 42) (.t 44)⟩,
  ⟨some 46, some (32, false), .pick (.t 35) (.t 45) (.c (.bool false))⟩,
  ⟨some 47, none, .pick (.t 32) (.c (.bool true)) (.t 46)⟩]) [1, 3, 47]
 (.cond (.t 47) (.seq (.reg false [⟨some 2, none, .mv (.c (.bool false))⟩]) [2]
 (.ret)) (.skip))))) [1, 3]
 (.reg false [⟨some 10, none, .mv (.t 3)⟩,
  ⟨some 11, none, .bin .add .val (.t 10) (.c (.int .i64 (1)))⟩,
  ⟨some 3, none, .mv (.t 11)⟩]))))
def f10 : AFunc := { np := 1, nt := 57, res := [.tmp 2], own := false, body := (.seq (.reg false [⟨some 1, none, .box (.t 0)⟩,
  ⟨some 2, none, .mv (.c (.bool false))⟩]) [1]
 (.seq (.seq (.reg false [⟨some 3, none, .mv (.c (.int .i64 (0)))⟩]) [1, 3]
 (.block 0 (.loop [1, 3] f10l0))) [1]
 (.seq (.reg false [⟨some 48, none, .faddr 0 (.t 1)⟩,
  ⟨some 49, none, .load false 1 (.t 48)⟩,
  ⟨some 50, none, .pcall (.f 20) [.t 49, .c (.int .i64 (0)), .c (.int .i64 (1000000))]⟩,
  ⟨some 51, none, .mv (.t 50)⟩,
  ⟨some 52, some (51, true), .faddr 1 (.t 1)⟩,
  ⟨some 53, some (51, true), .load false 1 (.t 52)⟩,
  ⟨some 54, some (51, true), .len false (.t 53)⟩,
  ⟨some 55, some (51, true), .bin .leq .val (.t 54) (.c (.int .i64 (12)))⟩,
  ⟨some 56, none, .pick (.t 51) (.t 55) (.c (.bool false))⟩,
  ⟨some 2, none, .mv (.t 56)⟩]) [2]
 (.ret)))) }
/- spec.l6Record -/
def f11l0 : ACode := (.seq (.seq (.reg false [⟨some 14, none, .mv (.t 6)⟩,
  ⟨some 15, none, .mv (.t 1)⟩,
  ⟨some 16, none, .len false (.t 15)⟩,
  ⟨some 17, none, .bin .lss .val (.t 14) (.t 16)⟩]) [1, 5, 6, 17]
 (.cond (.t 17) (.skip) (.exit 0))) [1, 5, 6]
 (.seq (.block 1 (.reg false [⟨some 20, none, .mv (.t 5)⟩,
  ⟨some 21, none, .mv (.t 1)⟩,
  ⟨some 22, none, .mv (.t 6)⟩,
  ⟨some 23, none, .iaddr 1 (.t 21) (.t 22)⟩,
  ⟨some 24, none, .load false 1 (.t 23)⟩,
  ⟨some 25, none, .pcall (.f 21) [.t 24]⟩,
  ⟨some 26, none, .bin .add .val (.t 20) (.t 25)⟩,
  ⟨some 5, none, .mv (.t 26)⟩])) [1, 5, 6]
 (.reg false [⟨some 18, none, .mv (.t 6)⟩,
  ⟨some 19, none, .bin .add .val (.t 18) (.c (.int .i64 (1)))⟩,
  ⟨some 6, none, .mv (.t 19)⟩])))
def f11 : AFunc := { np := 2, nt := 28, res := [.tmp 4], own := false, body := (.seq (.reg false [⟨some 4, none, .mv (.c (.str []))⟩]) [0, 1]
 (.seq (.reg false [⟨some 7, none, .mv (.t 0)⟩,
  ⟨some 8, none, .pcall (.f 22) [.t 7]⟩,
  ⟨some 9, none, .mv (.t 1)⟩,
  ⟨some 10, none, .len false (.t 9)⟩,
  ⟨some 11, none, .pcall (.f 22) [.t 10]⟩,
  ⟨some 12, none, .lit false 1 [.c (.str [65, 84]), .t 8, .t 11]⟩,
  ⟨some 13, none, .pcall (.f 21) [.t 12]⟩,
  ⟨some 5, none, .mv (.t 13)⟩]) [1, 5]
 (.seq (.seq (.reg false [⟨some 6, none, .mv (.c (.int .i64 (0)))⟩]) [1, 5, 6]
 (.block 0 (.loop [1, 5, 6] f11l0))) [5]
 (.seq (.reg false [⟨some 27, none, .mv (.t 5)⟩,
  ⟨some 4, none, .mv (.t 27)⟩]) [4]
 (.ret))))) }
/- spec.l6Make -/
def f12l0 : ACode := (.seq (.seq (.reg false [⟨some 35, none, .mv (.t 4)⟩,
  ⟨some 36, none, .faddr 5 (.t 1)⟩,
  ⟨some 37, none, .load false 1 (.t 36)⟩,
  ⟨some 38, none, .len false (.t 37)⟩,
  ⟨some 39, none, .bin .lss .val (.t 35) (.t 38)⟩]) [1, 3, 4, 39]
 (.cond (.t 39) (.skip) (.exit 1))) [1, 3, 4]
 (.seq (.block 2 (.reg true [⟨some 42, none, .mv (.t 3)⟩,
  ⟨some 43, none, .faddr 0 (.t 1)⟩,
  ⟨some 44, none, .load false 1 (.t 43)⟩,
  ⟨some 45, none, .faddr 5 (.t 1)⟩,
  ⟨some 46, none, .load false 1 (.t 45)⟩,
  ⟨some 47, none, .mv (.t 4)⟩,
  ⟨some 48, none, .iaddr 2 (.t 46) (.t 47)⟩,
  ⟨some 49, none, .faddr 1 (.t 48)⟩,
  ⟨some 50, none, .load false 1 (.t 49)⟩,
  ⟨some 51, none, .pcall (.f 22) [.t 50]⟩,
  ⟨some 52, none, .faddr 5 (.t 1)⟩,
  ⟨some 53, none, .load false 1 (.t 52)⟩,
  ⟨some 54, none, .mv (.t 4)⟩,
  ⟨some 55, none, .iaddr 2 (.t 53) (.t 54)⟩,
  ⟨some 56, none, .faddr 0 (.t 55)⟩,
  ⟨some 57, none, .load false 1 (.t 56)⟩,
  ⟨some 58, none, .lit false 1 [.c (.str [90, 65, 68, 68]), .t 44, .t 51, .t 57]⟩,
  ⟨some 59, none, .lit false 1 [.t 58]⟩,
  ⟨some 60, none, .append 1 24 (.t 42) (.t 59)⟩,
  ⟨some 3, none, .mv (.t 60)⟩])) [1, 3, 4]
 (.reg false [⟨some 40, none, .mv (.t 4)⟩,
  ⟨some 41, none, .bin .add .val (.t 40) (.c (.int .i64 (1)))⟩,
  ⟨some 4, none, .mv (.t 41)⟩])))
def f12l1 : ACode := (.seq (.seq (.reg false [⟨some 63, none, .mv (.t 5)⟩,
  ⟨some 64, none, .faddr 6 (.t 1)⟩,
  ⟨some 65, none, .load false 1 (.t 64)⟩,
  ⟨some 66, none, .len false (.t 65)⟩,
  ⟨some 67, none, .bin .lss .val (.t 63) (.t 66)⟩]) [1, 3, 5, 67]
 (.cond (.t 67) (.skip) (.exit 3))) [1, 3, 5]
 (.seq (.block 4 (.reg true [⟨some 70, none, .mv (.t 3)⟩,
  ⟨some 71, none, .faddr 0 (.t 1)⟩,
  ⟨some 72, none, .load false 1 (.t 71)⟩,
  ⟨some 73, none, .faddr 6 (.t 1)⟩,
  ⟨some 74, none, .load false 1 (.t 73)⟩,
  ⟨some 75, none, .mv (.t 5)⟩,
  ⟨some 76, none, .iaddr 2 (.t 74) (.t 75)⟩,
  ⟨some 77, none, .faddr 0 (.t 76)⟩,
  ⟨some 78, none, .load false 1 (.t 77)⟩,
  ⟨some 79, none, .faddr 6 (.t 1)⟩,
  ⟨some 80, none, .load false 1 (.t 79)⟩,
  ⟨some 81, none, .mv (.t 5)⟩,
  ⟨some 82, none, .iaddr 2 (.t 80) (.t 81)⟩,
  ⟨some 83, none, .faddr 1 (.t 82)⟩,
  ⟨some 84, none, .load false 1 (.t 83)⟩,
  ⟨some 85, none, .lit false 1 [.c (.str [72, 83, 69, 84]), .t 72, .t 78, .t 84]⟩,
  ⟨some 86, none, .lit false 1 [.t 85]⟩,
  ⟨some 87, none, .append 1 24 (.t 70) (.t 86)⟩,
  ⟨some 3, none, .mv (.t 87)⟩])) [1, 3, 5]
 (.reg false [⟨some 68, none, .mv (.t 5)⟩,
  ⟨some 69, none, .bin .add .val (.t 68) (.c (.int .i64 (1)))⟩,
  ⟨some 5, none, .mv (.t 69)⟩])))
def f12 : AFunc := { np := 1, nt := 101, res := [.tmp 2], own := false, body := (.seq (.reg false [⟨some 1, none, .box (.t 0)⟩,
  ⟨some 2, none, .mv (.nil 1)⟩]) [1]
 (.seq (.reg false [⟨some 6, none, .lit true 1 []⟩,
  ⟨some 3, none, .mv (.t 6)⟩]) [1, 3]
 (.seq (.seq (.reg false [⟨some 7, none, .faddr 2 (.t 1)⟩,
  ⟨some 8, none, .load false 1 (.t 7)⟩]) [1, 3, 8]
 (.block 0 (.seq (.reg false [⟨some 10, none, .bin .eql .val (.t 8) (.c (.int .i64 (1)))⟩,
  ⟨some 9, none, .mv (.t 10)⟩]) [1, 3, 8, 9]
 (.cond (.t 9) (.reg false [⟨some 11, none, .mv (.t 3)⟩,
  ⟨some 12, none, .faddr 0 (.t 1)⟩,
  ⟨some 13, none, .load false 1 (.t 12)⟩,
  ⟨some 14, none, .faddr 3 (.t 1)⟩,
  ⟨some 15, none, .load false 1 (.t 14)⟩,
  ⟨some 16, none, .lit false 1 [.c (.str [83, 69, 84]), .t 13, .t 15]⟩,
  ⟨some 17, none, .lit false 1 [.t 16]⟩,
  ⟨some 18, none, .append 1 24 (.t 11) (.t 17)⟩,
  ⟨some 3, none, .mv (.t 18)⟩]) (.seq (.reg false [⟨some 20, none, .bin .eql .val (.t 8) (.c (.int .i64 (2)))⟩,
  ⟨some 19, none, .mv (.t 20)⟩]) [1, 3, 8, 19]
 (.cond (.t 19) (.reg false [⟨some 21, none, .faddr 0 (.t 1)⟩,
  ⟨some 22, none, .load false 1 (.t 21)⟩,
  ⟨some 23, none, .faddr 4 (.t 1)⟩,
  ⟨some 24, none, .load false 1 (.t 23)⟩,
  ⟨some 25, none, .call (.f 23) [(false, .c (.str [82, 80, 85, 83, 72])), (false, .t 22), (false, .t 24)] false⟩,
  ⟨some 3, none, .mv (.t 25)⟩]) (.seq (.reg false [⟨some 27, none, .bin .eql .val (.t 8) (.c (.int .i64 (3)))⟩,
  ⟨some 26, none, .mv (.t 27)⟩]) [1, 3, 8, 26]
 (.cond (.t 26) (.reg false [⟨some 28, none, .faddr 0 (.t 1)⟩,
  ⟨some 29, none, .load false 1 (.t 28)⟩,
  ⟨some 30, none, .faddr 4 (.t 1)⟩,
  ⟨some 31, none, .load false 1 (.t 30)⟩,
  ⟨some 32, none, .call (.f 23) [(false, .c (.str [83, 65, 68, 68])), (false, .t 29), (false, .t 31)] false⟩,
  ⟨some 3, none, .mv (.t 32)⟩]) (.seq (.reg false [⟨some 34, none, .bin .eql .val (.t 8) (.c (.int .i64 (4)))⟩,
  ⟨some 33, none, .mv (.t 34)⟩]) [1, 3, 8, 33]
 (.cond (.t 33) (.seq (.reg false [⟨some 4, none, .mv (.c (.int .i64 (0)))⟩]) [1, 3, 4]
 (.block 1 (.loop [1, 3, 4] f12l0))) (.seq (.reg false [⟨some 62, none, .bin .eql .val (.t 8) (.c (.int .i64 (5)))⟩,
  ⟨some 61, none, .mv (.t 62)⟩]) [1, 3, 61]
 (.cond (.t 61) (.seq (.reg false [⟨some 5, none, .mv (.c (.int .i64 (0)))⟩]) [1, 3, 5]
 (.block 3 (.loop [1, 3, 5] f12l1))) (.skip))))))))))))) [1, 3]
 (.seq (.seq (.reg false [⟨some 88, none, .faddr 1 (.t 1)⟩,
  ⟨some 89, none, .load false 1 (.t 88)⟩,
  ⟨some 90, none, .bin .neq .val (.t 89) (.c (.int .i64 (0)))⟩]) [1, 3, 90]
 (.cond (.t 90) (.reg true [⟨some 91, none, .mv (.t 3)⟩,
  ⟨some 92, none, .faddr 0 (.t 1)⟩,
  ⟨some 93, none, .load false 1 (.t 92)⟩,
  ⟨some 94, none, .faddr 1 (.t 1)⟩,
  ⟨some 95, none, .load false 1 (.t 94)⟩,
  ⟨some 96, none, .pcall (.f 22) [.t 95]⟩,
  ⟨some 97, none, .lit false 1 [.c (.str [69, 88, 80, 73, 82, 69, 65, 84]), .t 93, .t 96]⟩,
  ⟨some 98, none, .lit false 1 [.t 97]⟩,
  ⟨some 99, none, .append 1 24 (.t 91) (.t 98)⟩,
  ⟨some 3, none, .mv (.t 99)⟩]) (.skip))) [3]
 (.seq (.reg false [⟨some 100, none, .mv (.t 3)⟩,
  ⟨some 2, none, .mv (.t 100)⟩]) [2]
 (.ret)))))) }
/- laws.toEntryS -/
def f13l0 : ACode := (.seq (.seq (.reg false [⟨some 8, none, .mv (.t 4)⟩,
  ⟨some 9, none, .mv (.t 0)⟩,
  ⟨some 10, none, .len false (.t 9)⟩,
  ⟨some 11, none, .bin .lss .val (.t 8) (.t 10)⟩]) [0, 3, 4, 11]
 (.cond (.t 11) (.skip) (.exit 0))) [0, 3, 4]
 (.seq (.block 1 (.reg false [⟨some 14, none, .mv (.t 3)⟩,
  ⟨some 15, none, .mv (.t 4)⟩,
  ⟨some 16, none, .mv (.t 0)⟩,
  ⟨some 17, none, .mv (.t 4)⟩,
  ⟨some 18, none, .iaddr 7 (.t 16) (.t 17)⟩,
  ⟨some 19, none, .load true 7 (.t 18)⟩,
  ⟨some 20, none, .pcall (.f 24) [.t 19]⟩,
  ⟨some 21, none, .iaddr 7 (.t 14) (.t 15)⟩,
  ⟨none, none, .store 7 (.t 21) (.t 20)⟩])) [0, 3, 4]
 (.reg false [⟨some 12, none, .mv (.t 4)⟩,
  ⟨some 13, none, .bin .add .val (.t 12) (.c (.int .i64 (1)))⟩,
  ⟨some 4, none, .mv (.t 13)⟩])))
def f13 : AFunc := { np := 1, nt := 23, res := [.tmp 2], own := false, body := (.seq (.reg false [⟨some 2, none, .mv (.nil 7)⟩]) [0]
 (.seq (.reg false [⟨some 5, none, .mv (.t 0)⟩,
  ⟨some 6, none, .len false (.t 5)⟩,
  ⟨some 7, none, .mkslice 7 120 (.agg [.d (.str []), .d (.int .i64 (0)), .d (.int .i64 (0)), .d (.str []), .nils 1, .nils 2, .nils 2]) (.t 6) (.t 6)⟩,
  ⟨some 3, none, .mv (.t 7)⟩]) [0, 3]
 (.seq (.seq (.reg false [⟨some 4, none, .mv (.c (.int .i64 (0)))⟩]) [0, 3, 4]
 (.block 0 (.loop [0, 3, 4] f13l0))) [3]
 (.seq (.reg false [⟨some 22, none, .mv (.t 3)⟩,
  ⟨some 2, none, .mv (.t 22)⟩]) [2]
 (.ret))))) }
/- impl.BaseOk -/
def f14l0 : ACode := (.trim [1, 16, 17, 18] (.seq (.reg false [⟨some 19, none, .bin .lss .val (.t 18) (.t 17)⟩]) [1, 16, 17, 18, 19]
 (.seq (.cond (.t 19) (.skip) (.exit 0)) [1, 16, 17, 18]
 (.seq (.block 1 (.seq (.reg false [⟨some 20, none, .mv (.t 18)⟩,
  ⟨some 21, none, .iaddr 7 (.t 16) (.t 18)⟩,
  ⟨some 22, none, .load true 7 (.t 21)⟩,
  ⟨some 4, none, .alloc (.agg [.d (.str []), .d (.int .i64 (0)), .d (.int .i64 (0)), .d (.str []), .nils 1, .nils 2, .nils 2])⟩,
  ⟨some 3, none, .mv (.t 20)⟩,
  ⟨none, none, .store 7 (.t 4) (.t 22)⟩]) [1, 3, 4, 16, 17, 18]
 (.seq (.reg true [⟨some 23, none, .load true 7 (.t 4)⟩,
  ⟨some 24, none, .pcall (.f 26) [.t 23]⟩,
  ⟨some 25, none, .un .not (.t 24)⟩,
  ⟨some 26, none, .mv (.t 25)⟩,
  ⟨some 27, some (26, false), .mv (.t 3)⟩,
  ⟨some 28, some (26, false), .bin .gtr .val (.t 27) (.c (.int .i64 (0)))⟩,
  ⟨some 29, some (26, false), .mv (.t 28)⟩,
  ⟨some 30, some (29, true), .faddr 1 (.t 1)⟩,
  ⟨some 31, some (29, true), .load false 1 (.t 30)⟩,
  ⟨some 32, some (29, true), .mv (.t 3)⟩,
  ⟨some 33, some (29, true), .bin .sub .val (.t 32) (.c (.int .i64 (1)))⟩,
  ⟨some 34, some (29, true), .iaddr 7 (.t 31) (.t 33)⟩,
  ⟨some 35, some (29, true), .faddr 0 (.t 34)⟩,
  ⟨some 36, some (29, true), .load false 1 (.t 35)⟩,
  ⟨some 37, some (29, true), .faddr 0 (.t 4)⟩,
  ⟨some 38, some (29, true), .load false 1 (.t 37)⟩,
  ⟨some 39, some (29, true), .bin .geq .val (.t 36) (.t 38)⟩,
  ⟨some 40, some (26, false), .pick (.t 29) (.t 39) (.c (.bool false))⟩,
  ⟨some 41, none, .pick (.t 26) (.c (.bool true)) (.t 40)⟩,
  ⟨some 42, none, .mv (.t 41)⟩,
  ⟨some 43, some (42, false), .faddr 1 (.t 4)⟩,
  ⟨some 44, some (42, false), .load false 1 (.t 43)⟩,
  ⟨some 45, some (42, false), .bin .neq .val (.t 44) (.c (.int .i64 (0)))⟩,
  ⟨some 46, some (42, false), .mv (.t 45)⟩,
  ⟨some 47, some (46, true), .faddr 1 (.t 4)⟩,
  ⟨some 48, some (46, true), .load false 1 (.t 47)⟩,
  ⟨some 49, some (46, true), .faddr 0 (.t 1)⟩,
  ⟨some 50, some (46, true), .load false 1 (.t 49)⟩,
  ⟨some 51, some (46, true), .bin .leq .val (.t 48) (.t 50)⟩,
  ⟨some 52, some (42, false), .pick (.t 46) (.t 51) (.c (.bool false))⟩,
  ⟨some 53, none, .pick (.t 42) (.c (.bool true)) (.t 52)⟩]) [1, 16, 17, 18, 53]
 (.cond (.t 53) (.seq (.reg false [⟨some 2, none, .mv (.c (.bool false))⟩]) [2]
 (.ret)) (.skip))))) [1, 16, 17, 18]
 (.reg false [⟨some 54, none, .bin .add .val (.t 18) (.c (.int .i64 (1)))⟩,
  ⟨some 18, none, .mv (.t 54)⟩])))))
def f14 : AFunc := { np := 1, nt := 55, res := [.tmp 2], own := false, body := (.seq (.reg false [⟨some 1, none, .box (.t 0)⟩,
  ⟨some 2, none, .mv (.c (.bool false))⟩]) [1]
 (.seq (.seq (.reg false [⟨some 5, none, .faddr 0 (.t 1)⟩,
  ⟨some 6, none, .load false 1 (.t 5)⟩,
  ⟨some 7, none, .pcall (.f 25) [.t 6, .c (.int .i64 (0)), .c (.int .i64 (1000000))]⟩,
  ⟨some 8, none, .un .not (.t 7)⟩,
  ⟨some 9, none, .mv (.t 8)⟩,
  ⟨some 10, some (9, false), .faddr 1 (.t 1)⟩,
  ⟨some 11, some (9, false), .load false 1 (.t 10)⟩,
  ⟨some 12, some (9, false), .len false (.t 11)⟩,
  ⟨some 13, some (9, false), .bin .gtr .val (.t 12) (.c (.int .i64 (12)))⟩,
  ⟨some 14, none, .pick (.t 9) (.c (.bool true)) (.t 13)⟩]) [1, 14]
 (.cond (.t 14) (.seq (.reg false [⟨some 2, none, .mv (.c (.bool false))⟩]) [2]
 (.ret)) (.skip))) [1]
 (.seq (.seq (.reg false [⟨some 15, none, .faddr 1 (.t 1)⟩,
  ⟨some 16, none, .load false 1 (.t 15)⟩,
  ⟨some 17, none, .len false (.t 16)⟩,
  ⟨some 18, none, .mv (.c (.int .i64 (0)))⟩]) [1, 16, 17, 18]
 (.block 0 (.loop [1, 16, 17, 18] f14l0))) []
 (.seq (.reg false [⟨some 2, none, .mv (.c (.bool true))⟩]) [2]
 (.ret))))) }
/- impl.RecordPut -/
def f15l0 : ACode := (.seq (.reg false [⟨some 27, none, .bin .lss .val (.t 26) (.t 25)⟩]) [5, 24, 25, 26, 27]
 (.seq (.cond (.t 27) (.skip) (.exit 0)) [5, 24, 25, 26]
 (.seq (.block 1 (.seq (.reg false [⟨some 28, none, .iaddr 1 (.t 24) (.t 26)⟩,
  ⟨some 29, none, .load false 1 (.t 28)⟩,
  ⟨some 7, none, .mv (.t 29)⟩]) [5, 7, 24, 25, 26]
 (.seq (.seq (.reg false [⟨some 30, none, .mv (.t 7)⟩,
  ⟨some 31, none, .pcall (.f 29) [.t 30]⟩,
  ⟨some 32, none, .un .not (.t 31)⟩]) [5, 7, 24, 25, 26, 32]
 (.cond (.t 32) (.seq (.reg false [⟨some 4, none, .mv (.c (.str []))⟩]) [4]
 (.ret)) (.skip))) [5, 7, 24, 25, 26]
 (.reg false [⟨some 33, none, .mv (.t 5)⟩,
  ⟨some 34, none, .mv (.t 7)⟩,
  ⟨some 35, none, .pcall (.f 27) [.t 34]⟩,
  ⟨some 36, none, .bin .add .val (.t 33) (.t 35)⟩,
  ⟨some 5, none, .mv (.t 36)⟩])))) [5, 24, 25, 26]
 (.reg false [⟨some 37, none, .bin .add .val (.t 26) (.c (.int .i64 (1)))⟩,
  ⟨some 26, none, .mv (.t 37)⟩]))))
def f15 : AFunc := { np := 2, nt := 39, res := [.tmp 4], own := false, body := (.seq (.reg false [⟨some 4, none, .mv (.c (.str []))⟩]) [0, 1]
 (.seq (.seq (.reg false [⟨some 8, none, .mv (.t 0)⟩,
  ⟨some 9, none, .pcall (.f 25) [.t 8, .c (.int .i64 (0)), .c (.int .i64 (1000000))]⟩,
  ⟨some 10, none, .un .not (.t 9)⟩,
  ⟨some 11, none, .mv (.t 10)⟩,
  ⟨some 12, some (11, false), .mv (.t 1)⟩,
  ⟨some 13, some (11, false), .len false (.t 12)⟩,
  ⟨some 14, some (11, false), .pcall (.f 25) [.t 13, .c (.int .i64 (1)), .c (.int .i64 (60))]⟩,
  ⟨some 15, some (11, false), .un .not (.t 14)⟩,
  ⟨some 16, none, .pick (.t 11) (.c (.bool true)) (.t 15)⟩]) [0, 1, 16]
 (.cond (.t 16) (.seq (.reg false [⟨some 4, none, .mv (.c (.str []))⟩]) [4]
 (.ret)) (.skip))) [0, 1]
 (.seq (.reg false [⟨some 17, none, .mv (.t 0)⟩,
  ⟨some 18, none, .pcall (.f 28) [.t 17]⟩,
  ⟨some 19, none, .mv (.t 1)⟩,
  ⟨some 20, none, .len false (.t 19)⟩,
  ⟨some 21, none, .pcall (.f 28) [.t 20]⟩,
  ⟨some 22, none, .lit false 1 [.c (.str [65, 84]), .t 18, .t 21]⟩,
  ⟨some 23, none, .pcall (.f 27) [.t 22]⟩,
  ⟨some 5, none, .mv (.t 23)⟩]) [1, 5]
 (.seq (.seq (.reg false [⟨some 24, none, .mv (.t 1)⟩,
  ⟨some 25, none, .len false (.t 24)⟩,
  ⟨some 26, none, .mv (.c (.int .i64 (0)))⟩]) [5, 24, 25, 26]
 (.block 0 (.loop [5, 24, 25, 26] f15l0))) [5]
 (.seq (.reg false [⟨some 38, none, .mv (.t 5)⟩,
  ⟨some 4, none, .mv (.t 38)⟩]) [4]
 (.ret)))))) }
/- impl.Orders -/
def f16l0 : ACode := (.trim [1, 3, 4, 5] (.seq (.seq (.reg false [⟨some 34, none, .mv (.t 5)⟩,
  ⟨some 35, none, .faddr 4 (.t 1)⟩,
  ⟨some 36, none, .load false 1 (.t 35)⟩,
  ⟨some 37, none, .len false (.t 36)⟩,
  ⟨some 38, none, .bin .lss .val (.t 34) (.t 37)⟩]) [1, 3, 4, 5, 38]
 (.cond (.t 38) (.skip) (.exit 1))) [1, 3, 4, 5]
 (.seq (.block 2 (.seq (.reg false [⟨some 41, none, .mv (.t 5)⟩,
  ⟨some 42, none, .bin .add .val (.t 41) (.c (.int .i64 (8)))⟩,
  ⟨some 43, none, .bin .sub .val (.t 42) (.c (.int .i64 (2)))⟩,
  ⟨some 44, none, .faddr 4 (.t 1)⟩,
  ⟨some 45, none, .load false 1 (.t 44)⟩,
  ⟨some 46, none, .len false (.t 45)⟩,
  ⟨some 47, none, .mnmx false [.t 43, .t 46]⟩,
  ⟨some 6, none, .mv (.t 47)⟩]) [1, 3, 4, 5, 6]
 (.reg true [⟨some 48, none, .mv (.t 3)⟩,
  ⟨some 49, none, .mv (.t 4)⟩,
  ⟨some 50, none, .faddr 0 (.t 1)⟩,
  ⟨some 51, none, .load false 1 (.t 50)⟩,
  ⟨some 53, none, .faddr 4 (.t 1)⟩,
  ⟨some 54, none, .load false 1 (.t 53)⟩,
  ⟨some 55, none, .mv (.t 5)⟩,
  ⟨some 56, none, .mv (.t 6)⟩,
  ⟨some 57, none, .slice (some 1) (.t 54) (some (.t 55)) (some (.t 56))⟩,
  ⟨some 52, none, .lit true 1 [.t 49, .t 51]⟩,
  ⟨some 58, none, .append 1 16 (.t 52) (.t 57)⟩,
  ⟨some 59, none, .litf 1 [.t 58]⟩,
  ⟨some 60, none, .append 1 24 (.t 48) (.t 59)⟩,
  ⟨some 3, none, .mv (.t 60)⟩]))) [1, 3, 4, 5]
 (.reg false [⟨some 39, none, .mv (.t 5)⟩,
  ⟨some 40, none, .bin .add .val (.t 39) (.c (.int .i64 (6)))⟩,
  ⟨some 5, none, .mv (.t 40)⟩]))))
def f16l1 : ACode := (.trim [1, 3, 64, 65, 66] (.seq (.reg false [⟨some 67, none, .bin .lss .val (.t 66) (.t 65)⟩]) [1, 3, 64, 65, 66, 67]
 (.seq (.cond (.t 67) (.skip) (.exit 3)) [1, 3, 64, 65, 66]
 (.seq (.block 4 (.seq (.reg false [⟨some 68, none, .iaddr 2 (.t 64) (.t 66)⟩,
  ⟨some 69, none, .load true 2 (.t 68)⟩,
  ⟨some 8, none, .alloc (.d (.agg [(.str []), (.int .i64 (0))]))⟩,
  ⟨none, none, .store 2 (.t 8) (.t 69)⟩]) [1, 3, 8, 64, 65, 66]
 (.reg true [⟨some 70, none, .mv (.t 3)⟩,
  ⟨some 71, none, .faddr 0 (.t 1)⟩,
  ⟨some 72, none, .load false 1 (.t 71)⟩,
  ⟨some 73, none, .faddr 1 (.t 8)⟩,
  ⟨some 74, none, .load false 1 (.t 73)⟩,
  ⟨some 75, none, .pcall (.f 28) [.t 74]⟩,
  ⟨some 76, none, .faddr 0 (.t 8)⟩,
  ⟨some 77, none, .load false 1 (.t 76)⟩,
  ⟨some 78, none, .lit false 1 [.c (.str [90, 65, 68, 68]), .t 72, .t 75, .t 77]⟩,
  ⟨some 79, none, .lit false 1 [.t 78]⟩,
  ⟨some 80, none, .append 1 24 (.t 70) (.t 79)⟩,
  ⟨some 3, none, .mv (.t 80)⟩]))) [1, 3, 64, 65, 66]
 (.reg false [⟨some 81, none, .bin .add .val (.t 66) (.c (.int .i64 (1)))⟩,
  ⟨some 66, none, .mv (.t 81)⟩])))))
def f16l2 : ACode := (.trim [1, 3, 85, 86, 87] (.seq (.reg false [⟨some 88, none, .bin .lss .val (.t 87) (.t 86)⟩]) [1, 3, 85, 86, 87, 88]
 (.seq (.cond (.t 88) (.skip) (.exit 5)) [1, 3, 85, 86, 87]
 (.seq (.block 6 (.seq (.reg false [⟨some 89, none, .iaddr 2 (.t 85) (.t 87)⟩,
  ⟨some 90, none, .load true 2 (.t 89)⟩,
  ⟨some 10, none, .alloc (.d (.agg [(.str []), (.str [])]))⟩,
  ⟨none, none, .store 2 (.t 10) (.t 90)⟩]) [1, 3, 10, 85, 86, 87]
 (.reg false [⟨some 91, none, .mv (.t 3)⟩,
  ⟨some 92, none, .faddr 0 (.t 1)⟩,
  ⟨some 93, none, .load false 1 (.t 92)⟩,
  ⟨some 94, none, .faddr 0 (.t 10)⟩,
  ⟨some 95, none, .load false 1 (.t 94)⟩,
  ⟨some 96, none, .faddr 1 (.t 10)⟩,
  ⟨some 97, none, .load false 1 (.t 96)⟩,
  ⟨some 98, none, .lit false 1 [.c (.str [72, 83, 69, 84]), .t 93, .t 95, .t 97]⟩,
  ⟨some 99, none, .lit false 1 [.t 98]⟩,
  ⟨some 100, none, .append 1 24 (.t 91) (.t 99)⟩,
  ⟨some 3, none, .mv (.t 100)⟩]))) [1, 3, 85, 86, 87]
 (.reg false [⟨some 101, none, .bin .add .val (.t 87) (.c (.int .i64 (1)))⟩,
  ⟨some 87, none, .mv (.t 101)⟩])))))
def f16 : AFunc := { np := 1, nt := 115, res := [.tmp 2], own := false, body := (.seq (.reg false [⟨some 1, none, .box (.t 0)⟩,
  ⟨some 2, none, .mv (.nil 1)⟩]) [1]
 (.seq (.reg false [⟨some 11, none, .lit true 1 []⟩,
  ⟨some 3, none, .mv (.t 11)⟩]) [1, 3]
 (.seq (.seq (.reg false [⟨some 12, none, .load true 7 (.t 1)⟩,
  ⟨some 13, none, .pcall (.f 26) [.t 12]⟩,
  ⟨some 14, none, .un .not (.t 13)⟩]) [1, 3, 14]
 (.cond (.t 14) (.seq (.reg false [⟨some 15, none, .mv (.t 3)⟩,
  ⟨some 2, none, .mv (.t 15)⟩]) [2]
 (.ret)) (.skip))) [1, 3]
 (.seq (.seq (.reg false [⟨some 16, none, .faddr 2 (.t 1)⟩,
  ⟨some 17, none, .load false 1 (.t 16)⟩]) [1, 3, 17]
 (.block 0 (.seq (.reg false [⟨some 19, none, .bin .eql .val (.t 17) (.c (.int .i64 (1)))⟩,
  ⟨some 18, none, .mv (.t 19)⟩]) [1, 3, 17, 18]
 (.cond (.t 18) (.reg false [⟨some 20, none, .mv (.t 3)⟩,
  ⟨some 21, none, .faddr 0 (.t 1)⟩,
  ⟨some 22, none, .load false 1 (.t 21)⟩,
  ⟨some 23, none, .faddr 3 (.t 1)⟩,
  ⟨some 24, none, .load false 1 (.t 23)⟩,
  ⟨some 25, none, .lit false 1 [.c (.str [83, 69, 84]), .t 22, .t 24]⟩,
  ⟨some 26, none, .lit false 1 [.t 25]⟩,
  ⟨some 27, none, .append 1 24 (.t 20) (.t 26)⟩,
  ⟨some 3, none, .mv (.t 27)⟩]) (.seq (.seq (.reg false [⟨some 29, none, .bin .eql .val (.t 17) (.c (.int .i64 (2)))⟩,
  ⟨some 28, none, .mv (.t 29)⟩]) [1, 3, 17, 28]
 (.cond (.t 28) (.skip) (.reg false [⟨some 30, none, .bin .eql .val (.t 17) (.c (.int .i64 (3)))⟩,
  ⟨some 28, none, .mv (.t 30)⟩]))) [1, 3, 17, 28]
 (.cond (.t 28) (.seq (.reg false [⟨some 4, none, .mv (.c (.str [82, 80, 85, 83, 72]))⟩]) [1, 3, 4]
 (.seq (.seq (.reg false [⟨some 31, none, .faddr 2 (.t 1)⟩,
  ⟨some 32, none, .load false 1 (.t 31)⟩,
  ⟨some 33, none, .bin .eql .val (.t 32) (.c (.int .i64 (3)))⟩]) [1, 3, 4, 33]
 (.cond (.t 33) (.reg false [⟨some 4, none, .mv (.c (.str [83, 65, 68, 68]))⟩]) (.skip))) [1, 3, 4]
 (.seq (.reg false [⟨some 5, none, .mv (.c (.int .i64 (0)))⟩]) [1, 3, 4, 5]
 (.block 1 (.loop [1, 3, 4, 5] f16l0))))) (.seq (.reg false [⟨some 62, none, .bin .eql .val (.t 17) (.c (.int .i64 (4)))⟩,
  ⟨some 61, none, .mv (.t 62)⟩]) [1, 3, 17, 61]
 (.cond (.t 61) (.seq (.reg false [⟨some 63, none, .faddr 5 (.t 1)⟩,
  ⟨some 64, none, .load false 1 (.t 63)⟩,
  ⟨some 65, none, .len false (.t 64)⟩,
  ⟨some 66, none, .mv (.c (.int .i64 (0)))⟩]) [1, 3, 64, 65, 66]
 (.block 3 (.loop [1, 3, 64, 65, 66] f16l1))) (.seq (.reg false [⟨some 83, none, .bin .eql .val (.t 17) (.c (.int .i64 (5)))⟩,
  ⟨some 82, none, .mv (.t 83)⟩]) [1, 3, 82]
 (.cond (.t 82) (.seq (.reg false [⟨some 84, none, .faddr 6 (.t 1)⟩,
  ⟨some 85, none, .load false 1 (.t 84)⟩,
  ⟨some 86, none, .len false (.t 85)⟩,
  ⟨some 87, none, .mv (.c (.int .i64 (0)))⟩]) [1, 3, 85, 86, 87]
 (.block 5 (.loop [1, 3, 85, 86, 87] f16l2))) (.skip))))))))))) [1, 3]
 (.seq (.seq (.reg false [⟨some 102, none, .faddr 1 (.t 1)⟩,
  ⟨some 103, none, .load false 1 (.t 102)⟩,
  ⟨some 104, none, .bin .neq .val (.t 103) (.c (.int .i64 (0)))⟩]) [1, 3, 104]
 (.cond (.t 104) (.reg true [⟨some 105, none, .mv (.t 3)⟩,
  ⟨some 106, none, .faddr 0 (.t 1)⟩,
  ⟨some 107, none, .load false 1 (.t 106)⟩,
  ⟨some 108, none, .faddr 1 (.t 1)⟩,
  ⟨some 109, none, .load false 1 (.t 108)⟩,
  ⟨some 110, none, .pcall (.f 28) [.t 109]⟩,
  ⟨some 111, none, .lit false 1 [.c (.str [69, 88, 80, 73, 82, 69, 65, 84]), .t 107, .t 110]⟩,
  ⟨some 112, none, .lit false 1 [.t 111]⟩,
  ⟨some 113, none, .append 1 24 (.t 105) (.t 112)⟩,
  ⟨some 3, none, .mv (.t 113)⟩]) (.skip))) [3]
 (.seq (.reg false [⟨some 114, none, .mv (.t 3)⟩,
  ⟨some 2, none, .mv (.t 114)⟩]) [2]
 (.ret))))))) }
/- laws.eqEntryS -/
def f17l0 : ACode := (.seq (.seq (.reg false [⟨some 11, none, .mv (.t 5)⟩,
  ⟨some 12, none, .mv (.t 0)⟩,
  ⟨some 13, none, .len false (.t 12)⟩,
  ⟨some 14, none, .bin .lss .val (.t 11) (.t 13)⟩]) [0, 1, 5, 14]
 (.cond (.t 14) (.skip) (.exit 0))) [0, 1, 5]
 (.seq (.block 1 (.seq (.reg true [⟨some 17, none, .mv (.t 0)⟩,
  ⟨some 18, none, .mv (.t 5)⟩,
  ⟨some 19, none, .iaddr 7 (.t 17) (.t 18)⟩,
  ⟨some 20, none, .load true 7 (.t 19)⟩,
  ⟨some 21, none, .mv (.t 1)⟩,
  ⟨some 22, none, .mv (.t 5)⟩,
  ⟨some 23, none, .iaddr 7 (.t 21) (.t 22)⟩,
  ⟨some 24, none, .load true 7 (.t 23)⟩,
  ⟨some 25, none, .pcall (.f 30) [.t 20, .t 24]⟩,
  ⟨some 26, none, .un .not (.t 25)⟩]) [0, 1, 5, 26]
 (.cond (.t 26) (.seq (.reg false [⟨some 4, none, .mv (.c (.bool false))⟩]) [4]
 (.ret)) (.skip)))) [0, 1, 5]
 (.reg false [⟨some 15, none, .mv (.t 5)⟩,
  ⟨some 16, none, .bin .add .val (.t 15) (.c (.int .i64 (1)))⟩,
  ⟨some 5, none, .mv (.t 16)⟩])))
def f17 : AFunc := { np := 2, nt := 27, res := [.tmp 4], own := false, body := (.seq (.reg false [⟨some 4, none, .mv (.c (.bool false))⟩]) [0, 1]
 (.seq (.seq (.reg false [⟨some 6, none, .mv (.t 0)⟩,
  ⟨some 7, none, .len false (.t 6)⟩,
  ⟨some 8, none, .mv (.t 1)⟩,
  ⟨some 9, none, .len false (.t 8)⟩,
  ⟨some 10, none, .bin .neq .val (.t 7) (.t 9)⟩]) [0, 1, 10]
 (.cond (.t 10) (.seq (.reg false [⟨some 4, none, .mv (.c (.bool false))⟩]) [4]
 (.ret)) (.skip))) [0, 1]
 (.seq (.seq (.reg false [⟨some 5, none, .mv (.c (.int .i64 (0)))⟩]) [0, 1, 5]
 (.block 0 (.loop [0, 1, 5] f17l0))) []
 (.seq (.reg false [⟨some 4, none, .mv (.c (.bool true))⟩]) [4]
 (.ret))))) }
/- laws.szEntry -/
def f18 : AFunc := { np := 2, nt := 38, res := [.tmp 4], own := false, body := (.seq (.reg false [⟨some 2, none, .box (.t 0)⟩,
  ⟨some 4, none, .mv (.c (.int .i64 (0)))⟩]) [1, 2]
 (.seq (.reg false [⟨some 5, none, .mv (.t 1)⟩,
  ⟨some 6, none, .faddr 0 (.t 2)⟩,
  ⟨some 7, none, .load false 1 (.t 6)⟩,
  ⟨some 8, none, .len true (.t 7)⟩,
  ⟨some 9, none, .bin .sub .val (.t 5) (.t 8)⟩,
  ⟨some 1, none, .mv (.t 9)⟩]) [1, 2]
 (.seq (.seq (.reg false [⟨some 10, none, .mv (.t 1)⟩,
  ⟨some 11, none, .bin .lss .val (.t 10) (.c (.int .i64 (0)))⟩]) [1, 2, 11]
 (.cond (.t 11) (.seq (.reg false [⟨some 4, none, .mv (.c (.int .i64 (-1)))⟩]) [4]
 (.ret)) (.skip))) [1, 2]
 (.seq (.reg false [⟨some 12, none, .mv (.t 1)⟩,
  ⟨some 13, none, .faddr 3 (.t 2)⟩,
  ⟨some 14, none, .load false 1 (.t 13)⟩,
  ⟨some 15, none, .len true (.t 14)⟩,
  ⟨some 16, none, .bin .sub .val (.t 12) (.t 15)⟩,
  ⟨some 1, none, .mv (.t 16)⟩]) [1, 2]
 (.seq (.seq (.reg false [⟨some 17, none, .mv (.t 1)⟩,
  ⟨some 18, none, .bin .lss .val (.t 17) (.c (.int .i64 (0)))⟩]) [1, 2, 18]
 (.cond (.t 18) (.seq (.reg false [⟨some 4, none, .mv (.c (.int .i64 (-1)))⟩]) [4]
 (.ret)) (.skip))) [1, 2]
 (.seq (.reg false [⟨some 19, none, .faddr 4 (.t 2)⟩,
  ⟨some 20, none, .load false 1 (.t 19)⟩,
  ⟨some 21, none, .mv (.t 1)⟩,
  ⟨some 22, none, .pcall (.f 31) [.t 20, .t 21]⟩,
  ⟨some 1, none, .mv (.t 22)⟩]) [1, 2]
 (.seq (.seq (.reg false [⟨some 23, none, .mv (.t 1)⟩,
  ⟨some 24, none, .bin .lss .val (.t 23) (.c (.int .i64 (0)))⟩]) [1, 2, 24]
 (.cond (.t 24) (.seq (.reg false [⟨some 4, none, .mv (.c (.int .i64 (-1)))⟩]) [4]
 (.ret)) (.skip))) [1, 2]
 (.seq (.reg false [⟨some 25, none, .faddr 5 (.t 2)⟩,
  ⟨some 26, none, .load false 1 (.t 25)⟩,
  ⟨some 27, none, .mv (.t 1)⟩,
  ⟨some 28, none, .pcall (.f 32) [.t 26, .t 27]⟩,
  ⟨some 1, none, .mv (.t 28)⟩]) [1, 2]
 (.seq (.seq (.reg false [⟨some 29, none, .mv (.t 1)⟩,
  ⟨some 30, none, .bin .lss .val (.t 29) (.c (.int .i64 (0)))⟩]) [1, 2, 30]
 (.cond (.t 30) (.seq (.reg false [⟨some 4, none, .mv (.c (.int .i64 (-1)))⟩]) [4]
 (.ret)) (.skip))) [1, 2]
 (.seq (.reg false [⟨some 31, none, .faddr 6 (.t 2)⟩,
  ⟨some 32, none, .load false 1 (.t 31)⟩,
  ⟨some 33, none, .mv (.t 1)⟩,
  ⟨some 34, none, .pcall (.f 33) [.t 32, .t 33]⟩,
  ⟨some 1, none, .mv (.t 34)⟩]) [1]
 (.seq (.seq (.reg false [⟨some 35, none, .mv (.t 1)⟩,
  ⟨some 36, none, .bin .lss .val (.t 35) (.c (.int .i64 (0)))⟩]) [1, 36]
 (.cond (.t 36) (.seq (.reg false [⟨some 4, none, .mv (.c (.int .i64 (-1)))⟩]) [4]
 (.ret)) (.skip))) [1]
 (.seq (.reg false [⟨some 37, none, .mv (.t 1)⟩,
  ⟨some 4, none, .mv (.t 37)⟩]) [4]
 (.ret))))))))))))) }
/- spec.EntryOk -/
def f19 : AFunc := { np := 1, nt := 121, res := [.tmp 2], own := false, body := (.seq (.reg false [⟨some 1, none, .box (.t 0)⟩,
  ⟨some 2, none, .mv (.c (.bool false))⟩]) [1]
 (.seq (.seq (.reg false [⟨some 7, none, .faddr 0 (.t 1)⟩,
  ⟨some 8, none, .load false 1 (.t 7)⟩,
  ⟨some 9, none, .pcall (.f 34) [.t 8]⟩,
  ⟨some 10, none, .un .not (.t 9)⟩,
  ⟨some 11, none, .mv (.t 10)⟩,
  ⟨some 12, some (11, false), .faddr 1 (.t 1)⟩,
  ⟨some 13, some (11, false), .load false 1 (.t 12)⟩,
  ⟨some 14, some (11, false), .pcall (.f 20) [.t 13, .c (.int .i64 (0)), .c (.int .i64 (2000000))]⟩,
  ⟨some 15, some (11, false), .un .not (.t 14)⟩,
  ⟨some 16, none, .pick (.t 11) (.c (.bool true)) (.t 15)⟩]) [1, 16]
 (.cond (.t 16) (.seq (.reg false [⟨some 2, none, .mv (.c (.bool false))⟩]) [2]
 (.ret)) (.skip))) [1]
 (.seq (.reg false [⟨some 17, none, .faddr 3 (.t 1)⟩,
  ⟨some 18, none, .load false 1 (.t 17)⟩,
  ⟨some 19, none, .bin .eql .val (.t 18) (.c (.str []))⟩,
  ⟨some 3, none, .mv (.t 19)⟩]) [1, 3]
 (.seq (.reg false [⟨some 20, none, .faddr 4 (.t 1)⟩,
  ⟨some 21, none, .load false 1 (.t 20)⟩,
  ⟨some 22, none, .len false (.t 21)⟩,
  ⟨some 23, none, .bin .eql .val (.t 22) (.c (.int .i64 (0)))⟩,
  ⟨some 4, none, .mv (.t 23)⟩]) [1, 3, 4]
 (.seq (.reg false [⟨some 24, none, .faddr 5 (.t 1)⟩,
  ⟨some 25, none, .load false 1 (.t 24)⟩,
  ⟨some 26, none, .len false (.t 25)⟩,
  ⟨some 27, none, .bin .eql .val (.t 26) (.c (.int .i64 (0)))⟩,
  ⟨some 5, none, .mv (.t 27)⟩]) [1, 3, 4, 5]
 (.seq (.reg false [⟨some 28, none, .faddr 6 (.t 1)⟩,
  ⟨some 29, none, .load false 1 (.t 28)⟩,
  ⟨some 30, none, .len false (.t 29)⟩,
  ⟨some 31, none, .bin .eql .val (.t 30) (.c (.int .i64 (0)))⟩,
  ⟨some 6, none, .mv (.t 31)⟩]) [1, 3, 4, 5, 6]
 (.seq (.seq (.reg false [⟨some 32, none, .faddr 2 (.t 1)⟩,
  ⟨some 33, none, .load false 1 (.t 32)⟩]) [1, 3, 4, 5, 6, 33]
 (.block 0 (.seq (.reg false [⟨some 35, none, .bin .eql .val (.t 33) (.c (.int .i64 (1)))⟩,
  ⟨some 34, none, .mv (.t 35)⟩]) [1, 3, 4, 5, 6, 33, 34]
 (.cond (.t 34) (.seq (.reg false [⟨some 36, none, .faddr 3 (.t 1)⟩,
  ⟨some 37, none, .load false 1 (.t 36)⟩,
  ⟨some 38, none, .len true (.t 37)⟩,
  ⟨some 39, none, .bin .leq .val (.t 38) (.c (.int .i64 (40)))⟩,
  ⟨some 40, none, .mv (.t 39)⟩,
  ⟨some 41, some (40, true), .mv (.t 4)⟩,
  ⟨some 42, none, .pick (.t 40) (.t 41) (.c (.bool false))⟩,
  ⟨some 43, none, .mv (.t 42)⟩,
  ⟨some 44, some (43, true), .mv (.t 5)⟩,
  ⟨some 45, none, .pick (.t 43) (.t 44) (.c (.bool false))⟩,
  ⟨some 46, none, .mv (.t 45)⟩,
  ⟨some 47, some (46, true), .mv (.t 6)⟩,
  ⟨some 48, none, .pick (.t 46) (.t 47) (.c (.bool false))⟩,
  ⟨some 2, none, .mv (.t 48)⟩]) [2]
 (.ret)) (.seq (.reg false [⟨some 50, none, .bin .eql .val (.t 33) (.c (.int .i64 (2)))⟩,
  ⟨some 49, none, .mv (.t 50)⟩]) [1, 3, 4, 5, 6, 33, 49]
 (.cond (.t 49) (.seq (.reg false [⟨some 51, none, .mv (.t 3)⟩,
  ⟨some 52, none, .mv (.t 51)⟩,
  ⟨some 53, some (52, true), .mv (.t 4)⟩,
  ⟨some 54, some (52, true), .un .not (.t 53)⟩,
  ⟨some 55, none, .pick (.t 52) (.t 54) (.c (.bool false))⟩,
  ⟨some 56, none, .mv (.t 55)⟩,
  ⟨some 57, some (56, true), .faddr 4 (.t 1)⟩,
  ⟨some 58, some (56, true), .load false 1 (.t 57)⟩,
  ⟨some 59, some (56, true), .pcall (.f 35) [.t 58]⟩,
  ⟨some 60, none, .pick (.t 56) (.t 59) (.c (.bool false))⟩,
  ⟨some 61, none, .mv (.t 60)⟩,
  ⟨some 62, some (61, true), .mv (.t 5)⟩,
  ⟨some 63, none, .pick (.t 61) (.t 62) (.c (.bool false))⟩,
  ⟨some 64, none, .mv (.t 63)⟩,
  ⟨some 65, some (64, true), .mv (.t 6)⟩,
  ⟨some 66, none, .pick (.t 64) (.t 65) (.c (.bool false))⟩,
  ⟨some 2, none, .mv (.t 66)⟩]) [2]
 (.ret)) (.seq (.reg false [⟨some 68, none, .bin .eql .val (.t 33) (.c (.int .i64 (3)))⟩,
  ⟨some 67, none, .mv (.t 68)⟩]) [1, 3, 4, 5, 6, 33, 67]
 (.cond (.t 67) (.seq (.reg false [⟨some 69, none, .mv (.t 3)⟩,
  ⟨some 70, none, .mv (.t 69)⟩,
  ⟨some 71, some (70, true), .mv (.t 4)⟩,
  ⟨some 72, some (70, true), .un .not (.t 71)⟩,
  ⟨some 73, none, .pick (.t 70) (.t 72) (.c (.bool false))⟩,
  ⟨some 74, none, .mv (.t 73)⟩,
  ⟨some 75, some (74, true), .faddr 4 (.t 1)⟩,
  ⟨some 76, some (74, true), .load false 1 (.t 75)⟩,
  ⟨some 77, some (74, true), .pcall (.f 36) [.t 76]⟩,
  ⟨some 78, none, .pick (.t 74) (.t 77) (.c (.bool false))⟩,
  ⟨some 79, none, .mv (.t 78)⟩,
  ⟨some 80, some (79, true), .mv (.t 5)⟩,
  ⟨some 81, none, .pick (.t 79) (.t 80) (.c (.bool false))⟩,
  ⟨some 82, none, .mv (.t 81)⟩,
  ⟨some 83, some (82, true), .mv (.t 6)⟩,
  ⟨some 84, none, .pick (.t 82) (.t 83) (.c (.bool false))⟩,
  ⟨some 2, none, .mv (.t 84)⟩]) [2]
 (.ret)) (.seq (.reg false [⟨some 86, none, .bin .eql .val (.t 33) (.c (.int .i64 (4)))⟩,
  ⟨some 85, none, .mv (.t 86)⟩]) [1, 3, 4, 5, 6, 33, 85]
 (.cond (.t 85) (.seq (.reg false [⟨some 87, none, .mv (.t 3)⟩,
  ⟨some 88, none, .mv (.t 87)⟩,
  ⟨some 89, some (88, true), .mv (.t 4)⟩,
  ⟨some 90, none, .pick (.t 88) (.t 89) (.c (.bool false))⟩,
  ⟨some 91, none, .mv (.t 90)⟩,
  ⟨some 92, some (91, true), .mv (.t 5)⟩,
  ⟨some 93, some (91, true), .un .not (.t 92)⟩,
  ⟨some 94, none, .pick (.t 91) (.t 93) (.c (.bool false))⟩,
  ⟨some 95, none, .mv (.t 94)⟩,
  ⟨some 96, some (95, true), .faddr 5 (.t 1)⟩,
  ⟨some 97, some (95, true), .load false 1 (.t 96)⟩,
  ⟨some 98, some (95, true), .pcall (.f 37) [.t 97]⟩,
  ⟨some 99, none, .pick (.t 95) (.t 98) (.c (.bool false))⟩,
  ⟨some 100, none, .mv (.t 99)⟩,
  ⟨some 101, some (100, true), .mv (.t 6)⟩,
  ⟨some 102, none, .pick (.t 100) (.t 101) (.c (.bool false))⟩,
  ⟨some 2, none, .mv (.t 102)⟩]) [2]
 (.ret)) (.seq (.reg false [⟨some 104, none, .bin .eql .val (.t 33) (.c (.int .i64 (5)))⟩,
  ⟨some 103, none, .mv (.t 104)⟩]) [1, 3, 4, 5, 6, 103]
 (.cond (.t 103) (.seq (.reg false [⟨some 105, none, .mv (.t 3)⟩,
  ⟨some 106, none, .mv (.t 105)⟩,
  ⟨some 107, some (106, true), .mv (.t 4)⟩,
  ⟨some 108, none, .pick (.t 106) (.t 107) (.c (.bool false))⟩,
  ⟨some 109, none, .mv (.t 108)⟩,
  ⟨some 110, some (109, true), .mv (.t 5)⟩,
  ⟨some 111, none, .pick (.t 109) (.t 110) (.c (.bool false))⟩,
  ⟨some 112, none, .mv (.t 111)⟩,
  ⟨some 113, some (112, true), .mv (.t 6)⟩,
  ⟨some 114, some (112, true), .un .not (.t 113)⟩,
  ⟨some 115, none, .pick (.t 112) (.t 114) (.c (.bool false))⟩,
  ⟨some 116, none, .mv (.t 115)⟩,
  ⟨some 117, some (116, true), .faddr 6 (.t 1)⟩,
  ⟨some 118, some (116, true), .load false 1 (.t 117)⟩,
  ⟨some 119, some (116, true), .pcall (.f 38) [.t 118]⟩,
  ⟨some 120, none, .pick (.t 116) (.t 119) (.c (.bool false))⟩,
  ⟨some 2, none, .mv (.t 120)⟩]) [2]
 (.ret)) (.skip))))))))))))) []
 (.seq (.reg false [⟨some 2, none, .mv (.c (.bool false))⟩]) [2]
 (.ret))))))))) }
/- spec.l1In -/
def f20 : AFunc := { np := 3, nt := 15, res := [.tmp 6], own := false, body := (.seq (.reg false [⟨some 6, none, .mv (.c (.bool false))⟩]) [0, 1, 2]
 (.seq (.reg false [⟨some 7, none, .mv (.t 0)⟩,
  ⟨some 8, none, .mv (.t 1)⟩,
  ⟨some 9, none, .bin .geq .val (.t 7) (.t 8)⟩,
  ⟨some 10, none, .mv (.t 9)⟩,
  ⟨some 11, some (10, true), .mv (.t 0)⟩,
  ⟨some 12, some (10, true), .mv (.t 2)⟩,
  ⟨some 13, some (10, true), .bin .leq .val (.t 11) (.t 12)⟩,
  ⟨some 14, none, .pick (.t 10) (.t 13) (.c (.bool false))⟩,
  ⟨some 6, none, .mv (.t 14)⟩]) [6]
 (.ret))) }
/- spec.l1Order -/
def f21l0 : ACode := (.seq (.seq (.reg false [⟨some 10, none, .mv (.t 4)⟩,
  ⟨some 11, none, .mv (.t 0)⟩,
  ⟨some 12, none, .len false (.t 11)⟩,
  ⟨some 13, none, .bin .lss .val (.t 10) (.t 12)⟩]) [0, 3, 4, 13]
 (.cond (.t 13) (.skip) (.exit 0))) [0, 3, 4]
 (.seq (.block 1 (.reg false [⟨some 16, none, .mv (.t 3)⟩,
  ⟨some 17, none, .mv (.t 0)⟩,
  ⟨some 18, none, .mv (.t 4)⟩,
  ⟨some 19, none, .iaddr 1 (.t 17) (.t 18)⟩,
  ⟨some 20, none, .load false 1 (.t 19)⟩,
  ⟨some 21, none, .pcall (.f 39) [.t 20]⟩,
  ⟨some 22, none, .bin .add .val (.t 16) (.t 21)⟩,
  ⟨some 3, none, .mv (.t 22)⟩])) [0, 3, 4]
 (.reg false [⟨some 14, none, .mv (.t 4)⟩,
  ⟨some 15, none, .bin .add .val (.t 14) (.c (.int .i64 (1)))⟩,
  ⟨some 4, none, .mv (.t 15)⟩])))
def f21 : AFunc := { np := 1, nt := 24, res := [.tmp 2], own := false, body := (.seq (.reg false [⟨some 2, none, .mv (.c (.str []))⟩]) [0]
 (.seq (.reg false [⟨some 5, none, .mv (.t 0)⟩,
  ⟨some 6, none, .len false (.t 5)⟩,
  ⟨some 7, none, .pcall (.f 22) [.t 6]⟩,
  ⟨some 8, none, .bin .add .val (.c (.str [42])) (.t 7)⟩,
  ⟨some 9, none, .bin .add .val (.t 8) (.c (.str [13, 10]))⟩,
  ⟨some 3, none, .mv (.t 9)⟩]) [0, 3]
 (.seq (.seq (.reg false [⟨some 4, none, .mv (.c (.int .i64 (0)))⟩]) [0, 3, 4]
 (.block 0 (.loop [0, 3, 4] f21l0))) [3]
 (.seq (.reg false [⟨some 23, none, .mv (.t 3)⟩,
  ⟨some 2, none, .mv (.t 23)⟩]) [2]
 (.ret))))) }
/- spec.l1Dec -/
def f22 : AFunc := { np := 1, nt := 28, res := [.tmp 2], own := false, body := (.seq (.reg false [⟨some 2, none, .mv (.c (.str []))⟩]) [0]
 (.seq (.seq (.reg false [⟨some 3, none, .mv (.t 0)⟩,
  ⟨some 4, none, .bin .lss .val (.t 3) (.c (.int .i64 (-9223372036854775807)))⟩]) [0, 4]
 (.cond (.t 4) (.seq (.reg false [⟨some 2, none, .mv (.c (.str [45, 57, 50, 50, 51, 51, 55, 50, 48, 51, 54, 56, 53, 52, 55, 55, 53, 56, 48, 56]))⟩]) [2]
 (.ret)) (.skip))) [0]
 (.seq (.seq (.reg false [⟨some 5, none, .mv (.t 0)⟩,
  ⟨some 6, none, .bin .lss .val (.t 5) (.c (.int .i64 (0)))⟩]) [0, 6]
 (.cond (.t 6) (.seq (.reg false [⟨some 7, none, .mv (.t 0)⟩,
  ⟨some 8, none, .un .neg (.t 7)⟩,
  ⟨some 9, none, .pcall (.f 22) [.t 8]⟩,
  ⟨some 10, none, .bin .add .val (.c (.str [45])) (.t 9)⟩,
  ⟨some 2, none, .mv (.t 10)⟩]) [2]
 (.ret)) (.skip))) [0]
 (.seq (.seq (.reg false [⟨some 11, none, .mv (.t 0)⟩,
  ⟨some 12, none, .bin .lss .val (.t 11) (.c (.int .i64 (10)))⟩]) [0, 12]
 (.cond (.t 12) (.seq (.reg false [⟨some 13, none, .mv (.t 0)⟩,
  ⟨some 14, none, .bin .add .val (.c (.int .i64 (48))) (.t 13)⟩,
  ⟨some 15, none, .cvInt .u8 (.t 14)⟩,
  ⟨some 16, none, .lit false 1 [.t 15]⟩,
  ⟨some 17, none, .cvStr (.t 16)⟩,
  ⟨some 2, none, .mv (.t 17)⟩]) [2]
 (.ret)) (.skip))) [0]
 (.seq (.reg true [⟨some 18, none, .mv (.t 0)⟩,
  ⟨some 19, none, .bin .quo .val (.t 18) (.c (.int .i64 (10)))⟩,
  ⟨some 20, none, .pcall (.f 22) [.t 19]⟩,
  ⟨some 21, none, .mv (.t 0)⟩,
  ⟨some 22, none, .bin .rem .val (.t 21) (.c (.int .i64 (10)))⟩,
  ⟨some 23, none, .bin .add .val (.c (.int .i64 (48))) (.t 22)⟩,
  ⟨some 24, none, .cvInt .u8 (.t 23)⟩,
  ⟨some 25, none, .lit false 1 [.t 24]⟩,
  ⟨some 26, none, .cvStr (.t 25)⟩,
  ⟨some 27, none, .bin .add .val (.t 20) (.t 26)⟩,
  ⟨some 2, none, .mv (.t 27)⟩]) [2]
 (.ret)))))) }
/- spec.l6Many -/
def f23l0 : ACode := (.seq (.seq (.reg false [⟨some 11, none, .mv (.t 8)⟩,
  ⟨some 12, none, .mv (.t 2)⟩,
  ⟨some 13, none, .len false (.t 12)⟩,
  ⟨some 14, none, .bin .lss .val (.t 11) (.t 13)⟩]) [0, 1, 2, 7, 8, 14]
 (.cond (.t 14) (.skip) (.exit 0))) [0, 1, 2, 7, 8]
 (.seq (.block 1 (.seq (.reg false [⟨some 18, none, .mv (.t 8)⟩,
  ⟨some 19, none, .bin .add .val (.t 18) (.c (.int .i64 (8)))⟩,
  ⟨some 20, none, .bin .sub .val (.t 19) (.c (.int .i64 (2)))⟩,
  ⟨some 9, none, .mv (.t 20)⟩]) [0, 1, 2, 7, 8, 9]
 (.seq (.seq (.reg false [⟨some 21, none, .mv (.t 9)⟩,
  ⟨some 22, none, .mv (.t 2)⟩,
  ⟨some 23, none, .len false (.t 22)⟩,
  ⟨some 24, none, .bin .gtr .val (.t 21) (.t 23)⟩]) [0, 1, 2, 7, 8, 9, 24]
 (.cond (.t 24) (.reg false [⟨some 25, none, .mv (.t 2)⟩,
  ⟨some 26, none, .len false (.t 25)⟩,
  ⟨some 9, none, .mv (.t 26)⟩]) (.skip))) [0, 1, 2, 7, 8, 9]
 (.reg false [⟨some 27, none, .mv (.t 7)⟩,
  ⟨some 28, none, .mv (.t 0)⟩,
  ⟨some 29, none, .mv (.t 1)⟩,
  ⟨some 30, none, .lit true 1 [.t 28, .t 29]⟩,
  ⟨some 31, none, .mv (.t 2)⟩,
  ⟨some 32, none, .mv (.t 8)⟩,
  ⟨some 33, none, .mv (.t 9)⟩,
  ⟨some 34, none, .slice (some 1) (.t 31) (some (.t 32)) (some (.t 33))⟩,
  ⟨some 35, none, .append 1 16 (.t 30) (.t 34)⟩,
  ⟨some 36, none, .lit true 1 [.t 35]⟩,
  ⟨some 37, none, .append 1 24 (.t 27) (.t 36)⟩,
  ⟨some 7, none, .mv (.t 37)⟩])))) [0, 1, 2, 7, 8]
 (.reg false [⟨some 15, none, .mv (.t 8)⟩,
  ⟨some 16, none, .bin .add .val (.t 15) (.c (.int .i64 (8)))⟩,
  ⟨some 17, none, .bin .sub .val (.t 16) (.c (.int .i64 (2)))⟩,
  ⟨some 8, none, .mv (.t 17)⟩])))
def f23 : AFunc := { np := 3, nt := 39, res := [.tmp 6], own := true, body := (.seq (.reg false [⟨some 6, none, .mv (.nil 1)⟩]) [0, 1, 2]
 (.seq (.reg false [⟨some 10, none, .lit true 1 []⟩,
  ⟨some 7, none, .mv (.t 10)⟩]) [0, 1, 2, 7]
 (.seq (.seq (.reg false [⟨some 8, none, .mv (.c (.int .i64 (0)))⟩]) [0, 1, 2, 7, 8]
 (.block 0 (.loop [0, 1, 2, 7, 8] f23l0))) [7]
 (.seq (.reg false [⟨some 38, none, .mv (.t 7)⟩,
  ⟨some 6, none, .mv (.t 38)⟩]) [6]
 (.ret))))) }
/- laws.toEntry -/
def f24 : AFunc := { np := 1, nt := 29, res := [.cell 2 true 7], own := false, body := (.seq (.reg false [⟨some 1, none, .box (.t 0)⟩,
  ⟨some 2, none, .alloc (.agg [.d (.str []), .d (.int .i64 (0)), .d (.int .i64 (0)), .d (.str []), .nils 1, .nils 2, .nils 2])⟩]) [1, 2]
 (.seq (.reg false [⟨some 3, none, .alloc (.agg [.d (.str []), .d (.int .i64 (0)), .d (.int .i64 (0)), .d (.str []), .nils 1, .nils 2, .nils 2])⟩]) [1, 2, 3]
 (.seq (.reg false [⟨some 4, none, .faddr 0 (.t 1)⟩,
  ⟨some 5, none, .load false 1 (.t 4)⟩,
  ⟨some 6, none, .faddr 0 (.t 3)⟩,
  ⟨none, none, .store 1 (.t 6) (.t 5)⟩]) [1, 2, 3]
 (.seq (.reg false [⟨some 7, none, .faddr 1 (.t 1)⟩,
  ⟨some 8, none, .load false 1 (.t 7)⟩,
  ⟨some 9, none, .faddr 1 (.t 3)⟩,
  ⟨none, none, .store 1 (.t 9) (.t 8)⟩]) [1, 2, 3]
 (.seq (.reg false [⟨some 10, none, .faddr 2 (.t 1)⟩,
  ⟨some 11, none, .load false 1 (.t 10)⟩,
  ⟨some 12, none, .faddr 2 (.t 3)⟩,
  ⟨none, none, .store 1 (.t 12) (.t 11)⟩]) [1, 2, 3]
 (.seq (.reg false [⟨some 13, none, .faddr 3 (.t 1)⟩,
  ⟨some 14, none, .load false 1 (.t 13)⟩,
  ⟨some 15, none, .faddr 3 (.t 3)⟩,
  ⟨none, none, .store 1 (.t 15) (.t 14)⟩]) [1, 2, 3]
 (.seq (.reg false [⟨some 16, none, .faddr 4 (.t 1)⟩,
  ⟨some 17, none, .load false 1 (.t 16)⟩,
  ⟨some 18, none, .pcall (.f 40) [.t 17]⟩,
  ⟨some 19, none, .faddr 4 (.t 3)⟩,
  ⟨none, none, .store 1 (.t 19) (.t 18)⟩]) [1, 2, 3]
 (.seq (.reg false [⟨some 20, none, .faddr 5 (.t 1)⟩,
  ⟨some 21, none, .load false 1 (.t 20)⟩,
  ⟨some 22, none, .pcall (.f 41) [.t 21]⟩,
  ⟨some 23, none, .faddr 5 (.t 3)⟩,
  ⟨none, none, .store 1 (.t 23) (.t 22)⟩]) [1, 2, 3]
 (.seq (.reg false [⟨some 24, none, .faddr 6 (.t 1)⟩,
  ⟨some 25, none, .load false 1 (.t 24)⟩,
  ⟨some 26, none, .pcall (.f 42) [.t 25]⟩,
  ⟨some 27, none, .faddr 6 (.t 3)⟩,
  ⟨none, none, .store 1 (.t 27) (.t 26)⟩]) [2, 3]
 (.seq (.reg false [⟨some 28, none, .load true 7 (.t 3)⟩,
  ⟨none, none, .store 7 (.t 2) (.t 28)⟩]) [2]
 (.ret))))))))))) }
/- impl.within -/
def f25 : AFunc := { np := 3, nt := 15, res := [.tmp 6], own := false, body := (.seq (.reg false [⟨some 6, none, .mv (.c (.bool false))⟩]) [0, 1, 2]
 (.seq (.reg false [⟨some 7, none, .mv (.t 0)⟩,
  ⟨some 8, none, .mv (.t 1)⟩,
  ⟨some 9, none, .bin .geq .val (.t 7) (.t 8)⟩,
  ⟨some 10, none, .mv (.t 9)⟩,
  ⟨some 11, some (10, true), .mv (.t 0)⟩,
  ⟨some 12, some (10, true), .mv (.t 2)⟩,
  ⟨some 13, some (10, true), .bin .leq .val (.t 11) (.t 12)⟩,
  ⟨some 14, none, .pick (.t 10) (.t 13) (.c (.bool false))⟩,
  ⟨some 6, none, .mv (.t 14)⟩]) [6]
 (.ret))) }
/- impl.EntryOk -/
def f26 : AFunc := { np := 1, nt := 132, res := [.tmp 2], own := false, body := (.seq (.reg false [⟨some 1, none, .box (.t 0)⟩,
  ⟨some 2, none, .mv (.c (.bool false))⟩]) [1]
 (.seq (.seq (.reg false [⟨some 7, none, .faddr 0 (.t 1)⟩,
  ⟨some 8, none, .load false 1 (.t 7)⟩,
  ⟨some 9, none, .pcall (.f 43) [.t 8]⟩,
  ⟨some 10, none, .un .not (.t 9)⟩,
  ⟨some 11, none, .mv (.t 10)⟩,
  ⟨some 12, some (11, false), .faddr 1 (.t 1)⟩,
  ⟨some 13, some (11, false), .load false 1 (.t 12)⟩,
  ⟨some 14, some (11, false), .pcall (.f 25) [.t 13, .c (.int .i64 (0)), .c (.int .i64 (2000000))]⟩,
  ⟨some 15, some (11, false), .un .not (.t 14)⟩,
  ⟨some 16, none, .pick (.t 11) (.c (.bool true)) (.t 15)⟩]) [1, 16]
 (.cond (.t 16) (.seq (.reg false [⟨some 2, none, .mv (.c (.bool false))⟩]) [2]
 (.ret)) (.skip))) [1]
 (.seq (.reg true [⟨some 17, none, .faddr 3 (.t 1)⟩,
  ⟨some 18, none, .load false 1 (.t 17)⟩,
  ⟨some 19, none, .bin .neq .val (.t 18) (.c (.str []))⟩,
  ⟨some 20, none, .faddr 4 (.t 1)⟩,
  ⟨some 21, none, .load false 1 (.t 20)⟩,
  ⟨some 22, none, .len false (.t 21)⟩,
  ⟨some 23, none, .bin .gtr .val (.t 22) (.c (.int .i64 (0)))⟩,
  ⟨some 24, none, .faddr 5 (.t 1)⟩,
  ⟨some 25, none, .load false 1 (.t 24)⟩,
  ⟨some 26, none, .len false (.t 25)⟩,
  ⟨some 27, none, .bin .gtr .val (.t 26) (.c (.int .i64 (0)))⟩,
  ⟨some 28, none, .faddr 6 (.t 1)⟩,
  ⟨some 29, none, .load false 1 (.t 28)⟩,
  ⟨some 30, none, .len false (.t 29)⟩,
  ⟨some 31, none, .bin .gtr .val (.t 30) (.c (.int .i64 (0)))⟩,
  ⟨some 3, none, .mv (.t 19)⟩,
  ⟨some 4, none, .mv (.t 23)⟩,
  ⟨some 5, none, .mv (.t 27)⟩,
  ⟨some 6, none, .mv (.t 31)⟩]) [1, 3, 4, 5, 6]
 (.seq (.seq (.reg false [⟨some 32, none, .faddr 2 (.t 1)⟩,
  ⟨some 33, none, .load false 1 (.t 32)⟩]) [1, 3, 4, 5, 6, 33]
 (.block 0 (.seq (.reg false [⟨some 35, none, .bin .eql .val (.t 33) (.c (.int .i64 (1)))⟩,
  ⟨some 34, none, .mv (.t 35)⟩]) [1, 3, 4, 5, 6, 33, 34]
 (.cond (.t 34) (.seq (.reg false [⟨some 36, none, .faddr 3 (.t 1)⟩,
  ⟨some 37, none, .load false 1 (.t 36)⟩,
  ⟨some 38, none, .len true (.t 37)⟩,
  ⟨some 39, none, .bin .leq .val (.t 38) (.c (.int .i64 (40)))⟩,
  ⟨some 40, none, .mv (.t 39)⟩,
  ⟨some 41, some (40, true), .mv (.t 4)⟩,
  ⟨some 42, some (40, true), .un .not (.t 41)⟩,
  ⟨some 43, none, .pick (.t 40) (.t 42) (.c (.bool false))⟩,
  ⟨some 44, none, .mv (.t 43)⟩,
  ⟨some 45, some (44, true), .mv (.t 5)⟩,
  ⟨some 46, some (44, true), .un .not (.t 45)⟩,
  ⟨some 47, none, .pick (.t 44) (.t 46) (.c (.bool false))⟩,
  ⟨some 48, none, .mv (.t 47)⟩,
  ⟨some 49, some (48, true), .mv (.t 6)⟩,
  ⟨some 50, some (48, true), .un .not (.t 49)⟩,
  ⟨some 51, none, .pick (.t 48) (.t 50) (.c (.bool false))⟩,
  ⟨some 2, none, .mv (.t 51)⟩]) [2]
 (.ret)) (.seq (.reg false [⟨some 53, none, .bin .eql .val (.t 33) (.c (.int .i64 (2)))⟩,
  ⟨some 52, none, .mv (.t 53)⟩]) [1, 3, 4, 5, 6, 33, 52]
 (.cond (.t 52) (.seq (.reg false [⟨some 54, none, .mv (.t 4)⟩,
  ⟨some 55, none, .mv (.t 54)⟩,
  ⟨some 56, some (55, true), .faddr 4 (.t 1)⟩,
  ⟨some 57, some (55, true), .load false 1 (.t 56)⟩,
  ⟨some 58, some (55, true), .pcall (.f 44) [.t 57]⟩,
  ⟨some 59, none, .pick (.t 55) (.t 58) (.c (.bool false))⟩,
  ⟨some 60, none, .mv (.t 59)⟩,
  ⟨some 61, some (60, true), .mv (.t 3)⟩,
  ⟨some 62, some (60, true), .un .not (.t 61)⟩,
  ⟨some 63, none, .pick (.t 60) (.t 62) (.c (.bool false))⟩,
  ⟨some 64, none, .mv (.t 63)⟩,
  ⟨some 65, some (64, true), .mv (.t 5)⟩,
  ⟨some 66, some (64, true), .un .not (.t 65)⟩,
  ⟨some 67, none, .pick (.t 64) (.t 66) (.c (.bool false))⟩,
  ⟨some 68, none, .mv (.t 67)⟩,
  ⟨some 69, some (68, true), .mv (.t 6)⟩,
  ⟨some 70, some (68, true), .un .not (.t 69)⟩,
  ⟨some 71, none, .pick (.t 68) (.t 70) (.c (.bool false))⟩,
  ⟨some 2, none, .mv (.t 71)⟩]) [2]
 (.ret)) (.seq (.reg false [⟨some 73, none, .bin .eql .val (.t 33) (.c (.int .i64 (3)))⟩,
  ⟨some 72, none, .mv (.t 73)⟩]) [1, 3, 4, 5, 6, 33, 72]
 (.cond (.t 72) (.seq (.reg false [⟨some 74, none, .mv (.t 4)⟩,
  ⟨some 75, none, .mv (.t 74)⟩,
  ⟨some 76, some (75, true), .faddr 4 (.t 1)⟩,
  ⟨some 77, some (75, true), .load false 1 (.t 76)⟩,
  ⟨some 78, some (75, true), .pcall (.f 45) [.t 77]⟩,
  ⟨some 79, none, .pick (.t 75) (.t 78) (.c (.bool false))⟩,
  ⟨some 80, none, .mv (.t 79)⟩,
  ⟨some 81, some (80, true), .mv (.t 3)⟩,
  ⟨some 82, some (80, true), .un .not (.t 81)⟩,
  ⟨some 83, none, .pick (.t 80) (.t 82) (.c (.bool false))⟩,
  ⟨some 84, none, .mv (.t 83)⟩,
  ⟨some 85, some (84, true), .mv (.t 5)⟩,
  ⟨some 86, some (84, true), .un .not (.t 85)⟩,
  ⟨some 87, none, .pick (.t 84) (.t 86) (.c (.bool false))⟩,
  ⟨some 88, none, .mv (.t 87)⟩,
  ⟨some 89, some (88, true), .mv (.t 6)⟩,
  ⟨some 90, some (88, true), .un .not (.t 89)⟩,
  ⟨some 91, none, .pick (.t 88) (.t 90) (.c (.bool false))⟩,
  ⟨some 2, none, .mv (.t 91)⟩]) [2]
 (.ret)) (.seq (.reg false [⟨some 93, none, .bin .eql .val (.t 33) (.c (.int .i64 (4)))⟩,
  ⟨some 92, none, .mv (.t 93)⟩]) [1, 3, 4, 5, 6, 33, 92]
 (.cond (.t 92) (.seq (.reg false [⟨some 94, none, .mv (.t 5)⟩,
  ⟨some 95, none, .mv (.t 94)⟩,
  ⟨some 96, some (95, true), .faddr 5 (.t 1)⟩,
  ⟨some 97, some (95, true), .load false 1 (.t 96)⟩,
  ⟨some 98, some (95, true), .pcall (.f 46) [.t 97]⟩,
  ⟨some 99, none, .pick (.t 95) (.t 98) (.c (.bool false))⟩,
  ⟨some 100, none, .mv (.t 99)⟩,
  ⟨some 101, some (100, true), .mv (.t 3)⟩,
  ⟨some 102, some (100, true), .un .not (.t 101)⟩,
  ⟨some 103, none, .pick (.t 100) (.t 102) (.c (.bool false))⟩,
  ⟨some 104, none, .mv (.t 103)⟩,
  ⟨some 105, some (104, true), .mv (.t 4)⟩,
  ⟨some 106, some (104, true), .un .not (.t 105)⟩,
  ⟨some 107, none, .pick (.t 104) (.t 106) (.c (.bool false))⟩,
  ⟨some 108, none, .mv (.t 107)⟩,
  ⟨some 109, some (108, true), .mv (.t 6)⟩,
  ⟨some 110, some (108, true), .un .not (.t 109)⟩,
  ⟨some 111, none, .pick (.t 108) (.t 110) (.c (.bool false))⟩,
  ⟨some 2, none, .mv (.t 111)⟩]) [2]
 (.ret)) (.seq (.reg false [⟨some 113, none, .bin .eql .val (.t 33) (.c (.int .i64 (5)))⟩,
  ⟨some 112, none, .mv (.t 113)⟩]) [1, 3, 4, 5, 6, 112]
 (.cond (.t 112) (.seq (.reg false [⟨some 114, none, .mv (.t 6)⟩,
  ⟨some 115, none, .mv (.t 114)⟩,
  ⟨some 116, some (115, true), .faddr 6 (.t 1)⟩,
  ⟨some 117, some (115, true), .load false 1 (.t 116)⟩,
  ⟨some 118, some (115, true), .pcall (.f 47) [.t 117]⟩,
  ⟨some 119, none, .pick (.t 115) (.t 118) (.c (.bool false))⟩,
  ⟨some 120, none, .mv (.t 119)⟩,
  ⟨some 121, some (120, true), .mv (.t 3)⟩,
  ⟨some 122, some (120, true), .un .not (.t 121)⟩,
  ⟨some 123, none, .pick (.t 120) (.t 122) (.c (.bool false))⟩,
  ⟨some 124, none, .mv (.t 123)⟩,
  ⟨some 125, some (124, true), .mv (.t 4)⟩,
  ⟨some 126, some (124, true), .un .not (.t 125)⟩,
  ⟨some 127, none, .pick (.t 124) (.t 126) (.c (.bool false))⟩,
  ⟨some 128, none, .mv (.t 127)⟩,
  ⟨some 129, some (128, true), .mv (.t 5)⟩,
  ⟨some 130, some (128, true), .un .not (.t 129)⟩,
  ⟨some 131, none, .pick (.t 128) (.t 130) (.c (.bool false))⟩,
  ⟨some 2, none, .mv (.t 131)⟩]) [2]
 (.ret)) (.skip))))))))))))) []
 (.seq (.reg false [⟨some 2, none, .mv (.c (.bool false))⟩]) [2]
 (.ret)))))) }
/- impl.OrderPut -/
def f27l0 : ACode := (.seq (.reg false [⟨some 17, none, .bin .lss .val (.t 16) (.t 15)⟩]) [3, 14, 15, 16, 17]
 (.seq (.cond (.t 17) (.skip) (.exit 0)) [3, 14, 15, 16]
 (.seq (.block 1 (.seq (.reg false [⟨some 18, none, .iaddr 1 (.t 14) (.t 16)⟩,
  ⟨some 19, none, .load false 1 (.t 18)⟩,
  ⟨some 5, none, .mv (.t 19)⟩]) [3, 5, 14, 15, 16]
 (.reg false [⟨some 20, none, .mv (.t 3)⟩,
  ⟨some 21, none, .mv (.t 5)⟩,
  ⟨some 22, none, .pcall (.f 49) [.t 21]⟩,
  ⟨some 23, none, .bin .add .val (.t 20) (.t 22)⟩,
  ⟨some 3, none, .mv (.t 23)⟩]))) [3, 14, 15, 16]
 (.reg false [⟨some 24, none, .bin .add .val (.t 16) (.c (.int .i64 (1)))⟩,
  ⟨some 16, none, .mv (.t 24)⟩]))))
def f27 : AFunc := { np := 1, nt := 26, res := [.tmp 2], own := false, body := (.seq (.reg false [⟨some 2, none, .mv (.c (.str []))⟩]) [0]
 (.seq (.seq (.reg false [⟨some 6, none, .mv (.t 0)⟩,
  ⟨some 7, none, .pcall (.f 29) [.t 6]⟩,
  ⟨some 8, none, .un .not (.t 7)⟩]) [0, 8]
 (.cond (.t 8) (.seq (.reg false [⟨some 2, none, .mv (.c (.str []))⟩]) [2]
 (.ret)) (.skip))) [0]
 (.seq (.reg false [⟨some 9, none, .mv (.t 0)⟩,
  ⟨some 10, none, .len false (.t 9)⟩,
  ⟨some 11, none, .pcall (.f 48) [.t 10]⟩,
  ⟨some 12, none, .bin .add .val (.c (.str [42])) (.t 11)⟩,
  ⟨some 13, none, .bin .add .val (.t 12) (.c (.str [13, 10]))⟩,
  ⟨some 3, none, .mv (.t 13)⟩]) [0, 3]
 (.seq (.seq (.reg false [⟨some 14, none, .mv (.t 0)⟩,
  ⟨some 15, none, .len false (.t 14)⟩,
  ⟨some 16, none, .mv (.c (.int .i64 (0)))⟩]) [3, 14, 15, 16]
 (.block 0 (.loop [3, 14, 15, 16] f27l0))) [3]
 (.seq (.reg false [⟨some 25, none, .mv (.t 3)⟩,
  ⟨some 2, none, .mv (.t 25)⟩]) [2]
 (.ret)))))) }
/- impl.numberText -/
def f28 : AFunc := { np := 1, nt := 5, res := [.tmp 2], own := false, body := (.seq (.reg false [⟨some 2, none, .mv (.c (.str []))⟩]) [0]
 (.seq (.reg false [⟨some 3, none, .mv (.t 0)⟩,
  ⟨some 4, none, .pcall (.f 48) [.t 3]⟩,
  ⟨some 2, none, .mv (.t 4)⟩]) [2]
 (.ret))) }
/- impl.isOrder -/
def f29 : AFunc := { np := 1, nt := 10, res := [.tmp 2], own := false, body := (.seq (.reg false [⟨some 2, none, .mv (.c (.bool false))⟩]) [0]
 (.seq (.reg false [⟨some 3, none, .mv (.t 0)⟩,
  ⟨some 4, none, .len false (.t 3)⟩,
  ⟨some 5, none, .bin .gtr .val (.t 4) (.c (.int .i64 (0)))⟩,
  ⟨some 6, none, .mv (.t 5)⟩,
  ⟨some 7, some (6, true), .mv (.t 0)⟩,
  ⟨some 8, some (6, true), .pcall (.f 50) [.t 7, .c (.int .i64 (8))]⟩,
  ⟨some 9, none, .pick (.t 6) (.t 8) (.c (.bool false))⟩,
  ⟨some 2, none, .mv (.t 9)⟩]) [2]
 (.ret))) }
/- laws.eqEntry -/
def f30 : AFunc := { np := 2, nt := 43, res := [.tmp 4], own := false, body := (.seq (.reg false [⟨some 2, none, .box (.t 0)⟩,
  ⟨some 3, none, .box (.t 1)⟩,
  ⟨some 4, none, .mv (.c (.bool false))⟩]) [2, 3]
 (.seq (.seq (.reg false [⟨some 5, none, .faddr 0 (.t 2)⟩,
  ⟨some 6, none, .load false 1 (.t 5)⟩,
  ⟨some 7, none, .faddr 0 (.t 3)⟩,
  ⟨some 8, none, .load false 1 (.t 7)⟩,
  ⟨some 9, none, .bin .neq .val (.t 6) (.t 8)⟩]) [2, 3, 9]
 (.cond (.t 9) (.seq (.reg false [⟨some 4, none, .mv (.c (.bool false))⟩]) [4]
 (.ret)) (.skip))) [2, 3]
 (.seq (.seq (.reg false [⟨some 10, none, .faddr 1 (.t 2)⟩,
  ⟨some 11, none, .load false 1 (.t 10)⟩,
  ⟨some 12, none, .faddr 1 (.t 3)⟩,
  ⟨some 13, none, .load false 1 (.t 12)⟩,
  ⟨some 14, none, .bin .neq .val (.t 11) (.t 13)⟩]) [2, 3, 14]
 (.cond (.t 14) (.seq (.reg false [⟨some 4, none, .mv (.c (.bool false))⟩]) [4]
 (.ret)) (.skip))) [2, 3]
 (.seq (.seq (.reg false [⟨some 15, none, .faddr 2 (.t 2)⟩,
  ⟨some 16, none, .load false 1 (.t 15)⟩,
  ⟨some 17, none, .faddr 2 (.t 3)⟩,
  ⟨some 18, none, .load false 1 (.t 17)⟩,
  ⟨some 19, none, .bin .neq .val (.t 16) (.t 18)⟩]) [2, 3, 19]
 (.cond (.t 19) (.seq (.reg false [⟨some 4, none, .mv (.c (.bool false))⟩]) [4]
 (.ret)) (.skip))) [2, 3]
 (.seq (.seq (.reg false [⟨some 20, none, .faddr 3 (.t 2)⟩,
  ⟨some 21, none, .load false 1 (.t 20)⟩,
  ⟨some 22, none, .faddr 3 (.t 3)⟩,
  ⟨some 23, none, .load false 1 (.t 22)⟩,
  ⟨some 24, none, .bin .neq .val (.t 21) (.t 23)⟩]) [2, 3, 24]
 (.cond (.t 24) (.seq (.reg false [⟨some 4, none, .mv (.c (.bool false))⟩]) [4]
 (.ret)) (.skip))) [2, 3]
 (.seq (.seq (.reg false [⟨some 25, none, .faddr 4 (.t 2)⟩,
  ⟨some 26, none, .load false 1 (.t 25)⟩,
  ⟨some 27, none, .faddr 4 (.t 3)⟩,
  ⟨some 28, none, .load false 1 (.t 27)⟩,
  ⟨some 29, none, .pcall (.f 51) [.t 26, .t 28]⟩,
  ⟨some 30, none, .un .not (.t 29)⟩]) [2, 3, 30]
 (.cond (.t 30) (.seq (.reg false [⟨some 4, none, .mv (.c (.bool false))⟩]) [4]
 (.ret)) (.skip))) [2, 3]
 (.seq (.seq (.reg false [⟨some 31, none, .faddr 5 (.t 2)⟩,
  ⟨some 32, none, .load false 1 (.t 31)⟩,
  ⟨some 33, none, .faddr 5 (.t 3)⟩,
  ⟨some 34, none, .load false 1 (.t 33)⟩,
  ⟨some 35, none, .pcall (.f 52) [.t 32, .t 34]⟩,
  ⟨some 36, none, .un .not (.t 35)⟩]) [2, 3, 36]
 (.cond (.t 36) (.seq (.reg false [⟨some 4, none, .mv (.c (.bool false))⟩]) [4]
 (.ret)) (.skip))) [2, 3]
 (.seq (.seq (.reg false [⟨some 37, none, .faddr 6 (.t 2)⟩,
  ⟨some 38, none, .load false 1 (.t 37)⟩,
  ⟨some 39, none, .faddr 6 (.t 3)⟩,
  ⟨some 40, none, .load false 1 (.t 39)⟩,
  ⟨some 41, none, .pcall (.f 53) [.t 38, .t 40]⟩,
  ⟨some 42, none, .un .not (.t 41)⟩]) [42]
 (.cond (.t 42) (.seq (.reg false [⟨some 4, none, .mv (.c (.bool false))⟩]) [4]
 (.ret)) (.skip))) []
 (.seq (.reg false [⟨some 4, none, .mv (.c (.bool true))⟩]) [4]
 (.ret)))))))))) }
/- laws.szStringS -/
def f31l0 : ACode := (.seq (.seq (.reg false [⟨some 12, none, .mv (.t 5)⟩,
  ⟨some 13, none, .mv (.t 0)⟩,
  ⟨some 14, none, .len false (.t 13)⟩,
  ⟨some 15, none, .bin .lss .val (.t 12) (.t 14)⟩]) [0, 1, 5, 15]
 (.cond (.t 15) (.skip) (.exit 0))) [0, 1, 5]
 (.seq (.block 1 (.seq (.reg false [⟨some 18, none, .mv (.t 1)⟩,
  ⟨some 19, none, .mv (.t 0)⟩,
  ⟨some 20, none, .mv (.t 5)⟩,
  ⟨some 21, none, .iaddr 1 (.t 19) (.t 20)⟩,
  ⟨some 22, none, .load false 1 (.t 21)⟩,
  ⟨some 23, none, .len true (.t 22)⟩,
  ⟨some 24, none, .bin .sub .val (.t 18) (.t 23)⟩,
  ⟨some 1, none, .mv (.t 24)⟩]) [0, 1, 5]
 (.seq (.reg false [⟨some 25, none, .mv (.t 1)⟩,
  ⟨some 26, none, .bin .lss .val (.t 25) (.c (.int .i64 (0)))⟩]) [0, 1, 5, 26]
 (.cond (.t 26) (.seq (.reg false [⟨some 4, none, .mv (.c (.int .i64 (-1)))⟩]) [4]
 (.ret)) (.skip))))) [0, 1, 5]
 (.reg false [⟨some 16, none, .mv (.t 5)⟩,
  ⟨some 17, none, .bin .add .val (.t 16) (.c (.int .i64 (1)))⟩,
  ⟨some 5, none, .mv (.t 17)⟩])))
def f31 : AFunc := { np := 2, nt := 28, res := [.tmp 4], own := false, body := (.seq (.reg false [⟨some 4, none, .mv (.c (.int .i64 (0)))⟩]) [0, 1]
 (.seq (.reg false [⟨some 6, none, .mv (.t 1)⟩,
  ⟨some 7, none, .mv (.t 0)⟩,
  ⟨some 8, none, .len false (.t 7)⟩,
  ⟨some 9, none, .bin .sub .val (.t 6) (.t 8)⟩,
  ⟨some 1, none, .mv (.t 9)⟩]) [0, 1]
 (.seq (.seq (.reg false [⟨some 10, none, .mv (.t 1)⟩,
  ⟨some 11, none, .bin .lss .val (.t 10) (.c (.int .i64 (0)))⟩]) [0, 1, 11]
 (.cond (.t 11) (.seq (.reg false [⟨some 4, none, .mv (.c (.int .i64 (-1)))⟩]) [4]
 (.ret)) (.skip))) [0, 1]
 (.seq (.seq (.reg false [⟨some 5, none, .mv (.c (.int .i64 (0)))⟩]) [0, 1, 5]
 (.block 0 (.loop [0, 1, 5] f31l0))) [1]
 (.seq (.reg false [⟨some 27, none, .mv (.t 1)⟩,
  ⟨some 4, none, .mv (.t 27)⟩]) [4]
 (.ret)))))) }
/- laws.szScoreS -/
def f32l0 : ACode := (.seq (.seq (.reg false [⟨some 12, none, .mv (.t 5)⟩,
  ⟨some 13, none, .mv (.t 0)⟩,
  ⟨some 14, none, .len false (.t 13)⟩,
  ⟨some 15, none, .bin .lss .val (.t 12) (.t 14)⟩]) [0, 1, 5, 15]
 (.cond (.t 15) (.skip) (.exit 0))) [0, 1, 5]
 (.seq (.block 1 (.seq (.reg false [⟨some 18, none, .mv (.t 0)⟩,
  ⟨some 19, none, .mv (.t 5)⟩,
  ⟨some 20, none, .iaddr 2 (.t 18) (.t 19)⟩,
  ⟨some 21, none, .load true 2 (.t 20)⟩,
  ⟨some 22, none, .mv (.t 1)⟩,
  ⟨some 23, none, .pcall (.f 54) [.t 21, .t 22]⟩,
  ⟨some 1, none, .mv (.t 23)⟩]) [0, 1, 5]
 (.seq (.reg false [⟨some 24, none, .mv (.t 1)⟩,
  ⟨some 25, none, .bin .lss .val (.t 24) (.c (.int .i64 (0)))⟩]) [0, 1, 5, 25]
 (.cond (.t 25) (.seq (.reg false [⟨some 4, none, .mv (.c (.int .i64 (-1)))⟩]) [4]
 (.ret)) (.skip))))) [0, 1, 5]
 (.reg false [⟨some 16, none, .mv (.t 5)⟩,
  ⟨some 17, none, .bin .add .val (.t 16) (.c (.int .i64 (1)))⟩,
  ⟨some 5, none, .mv (.t 17)⟩])))
def f32 : AFunc := { np := 2, nt := 27, res := [.tmp 4], own := false, body := (.seq (.reg false [⟨some 4, none, .mv (.c (.int .i64 (0)))⟩]) [0, 1]
 (.seq (.reg false [⟨some 6, none, .mv (.t 1)⟩,
  ⟨some 7, none, .mv (.t 0)⟩,
  ⟨some 8, none, .len false (.t 7)⟩,
  ⟨some 9, none, .bin .sub .val (.t 6) (.t 8)⟩,
  ⟨some 1, none, .mv (.t 9)⟩]) [0, 1]
 (.seq (.seq (.reg false [⟨some 10, none, .mv (.t 1)⟩,
  ⟨some 11, none, .bin .lss .val (.t 10) (.c (.int .i64 (0)))⟩]) [0, 1, 11]
 (.cond (.t 11) (.seq (.reg false [⟨some 4, none, .mv (.c (.int .i64 (-1)))⟩]) [4]
 (.ret)) (.skip))) [0, 1]
 (.seq (.seq (.reg false [⟨some 5, none, .mv (.c (.int .i64 (0)))⟩]) [0, 1, 5]
 (.block 0 (.loop [0, 1, 5] f32l0))) [1]
 (.seq (.reg false [⟨some 26, none, .mv (.t 1)⟩,
  ⟨some 4, none, .mv (.t 26)⟩]) [4]
 (.ret)))))) }
/- laws.szPairS -/
def f33l0 : ACode := (.seq (.seq (.reg false [⟨some 12, none, .mv (.t 5)⟩,
  ⟨some 13, none, .mv (.t 0)⟩,
  ⟨some 14, none, .len false (.t 13)⟩,
  ⟨some 15, none, .bin .lss .val (.t 12) (.t 14)⟩]) [0, 1, 5, 15]
 (.cond (.t 15) (.skip) (.exit 0))) [0, 1, 5]
 (.seq (.block 1 (.seq (.reg false [⟨some 18, none, .mv (.t 0)⟩,
  ⟨some 19, none, .mv (.t 5)⟩,
  ⟨some 20, none, .iaddr 2 (.t 18) (.t 19)⟩,
  ⟨some 21, none, .load true 2 (.t 20)⟩,
  ⟨some 22, none, .mv (.t 1)⟩,
  ⟨some 23, none, .pcall (.f 55) [.t 21, .t 22]⟩,
  ⟨some 1, none, .mv (.t 23)⟩]) [0, 1, 5]
 (.seq (.reg false [⟨some 24, none, .mv (.t 1)⟩,
  ⟨some 25, none, .bin .lss .val (.t 24) (.c (.int .i64 (0)))⟩]) [0, 1, 5, 25]
 (.cond (.t 25) (.seq (.reg false [⟨some 4, none, .mv (.c (.int .i64 (-1)))⟩]) [4]
 (.ret)) (.skip))))) [0, 1, 5]
 (.reg false [⟨some 16, none, .mv (.t 5)⟩,
  ⟨some 17, none, .bin .add .val (.t 16) (.c (.int .i64 (1)))⟩,
  ⟨some 5, none, .mv (.t 17)⟩])))
def f33 : AFunc := { np := 2, nt := 27, res := [.tmp 4], own := false, body := (.seq (.reg false [⟨some 4, none, .mv (.c (.int .i64 (0)))⟩]) [0, 1]
 (.seq (.reg false [⟨some 6, none, .mv (.t 1)⟩,
  ⟨some 7, none, .mv (.t 0)⟩,
  ⟨some 8, none, .len false (.t 7)⟩,
  ⟨some 9, none, .bin .sub .val (.t 6) (.t 8)⟩,
  ⟨some 1, none, .mv (.t 9)⟩]) [0, 1]
 (.seq (.seq (.reg false [⟨some 10, none, .mv (.t 1)⟩,
  ⟨some 11, none, .bin .lss .val (.t 10) (.c (.int .i64 (0)))⟩]) [0, 1, 11]
 (.cond (.t 11) (.seq (.reg false [⟨some 4, none, .mv (.c (.int .i64 (-1)))⟩]) [4]
 (.ret)) (.skip))) [0, 1]
 (.seq (.seq (.reg false [⟨some 5, none, .mv (.c (.int .i64 (0)))⟩]) [0, 1, 5]
 (.block 0 (.loop [0, 1, 5] f33l0))) [1]
 (.seq (.reg false [⟨some 26, none, .mv (.t 1)⟩,
  ⟨some 4, none, .mv (.t 26)⟩]) [4]
 (.ret)))))) }
/- spec.l4Key -/
def f34 : AFunc := { np := 1, nt := 6, res := [.tmp 2], own := false, body := (.seq (.reg false [⟨some 2, none, .mv (.c (.bool false))⟩]) [0]
 (.seq (.reg false [⟨some 3, none, .mv (.t 0)⟩,
  ⟨some 4, none, .len true (.t 3)⟩,
  ⟨some 5, none, .pcall (.f 20) [.t 4, .c (.int .i64 (1)), .c (.int .i64 (12))]⟩,
  ⟨some 2, none, .mv (.t 5)⟩]) [2]
 (.ret))) }
/- spec.l2Texts -/
def f35l0 : ACode := (.seq (.seq (.reg false [⟨some 4, none, .mv (.t 3)⟩,
  ⟨some 5, none, .mv (.t 0)⟩,
  ⟨some 6, none, .len false (.t 5)⟩,
  ⟨some 7, none, .bin .lss .val (.t 4) (.t 6)⟩]) [0, 3, 7]
 (.cond (.t 7) (.skip) (.exit 0))) [0, 3]
 (.seq (.block 1 (.seq (.reg false [⟨some 10, none, .mv (.t 0)⟩,
  ⟨some 11, none, .mv (.t 3)⟩,
  ⟨some 12, none, .iaddr 1 (.t 10) (.t 11)⟩,
  ⟨some 13, none, .load false 1 (.t 12)⟩,
  ⟨some 14, none, .len true (.t 13)⟩,
  ⟨some 15, none, .bin .gtr .val (.t 14) (.c (.int .i64 (40)))⟩]) [0, 3, 15]
 (.cond (.t 15) (.seq (.reg false [⟨some 2, none, .mv (.c (.bool false))⟩]) [2]
 (.ret)) (.skip)))) [0, 3]
 (.reg false [⟨some 8, none, .mv (.t 3)⟩,
  ⟨some 9, none, .bin .add .val (.t 8) (.c (.int .i64 (1)))⟩,
  ⟨some 3, none, .mv (.t 9)⟩])))
def f35 : AFunc := { np := 1, nt := 19, res := [.tmp 2], own := false, body := (.seq (.reg false [⟨some 2, none, .mv (.c (.bool false))⟩]) [0]
 (.seq (.seq (.reg false [⟨some 3, none, .mv (.c (.int .i64 (0)))⟩]) [0, 3]
 (.block 0 (.loop [0, 3] f35l0))) [0]
 (.seq (.reg false [⟨some 16, none, .mv (.t 0)⟩,
  ⟨some 17, none, .len false (.t 16)⟩,
  ⟨some 18, none, .bin .leq .val (.t 17) (.c (.int .i64 (16)))⟩,
  ⟨some 2, none, .mv (.t 18)⟩]) [2]
 (.ret)))) }
/- spec.SetOk -/
def f36l0 : ACode := (.seq (.seq (.reg false [⟨some 4, none, .mv (.t 3)⟩,
  ⟨some 5, none, .mv (.t 0)⟩,
  ⟨some 6, none, .len false (.t 5)⟩,
  ⟨some 7, none, .bin .lss .val (.t 4) (.t 6)⟩]) [0, 3, 7]
 (.cond (.t 7) (.skip) (.exit 0))) [0, 3]
 (.seq (.block 1 (.seq (.reg true [⟨some 10, none, .mv (.t 0)⟩,
  ⟨some 11, none, .mv (.t 3)⟩,
  ⟨some 12, none, .bin .sub .val (.t 11) (.c (.int .i64 (1)))⟩,
  ⟨some 13, none, .iaddr 1 (.t 10) (.t 12)⟩,
  ⟨some 14, none, .load false 1 (.t 13)⟩,
  ⟨some 15, none, .mv (.t 0)⟩,
  ⟨some 16, none, .mv (.t 3)⟩,
  ⟨some 17, none, .iaddr 1 (.t 15) (.t 16)⟩,
  ⟨some 18, none, .load false 1 (.t 17)⟩,
  ⟨some 19, none, .bin .geq .val (.t 14) (.t 18)⟩]) [0, 3, 19]
 (.cond (.t 19) (.seq (.reg false [⟨some 2, none, .mv (.c (.bool false))⟩]) [2]
 (.ret)) (.skip)))) [0, 3]
 (.reg false [⟨some 8, none, .mv (.t 3)⟩,
  ⟨some 9, none, .bin .add .val (.t 8) (.c (.int .i64 (1)))⟩,
  ⟨some 3, none, .mv (.t 9)⟩])))
def f36 : AFunc := { np := 1, nt := 22, res := [.tmp 2], own := false, body := (.seq (.reg false [⟨some 2, none, .mv (.c (.bool false))⟩]) [0]
 (.seq (.seq (.reg false [⟨some 3, none, .mv (.c (.int .i64 (1)))⟩]) [0, 3]
 (.block 0 (.loop [0, 3] f36l0))) [0]
 (.seq (.reg false [⟨some 20, none, .mv (.t 0)⟩,
  ⟨some 21, none, .pcall (.f 35) [.t 20]⟩,
  ⟨some 2, none, .mv (.t 21)⟩]) [2]
 (.ret)))) }
/- spec.ScoresOk -/
def f37l0 : ACode := (.seq (.seq (.reg false [⟨some 44, none, .mv (.t 4)⟩,
  ⟨some 45, none, .mv (.t 3)⟩,
  ⟨some 46, none, .bin .lss .val (.t 44) (.t 45)⟩]) [0, 3, 4, 46]
 (.cond (.t 46) (.skip) (.exit 2))) [0, 3, 4]
 (.seq (.block 3 (.seq (.reg true [⟨some 49, none, .mv (.t 0)⟩,
  ⟨some 50, none, .mv (.t 4)⟩,
  ⟨some 51, none, .iaddr 2 (.t 49) (.t 50)⟩,
  ⟨some 52, none, .faddr 0 (.t 51)⟩,
  ⟨some 53, none, .load false 1 (.t 52)⟩,
  ⟨some 54, none, .mv (.t 0)⟩,
  ⟨some 55, none, .mv (.t 3)⟩,
  ⟨some 56, none, .iaddr 2 (.t 54) (.t 55)⟩,
  ⟨some 57, none, .faddr 0 (.t 56)⟩,
  ⟨some 58, none, .load false 1 (.t 57)⟩,
  ⟨some 59, none, .bin .eql .val (.t 53) (.t 58)⟩]) [0, 3, 4, 59]
 (.cond (.t 59) (.seq (.reg false [⟨some 2, none, .mv (.c (.bool false))⟩]) [2]
 (.ret)) (.skip)))) [0, 3, 4]
 (.reg false [⟨some 47, none, .mv (.t 4)⟩,
  ⟨some 48, none, .bin .add .val (.t 47) (.c (.int .i64 (1)))⟩,
  ⟨some 4, none, .mv (.t 48)⟩])))
def f37l1 : ACode := (.seq (.seq (.reg false [⟨some 5, none, .mv (.t 3)⟩,
  ⟨some 6, none, .mv (.t 0)⟩,
  ⟨some 7, none, .len false (.t 6)⟩,
  ⟨some 8, none, .bin .lss .val (.t 5) (.t 7)⟩]) [0, 3, 8]
 (.cond (.t 8) (.skip) (.exit 0))) [0, 3]
 (.seq (.block 1 (.seq (.seq (.reg true [⟨some 11, none, .mv (.t 0)⟩,
  ⟨some 12, none, .mv (.t 3)⟩,
  ⟨some 13, none, .iaddr 2 (.t 11) (.t 12)⟩,
  ⟨some 14, none, .faddr 0 (.t 13)⟩,
  ⟨some 15, none, .load false 1 (.t 14)⟩,
  ⟨some 16, none, .len true (.t 15)⟩,
  ⟨some 17, none, .bin .gtr .val (.t 16) (.c (.int .i64 (40)))⟩,
  ⟨some 18, none, .mv (.t 17)⟩,
  ⟨some 19, some (18, false), .mv (.t 0)⟩,
  ⟨some 20, some (18, false), .mv (.t 3)⟩,
  ⟨some 21, some (18, false), .iaddr 2 (.t 19) (.t 20)⟩,
  ⟨some 22, some (18, false), .faddr 1 (.t 21)⟩,
  ⟨some 23, some (18, false), .load false 1 (.t 22)⟩,
  ⟨some 24, some (18, false), .pcall (.f 20) [.t 23, .c (.int .i64 (-1000000000)), .c (.int .i64 (1000000000))]⟩,
  ⟨some 25, some (18, false), .un .not (.t 24)⟩,
  ⟨some 26, none, .pick (.t 18) (.c (.bool true)) (.t 25)⟩,
  ⟨some 27, none, .mv (.t 26)⟩,
  ⟨some 28, some (27, false), .mv (.t 3)⟩,
  ⟨some 29, some (27, false), .bin .gtr .val (.t 28) (.c (.int .i64 (0)))⟩,
  ⟨some 30, some (27, false), .mv (.t 29)⟩,
  ⟨some 31, some (30, true), .mv (.t 0)⟩,
  ⟨some 32, some (30, true), .mv (.t 3)⟩,
  ⟨some 33, some (30, true), .bin .sub .val (.t 32) (.c (.int .i64 (1)))⟩,
  ⟨some 34, some (30, true), .iaddr 2 (.t 31) (.t 33)⟩,
  ⟨some 35, some (30, true), .load true 2 (.t 34)⟩,
  ⟨some 36, some (30, true), .mv (.t 0)⟩,
  ⟨some 37, some (30, true), .mv (.t 3)⟩,
  ⟨some 38, some (30, true), .iaddr 2 (.t 36) (.t 37)⟩,
  ⟨some 39, some (30, true), .load true 2 (.t 38)⟩,
  ⟨some 40, some (30, true), .pcall (.f 56) [.t 35, .t 39]⟩,
  ⟨some 41, some (30, true), .un .not (.t 40)⟩,
  ⟨some 42, some (27, false), .pick (.t 30) (.t 41) (.c (.bool false))⟩,
  ⟨some 43, none, .pick (.t 27) (.c (.bool true)) (.t 42)⟩]) [0, 3, 43]
 (.cond (.t 43) (.seq (.reg false [⟨some 2, none, .mv (.c (.bool false))⟩]) [2]
 (.ret)) (.skip))) [0, 3]
 (.seq (.reg false [⟨some 4, none, .mv (.c (.int .i64 (0)))⟩]) [0, 3, 4]
 (.block 2 (.loop [0, 3, 4] f37l0))))) [0, 3]
 (.reg false [⟨some 9, none, .mv (.t 3)⟩,
  ⟨some 10, none, .bin .add .val (.t 9) (.c (.int .i64 (1)))⟩,
  ⟨some 3, none, .mv (.t 10)⟩])))
def f37 : AFunc := { np := 1, nt := 63, res := [.tmp 2], own := false, body := (.seq (.reg false [⟨some 2, none, .mv (.c (.bool false))⟩]) [0]
 (.seq (.seq (.reg false [⟨some 3, none, .mv (.c (.int .i64 (0)))⟩]) [0, 3]
 (.block 0 (.loop [0, 3] f37l1))) [0]
 (.seq (.reg false [⟨some 60, none, .mv (.t 0)⟩,
  ⟨some 61, none, .len false (.t 60)⟩,
  ⟨some 62, none, .bin .leq .val (.t 61) (.c (.int .i64 (16)))⟩,
  ⟨some 2, none, .mv (.t 62)⟩]) [2]
 (.ret)))) }
/- spec.FieldsOk -/
def f38l0 : ACode := (.seq (.seq (.reg false [⟨some 4, none, .mv (.t 3)⟩,
  ⟨some 5, none, .mv (.t 0)⟩,
  ⟨some 6, none, .len false (.t 5)⟩,
  ⟨some 7, none, .bin .lss .val (.t 4) (.t 6)⟩]) [0, 3, 7]
 (.cond (.t 7) (.skip) (.exit 0))) [0, 3]
 (.seq (.block 1 (.seq (.reg true [⟨some 10, none, .mv (.t 0)⟩,
  ⟨some 11, none, .mv (.t 3)⟩,
  ⟨some 12, none, .iaddr 2 (.t 10) (.t 11)⟩,
  ⟨some 13, none, .faddr 0 (.t 12)⟩,
  ⟨some 14, none, .load false 1 (.t 13)⟩,
  ⟨some 15, none, .len true (.t 14)⟩,
  ⟨some 16, none, .bin .gtr .val (.t 15) (.c (.int .i64 (40)))⟩,
  ⟨some 17, none, .mv (.t 16)⟩,
  ⟨some 18, some (17, false), .mv (.t 0)⟩,
  ⟨some 19, some (17, false), .mv (.t 3)⟩,
  ⟨some 20, some (17, false), .iaddr 2 (.t 18) (.t 19)⟩,
  ⟨some 21, some (17, false), .faddr 1 (.t 20)⟩,
  ⟨some 22, some (17, false), .load false 1 (.t 21)⟩,
  ⟨some 23, some (17, false), .len true (.t 22)⟩,
  ⟨some 24, some (17, false), .bin .gtr .val (.t 23) (.c (.int .i64 (40)))⟩,
  ⟨some 25, none, .pick (.t 17) (.c (.bool true)) (.t 24)⟩,
  ⟨some 26, none, .mv (.t 25)⟩,
  ⟨some 27, some (26, false), .mv (.t 3)⟩,
  ⟨some 28, some (26, false), .bin .gtr .val (.t 27) (.c (.int .i64 (0)))⟩,
  ⟨some 29, some (26, false), .mv (.t 28)⟩,
  ⟨some 30, some (29, true), .mv (.t 0)⟩,
  ⟨some 31, some (29, true), .mv (.t 3)⟩,
  ⟨some 32, some (29, true), .bin .sub .val (.t 31) (.c (.int .i64 (1)))⟩,
  ⟨some 33, some (29, true), .iaddr 2 (.t 30) (.t 32)⟩,
  ⟨some 34, some (29, true), .faddr 0 (.t 33)⟩,
  ⟨some 35, some (29, true), .load false 1 (.t 34)⟩,
  ⟨some 36, some (29, true), .mv (.t 0)⟩,
  ⟨some 37, some (29, true), .mv (.t 3)⟩,
  ⟨some 38, some (29, true), .iaddr 2 (.t 36) (.t 37)⟩,
  ⟨some 39, some (29, true), .faddr 0 (.t 38)⟩,
  ⟨some 40, some (29, true), .load false 1 (.t 39)⟩,
  ⟨some 41, some (29, true), .bin .geq .val (.t 35) (.t 40)⟩,
  ⟨some 42, some (26, false), .pick (.t 29) (.t 41) (.c (.bool false))⟩,
  ⟨some 43, none, .pick (.t 26) (.c (.bool true)) (.t 42)⟩]) [0, 3, 43]
 (.cond (.t 43) (.seq (.reg false [⟨some 2, none, .mv (.c (.bool false))⟩]) [2]
 (.ret)) (.skip)))) [0, 3]
 (.reg false [⟨some 8, none, .mv (.t 3)⟩,
  ⟨some 9, none, .bin .add .val (.t 8) (.c (.int .i64 (1)))⟩,
  ⟨some 3, none, .mv (.t 9)⟩])))
def f38 : AFunc := { np := 1, nt := 47, res := [.tmp 2], own := false, body := (.seq (.reg false [⟨some 2, none, .mv (.c (.bool false))⟩]) [0]
 (.seq (.seq (.reg false [⟨some 3, none, .mv (.c (.int .i64 (0)))⟩]) [0, 3]
 (.block 0 (.loop [0, 3] f38l0))) [0]
 (.seq (.reg false [⟨some 44, none, .mv (.t 0)⟩,
  ⟨some 45, none, .len false (.t 44)⟩,
  ⟨some 46, none, .bin .leq .val (.t 45) (.c (.int .i64 (16)))⟩,
  ⟨some 2, none, .mv (.t 46)⟩]) [2]
 (.ret)))) }
/- spec.l1Bulk -/
def f39 : AFunc := { np := 1, nt := 11, res := [.tmp 2], own := false, body := (.seq (.reg false [⟨some 2, none, .mv (.c (.str []))⟩]) [0]
 (.seq (.reg false [⟨some 3, none, .mv (.t 0)⟩,
  ⟨some 4, none, .len true (.t 3)⟩,
  ⟨some 5, none, .pcall (.f 22) [.t 4]⟩,
  ⟨some 6, none, .bin .add .val (.c (.str [36])) (.t 5)⟩,
  ⟨some 7, none, .bin .add .val (.t 6) (.c (.str [13, 10]))⟩,
  ⟨some 8, none, .mv (.t 0)⟩,
  ⟨some 9, none, .bin .add .val (.t 7) (.t 8)⟩,
  ⟨some 10, none, .bin .add .val (.t 9) (.c (.str [13, 10]))⟩,
  ⟨some 2, none, .mv (.t 10)⟩]) [2]
 (.ret))) }
/- laws.toStringS -/
def f40l0 : ACode := (.seq (.seq (.reg false [⟨some 8, none, .mv (.t 4)⟩,
  ⟨some 9, none, .mv (.t 0)⟩,
  ⟨some 10, none, .len false (.t 9)⟩,
  ⟨some 11, none, .bin .lss .val (.t 8) (.t 10)⟩]) [0, 3, 4, 11]
 (.cond (.t 11) (.skip) (.exit 0))) [0, 3, 4]
 (.seq (.block 1 (.reg false [⟨some 14, none, .mv (.t 3)⟩,
  ⟨some 15, none, .mv (.t 4)⟩,
  ⟨some 16, none, .mv (.t 0)⟩,
  ⟨some 17, none, .mv (.t 4)⟩,
  ⟨some 18, none, .iaddr 1 (.t 16) (.t 17)⟩,
  ⟨some 19, none, .load false 1 (.t 18)⟩,
  ⟨some 20, none, .iaddr 1 (.t 14) (.t 15)⟩,
  ⟨none, none, .store 1 (.t 20) (.t 19)⟩])) [0, 3, 4]
 (.reg false [⟨some 12, none, .mv (.t 4)⟩,
  ⟨some 13, none, .bin .add .val (.t 12) (.c (.int .i64 (1)))⟩,
  ⟨some 4, none, .mv (.t 13)⟩])))
def f40 : AFunc := { np := 1, nt := 22, res := [.tmp 2], own := false, body := (.seq (.reg false [⟨some 2, none, .mv (.nil 1)⟩]) [0]
 (.seq (.reg false [⟨some 5, none, .mv (.t 0)⟩,
  ⟨some 6, none, .len false (.t 5)⟩,
  ⟨some 7, none, .mkslice 1 16 (.d (.str [])) (.t 6) (.t 6)⟩,
  ⟨some 3, none, .mv (.t 7)⟩]) [0, 3]
 (.seq (.seq (.reg false [⟨some 4, none, .mv (.c (.int .i64 (0)))⟩]) [0, 3, 4]
 (.block 0 (.loop [0, 3, 4] f40l0))) [3]
 (.seq (.reg false [⟨some 21, none, .mv (.t 3)⟩,
  ⟨some 2, none, .mv (.t 21)⟩]) [2]
 (.ret))))) }
/- laws.toScoreS -/
def f41l0 : ACode := (.seq (.seq (.reg false [⟨some 8, none, .mv (.t 4)⟩,
  ⟨some 9, none, .mv (.t 0)⟩,
  ⟨some 10, none, .len false (.t 9)⟩,
  ⟨some 11, none, .bin .lss .val (.t 8) (.t 10)⟩]) [0, 3, 4, 11]
 (.cond (.t 11) (.skip) (.exit 0))) [0, 3, 4]
 (.seq (.block 1 (.reg false [⟨some 14, none, .mv (.t 3)⟩,
  ⟨some 15, none, .mv (.t 4)⟩,
  ⟨some 16, none, .mv (.t 0)⟩,
  ⟨some 17, none, .mv (.t 4)⟩,
  ⟨some 18, none, .iaddr 2 (.t 16) (.t 17)⟩,
  ⟨some 19, none, .load true 2 (.t 18)⟩,
  ⟨some 20, none, .pcall (.f 57) [.t 19]⟩,
  ⟨some 21, none, .iaddr 2 (.t 14) (.t 15)⟩,
  ⟨none, none, .store 2 (.t 21) (.t 20)⟩])) [0, 3, 4]
 (.reg false [⟨some 12, none, .mv (.t 4)⟩,
  ⟨some 13, none, .bin .add .val (.t 12) (.c (.int .i64 (1)))⟩,
  ⟨some 4, none, .mv (.t 13)⟩])))
def f41 : AFunc := { np := 1, nt := 23, res := [.tmp 2], own := false, body := (.seq (.reg false [⟨some 2, none, .mv (.nil 2)⟩]) [0]
 (.seq (.reg false [⟨some 5, none, .mv (.t 0)⟩,
  ⟨some 6, none, .len false (.t 5)⟩,
  ⟨some 7, none, .mkslice 2 24 (.d (.agg [(.str []), (.int .i64 (0))])) (.t 6) (.t 6)⟩,
  ⟨some 3, none, .mv (.t 7)⟩]) [0, 3]
 (.seq (.seq (.reg false [⟨some 4, none, .mv (.c (.int .i64 (0)))⟩]) [0, 3, 4]
 (.block 0 (.loop [0, 3, 4] f41l0))) [3]
 (.seq (.reg false [⟨some 22, none, .mv (.t 3)⟩,
  ⟨some 2, none, .mv (.t 22)⟩]) [2]
 (.ret))))) }
/- laws.toPairS -/
def f42l0 : ACode := (.seq (.seq (.reg false [⟨some 8, none, .mv (.t 4)⟩,
  ⟨some 9, none, .mv (.t 0)⟩,
  ⟨some 10, none, .len false (.t 9)⟩,
  ⟨some 11, none, .bin .lss .val (.t 8) (.t 10)⟩]) [0, 3, 4, 11]
 (.cond (.t 11) (.skip) (.exit 0))) [0, 3, 4]
 (.seq (.block 1 (.reg false [⟨some 14, none, .mv (.t 3)⟩,
  ⟨some 15, none, .mv (.t 4)⟩,
  ⟨some 16, none, .mv (.t 0)⟩,
  ⟨some 17, none, .mv (.t 4)⟩,
  ⟨some 18, none, .iaddr 2 (.t 16) (.t 17)⟩,
  ⟨some 19, none, .load true 2 (.t 18)⟩,
  ⟨some 20, none, .pcall (.f 58) [.t 19]⟩,
  ⟨some 21, none, .iaddr 2 (.t 14) (.t 15)⟩,
  ⟨none, none, .store 2 (.t 21) (.t 20)⟩])) [0, 3, 4]
 (.reg false [⟨some 12, none, .mv (.t 4)⟩,
  ⟨some 13, none, .bin .add .val (.t 12) (.c (.int .i64 (1)))⟩,
  ⟨some 4, none, .mv (.t 13)⟩])))
def f42 : AFunc := { np := 1, nt := 23, res := [.tmp 2], own := false, body := (.seq (.reg false [⟨some 2, none, .mv (.nil 2)⟩]) [0]
 (.seq (.reg false [⟨some 5, none, .mv (.t 0)⟩,
  ⟨some 6, none, .len false (.t 5)⟩,
  ⟨some 7, none, .mkslice 2 32 (.d (.agg [(.str []), (.str [])])) (.t 6) (.t 6)⟩,
  ⟨some 3, none, .mv (.t 7)⟩]) [0, 3]
 (.seq (.seq (.reg false [⟨some 4, none, .mv (.c (.int .i64 (0)))⟩]) [0, 3, 4]
 (.block 0 (.loop [0, 3, 4] f42l0))) [3]
 (.seq (.reg false [⟨some 22, none, .mv (.t 3)⟩,
  ⟨some 2, none, .mv (.t 22)⟩]) [2]
 (.ret))))) }
/- impl.keyOk -/
def f43 : AFunc := { np := 1, nt := 6, res := [.tmp 2], own := false, body := (.seq (.reg false [⟨some 2, none, .mv (.c (.bool false))⟩]) [0]
 (.seq (.reg false [⟨some 3, none, .mv (.t 0)⟩,
  ⟨some 4, none, .len true (.t 3)⟩,
  ⟨some 5, none, .pcall (.f 25) [.t 4, .c (.int .i64 (1)), .c (.int .i64 (12))]⟩,
  ⟨some 2, none, .mv (.t 5)⟩]) [2]
 (.ret))) }
/- impl.listOk -/
def f44 : AFunc := { np := 1, nt := 5, res := [.tmp 2], own := false, body := (.seq (.reg false [⟨some 2, none, .mv (.c (.bool false))⟩]) [0]
 (.seq (.reg false [⟨some 3, none, .mv (.t 0)⟩,
  ⟨some 4, none, .pcall (.f 50) [.t 3, .c (.int .i64 (16))]⟩,
  ⟨some 2, none, .mv (.t 4)⟩]) [2]
 (.ret))) }
/- impl.SetOk -/
def f45l0 : ACode := (.seq (.seq (.reg false [⟨some 4, none, .mv (.t 3)⟩,
  ⟨some 5, none, .mv (.t 0)⟩,
  ⟨some 6, none, .len false (.t 5)⟩,
  ⟨some 7, none, .bin .lss .val (.t 4) (.t 6)⟩]) [0, 3, 7]
 (.cond (.t 7) (.skip) (.exit 0))) [0, 3]
 (.seq (.block 1 (.seq (.reg true [⟨some 10, none, .mv (.t 0)⟩,
  ⟨some 11, none, .mv (.t 3)⟩,
  ⟨some 12, none, .bin .sub .val (.t 11) (.c (.int .i64 (1)))⟩,
  ⟨some 13, none, .iaddr 1 (.t 10) (.t 12)⟩,
  ⟨some 14, none, .load false 1 (.t 13)⟩,
  ⟨some 15, none, .mv (.t 0)⟩,
  ⟨some 16, none, .mv (.t 3)⟩,
  ⟨some 17, none, .iaddr 1 (.t 15) (.t 16)⟩,
  ⟨some 18, none, .load false 1 (.t 17)⟩,
  ⟨some 19, none, .bin .geq .val (.t 14) (.t 18)⟩]) [0, 3, 19]
 (.cond (.t 19) (.seq (.reg false [⟨some 2, none, .mv (.c (.bool false))⟩]) [2]
 (.ret)) (.skip)))) [0, 3]
 (.reg false [⟨some 8, none, .mv (.t 3)⟩,
  ⟨some 9, none, .bin .add .val (.t 8) (.c (.int .i64 (1)))⟩,
  ⟨some 3, none, .mv (.t 9)⟩])))
def f45 : AFunc := { np := 1, nt := 22, res := [.tmp 2], own := false, body := (.seq (.reg false [⟨some 2, none, .mv (.c (.bool false))⟩]) [0]
 (.seq (.seq (.reg false [⟨some 3, none, .mv (.c (.int .i64 (1)))⟩]) [0, 3]
 (.block 0 (.loop [0, 3] f45l0))) [0]
 (.seq (.reg false [⟨some 20, none, .mv (.t 0)⟩,
  ⟨some 21, none, .pcall (.f 44) [.t 20]⟩,
  ⟨some 2, none, .mv (.t 21)⟩]) [2]
 (.ret)))) }
/- impl.ScoresOk -/
def f46l0 : ACode := (.seq (.reg false [⟨some 8, none, .bin .lss .val (.t 7) (.t 6)⟩]) [0, 5, 6, 7, 8]
 (.seq (.cond (.t 8) (.skip) (.exit 0)) [0, 5, 6, 7]
 (.seq (.block 1 (.seq (.reg false [⟨some 9, none, .mv (.t 7)⟩,
  ⟨some 10, none, .iaddr 2 (.t 5) (.t 7)⟩,
  ⟨some 11, none, .load true 2 (.t 10)⟩,
  ⟨some 4, none, .alloc (.d (.agg [(.str []), (.int .i64 (0))]))⟩,
  ⟨some 3, none, .mv (.t 9)⟩,
  ⟨none, none, .store 2 (.t 4) (.t 11)⟩]) [0, 3, 4, 5, 6, 7]
 (.seq (.reg true [⟨some 12, none, .faddr 0 (.t 4)⟩,
  ⟨some 13, none, .load false 1 (.t 12)⟩,
  ⟨some 14, none, .len true (.t 13)⟩,
  ⟨some 15, none, .bin .gtr .val (.t 14) (.c (.int .i64 (40)))⟩,
  ⟨some 16, none, .mv (.t 15)⟩,
  ⟨some 17, some (16, false), .faddr 1 (.t 4)⟩,
  ⟨some 18, some (16, false), .load false 1 (.t 17)⟩,
  ⟨some 19, some (16, false), .pcall (.f 59) [.t 18]⟩,
  ⟨some 20, some (16, false), .un .not (.t 19)⟩,
  ⟨some 21, none, .pick (.t 16) (.c (.bool true)) (.t 20)⟩,
  ⟨some 22, none, .mv (.t 21)⟩,
  ⟨some 23, some (22, false), .mv (.t 3)⟩,
  ⟨some 24, some (22, false), .bin .gtr .val (.t 23) (.c (.int .i64 (0)))⟩,
  ⟨some 25, some (22, false), .mv (.t 24)⟩,
  ⟨some 26, some (25, true), .mv (.t 0)⟩,
  ⟨some 27, some (25, true), .mv (.t 3)⟩,
  ⟨some 28, some (25, true), .bin .sub .val (.t 27) (.c (.int .i64 (1)))⟩,
  ⟨some 29, some (25, true), .iaddr 2 (.t 26) (.t 28)⟩,
  ⟨some 30, some (25, true), .load true 2 (.t 29)⟩,
  ⟨some 31, some (25, true), .load true 2 (.t 4)⟩,
  ⟨some 32, some (25, true), .pcall (.f 60) [.t 30, .t 31]⟩,
  ⟨some 33, some (25, true), .bin .geq .val (.t 32) (.c (.int .i64 (0)))⟩,
  ⟨some 34, some (22, false), .pick (.t 25) (.t 33) (.c (.bool false))⟩,
  ⟨some 35, none, .pick (.t 22) (.c (.bool true)) (.t 34)⟩,
  ⟨some 36, none, .mv (.t 35)⟩,
  ⟨some 37, some (36, false), .mv (.t 0)⟩,
  ⟨some 38, some (36, false), .faddr 0 (.t 4)⟩,
  ⟨some 39, some (36, false), .load false 1 (.t 38)⟩,
  ⟨some 40, some (36, false), .pcall (.f 61) [.t 37, .t 39]⟩,
  ⟨some 41, some (36, false), .mv (.t 3)⟩,
  ⟨some 42, some (36, false), .bin .neq .val (.t 40) (.t 41)⟩,
  ⟨some 43, none, .pick (.t 36) (.c (.bool true)) (.t 42)⟩]) [0, 5, 6, 7, 43]
 (.cond (.t 43) (.seq (.reg false [⟨some 2, none, .mv (.c (.bool false))⟩]) [2]
 (.ret)) (.skip))))) [0, 5, 6, 7]
 (.reg false [⟨some 44, none, .bin .add .val (.t 7) (.c (.int .i64 (1)))⟩,
  ⟨some 7, none, .mv (.t 44)⟩]))))
def f46 : AFunc := { np := 1, nt := 48, res := [.tmp 2], own := false, body := (.seq (.reg false [⟨some 2, none, .mv (.c (.bool false))⟩]) [0]
 (.seq (.seq (.reg false [⟨some 5, none, .mv (.t 0)⟩,
  ⟨some 6, none, .len false (.t 5)⟩,
  ⟨some 7, none, .mv (.c (.int .i64 (0)))⟩]) [0, 5, 6, 7]
 (.block 0 (.loop [0, 5, 6, 7] f46l0))) [0]
 (.seq (.reg false [⟨some 45, none, .mv (.t 0)⟩,
  ⟨some 46, none, .len false (.t 45)⟩,
  ⟨some 47, none, .bin .leq .val (.t 46) (.c (.int .i64 (16)))⟩,
  ⟨some 2, none, .mv (.t 47)⟩]) [2]
 (.ret)))) }
/- impl.FieldsOk -/
def f47l0 : ACode := (.seq (.reg false [⟨some 8, none, .bin .lss .val (.t 7) (.t 6)⟩]) [0, 5, 6, 7, 8]
 (.seq (.cond (.t 8) (.skip) (.exit 0)) [0, 5, 6, 7]
 (.seq (.block 1 (.seq (.reg false [⟨some 9, none, .mv (.t 7)⟩,
  ⟨some 10, none, .iaddr 2 (.t 5) (.t 7)⟩,
  ⟨some 11, none, .load true 2 (.t 10)⟩,
  ⟨some 4, none, .alloc (.d (.agg [(.str []), (.str [])]))⟩,
  ⟨some 3, none, .mv (.t 9)⟩,
  ⟨none, none, .store 2 (.t 4) (.t 11)⟩]) [0, 3, 4, 5, 6, 7]
 (.seq (.reg true [⟨some 12, none, .faddr 0 (.t 4)⟩,
  ⟨some 13, none, .load false 1 (.t 12)⟩,
  ⟨some 14, none, .len true (.t 13)⟩,
  ⟨some 15, none, .bin .gtr .val (.t 14) (.c (.int .i64 (40)))⟩,
  ⟨some 16, none, .mv (.t 15)⟩,
  ⟨some 17, some (16, false), .faddr 1 (.t 4)⟩,
  ⟨some 18, some (16, false), .load false 1 (.t 17)⟩,
  ⟨some 19, some (16, false), .len true (.t 18)⟩,
  ⟨some 20, some (16, false), .bin .gtr .val (.t 19) (.c (.int .i64 (40)))⟩,
  ⟨some 21, none, .pick (.t 16) (.c (.bool true)) (.t 20)⟩,
  ⟨some 22, none, .mv (.t 21)⟩,
  ⟨some 23, some (22, false), .mv (.t 3)⟩,
  ⟨some 24, some (22, false), .bin .gtr .val (.t 23) (.c (.int .i64 (0)))⟩,
  ⟨some 25, some (22, false), .mv (.t 24)⟩,
  ⟨some 26, some (25, true), .mv (.t 0)⟩,
  ⟨some 27, some (25, true), .mv (.t 3)⟩,
  ⟨some 28, some (25, true), .bin .sub .val (.t 27) (.c (.int .i64 (1)))⟩,
  ⟨some 29, some (25, true), .iaddr 2 (.t 26) (.t 28)⟩,
  ⟨some 30, some (25, true), .faddr 0 (.t 29)⟩,
  ⟨some 31, some (25, true), .load false 1 (.t 30)⟩,
  ⟨some 32, some (25, true), .faddr 0 (.t 4)⟩,
  ⟨some 33, some (25, true), .load false 1 (.t 32)⟩,
  ⟨some 34, some (25, true), .bin .geq .val (.t 31) (.t 33)⟩,
  ⟨some 35, some (22, false), .pick (.t 25) (.t 34) (.c (.bool false))⟩,
  ⟨some 36, none, .pick (.t 22) (.c (.bool true)) (.t 35)⟩]) [0, 5, 6, 7, 36]
 (.cond (.t 36) (.seq (.reg false [⟨some 2, none, .mv (.c (.bool false))⟩]) [2]
 (.ret)) (.skip))))) [0, 5, 6, 7]
 (.reg false [⟨some 37, none, .bin .add .val (.t 7) (.c (.int .i64 (1)))⟩,
  ⟨some 7, none, .mv (.t 37)⟩]))))
def f47 : AFunc := { np := 1, nt := 41, res := [.tmp 2], own := false, body := (.seq (.reg false [⟨some 2, none, .mv (.c (.bool false))⟩]) [0]
 (.seq (.seq (.reg false [⟨some 5, none, .mv (.t 0)⟩,
  ⟨some 6, none, .len false (.t 5)⟩,
  ⟨some 7, none, .mv (.c (.int .i64 (0)))⟩]) [0, 5, 6, 7]
 (.block 0 (.loop [0, 5, 6, 7] f47l0))) [0]
 (.seq (.reg false [⟨some 38, none, .mv (.t 0)⟩,
  ⟨some 39, none, .len false (.t 38)⟩,
  ⟨some 40, none, .bin .leq .val (.t 39) (.c (.int .i64 (16)))⟩,
  ⟨some 2, none, .mv (.t 40)⟩]) [2]
 (.ret)))) }
/- impl.bulk -/
def f49 : AFunc := { np := 1, nt := 11, res := [.tmp 2], own := false, body := (.seq (.reg false [⟨some 2, none, .mv (.c (.str []))⟩]) [0]
 (.seq (.reg false [⟨some 3, none, .mv (.t 0)⟩,
  ⟨some 4, none, .len true (.t 3)⟩,
  ⟨some 5, none, .pcall (.f 48) [.t 4]⟩,
  ⟨some 6, none, .bin .add .val (.c (.str [36])) (.t 5)⟩,
  ⟨some 7, none, .bin .add .val (.t 6) (.c (.str [13, 10]))⟩,
  ⟨some 8, none, .mv (.t 0)⟩,
  ⟨some 9, none, .bin .add .val (.t 7) (.t 8)⟩,
  ⟨some 10, none, .bin .add .val (.t 9) (.c (.str [13, 10]))⟩,
  ⟨some 2, none, .mv (.t 10)⟩]) [2]
 (.ret))) }
/- impl.textsOk -/
def f50l0 : ACode := (.seq (.reg false [⟨some 10, none, .bin .lss .val (.t 9) (.t 8)⟩]) [0, 1, 7, 8, 9, 10]
 (.seq (.cond (.t 10) (.skip) (.exit 0)) [0, 1, 7, 8, 9]
 (.seq (.block 1 (.seq (.reg false [⟨some 11, none, .iaddr 1 (.t 7) (.t 9)⟩,
  ⟨some 12, none, .load false 1 (.t 11)⟩,
  ⟨some 6, none, .mv (.t 12)⟩]) [0, 1, 6, 7, 8, 9]
 (.seq (.reg false [⟨some 13, none, .mv (.t 6)⟩,
  ⟨some 14, none, .len true (.t 13)⟩,
  ⟨some 15, none, .bin .gtr .val (.t 14) (.c (.int .i64 (40)))⟩]) [0, 1, 7, 8, 9, 15]
 (.cond (.t 15) (.seq (.reg false [⟨some 4, none, .mv (.c (.bool false))⟩]) [4]
 (.ret)) (.skip))))) [0, 1, 7, 8, 9]
 (.reg false [⟨some 16, none, .bin .add .val (.t 9) (.c (.int .i64 (1)))⟩,
  ⟨some 9, none, .mv (.t 16)⟩]))))
def f50 : AFunc := { np := 2, nt := 21, res := [.tmp 4], own := false, body := (.seq (.reg false [⟨some 4, none, .mv (.c (.bool false))⟩]) [0, 1]
 (.seq (.seq (.reg false [⟨some 7, none, .mv (.t 0)⟩,
  ⟨some 8, none, .len false (.t 7)⟩,
  ⟨some 9, none, .mv (.c (.int .i64 (0)))⟩]) [0, 1, 7, 8, 9]
 (.block 0 (.loop [0, 1, 7, 8, 9] f50l0))) [0, 1]
 (.seq (.reg false [⟨some 17, none, .mv (.t 0)⟩,
  ⟨some 18, none, .len false (.t 17)⟩,
  ⟨some 19, none, .mv (.t 1)⟩,
  ⟨some 20, none, .bin .leq .val (.t 18) (.t 19)⟩,
  ⟨some 4, none, .mv (.t 20)⟩]) [4]
 (.ret)))) }
/- laws.eqStringS -/
def f51l0 : ACode := (.seq (.seq (.reg false [⟨some 11, none, .mv (.t 5)⟩,
  ⟨some 12, none, .mv (.t 0)⟩,
  ⟨some 13, none, .len false (.t 12)⟩,
  ⟨some 14, none, .bin .lss .val (.t 11) (.t 13)⟩]) [0, 1, 5, 14]
 (.cond (.t 14) (.skip) (.exit 0))) [0, 1, 5]
 (.seq (.block 1 (.seq (.reg true [⟨some 17, none, .mv (.t 0)⟩,
  ⟨some 18, none, .mv (.t 5)⟩,
  ⟨some 19, none, .iaddr 1 (.t 17) (.t 18)⟩,
  ⟨some 20, none, .load false 1 (.t 19)⟩,
  ⟨some 21, none, .mv (.t 1)⟩,
  ⟨some 22, none, .mv (.t 5)⟩,
  ⟨some 23, none, .iaddr 1 (.t 21) (.t 22)⟩,
  ⟨some 24, none, .load false 1 (.t 23)⟩,
  ⟨some 25, none, .bin .neq .val (.t 20) (.t 24)⟩]) [0, 1, 5, 25]
 (.cond (.t 25) (.seq (.reg false [⟨some 4, none, .mv (.c (.bool false))⟩]) [4]
 (.ret)) (.skip)))) [0, 1, 5]
 (.reg false [⟨some 15, none, .mv (.t 5)⟩,
  ⟨some 16, none, .bin .add .val (.t 15) (.c (.int .i64 (1)))⟩,
  ⟨some 5, none, .mv (.t 16)⟩])))
def f51 : AFunc := { np := 2, nt := 26, res := [.tmp 4], own := false, body := (.seq (.reg false [⟨some 4, none, .mv (.c (.bool false))⟩]) [0, 1]
 (.seq (.seq (.reg false [⟨some 6, none, .mv (.t 0)⟩,
  ⟨some 7, none, .len false (.t 6)⟩,
  ⟨some 8, none, .mv (.t 1)⟩,
  ⟨some 9, none, .len false (.t 8)⟩,
  ⟨some 10, none, .bin .neq .val (.t 7) (.t 9)⟩]) [0, 1, 10]
 (.cond (.t 10) (.seq (.reg false [⟨some 4, none, .mv (.c (.bool false))⟩]) [4]
 (.ret)) (.skip))) [0, 1]
 (.seq (.seq (.reg false [⟨some 5, none, .mv (.c (.int .i64 (0)))⟩]) [0, 1, 5]
 (.block 0 (.loop [0, 1, 5] f51l0))) []
 (.seq (.reg false [⟨some 4, none, .mv (.c (.bool true))⟩]) [4]
 (.ret))))) }
/- laws.eqScoreS -/
def f52l0 : ACode := (.seq (.seq (.reg false [⟨some 11, none, .mv (.t 5)⟩,
  ⟨some 12, none, .mv (.t 0)⟩,
  ⟨some 13, none, .len false (.t 12)⟩,
  ⟨some 14, none, .bin .lss .val (.t 11) (.t 13)⟩]) [0, 1, 5, 14]
 (.cond (.t 14) (.skip) (.exit 0))) [0, 1, 5]
 (.seq (.block 1 (.seq (.reg true [⟨some 17, none, .mv (.t 0)⟩,
  ⟨some 18, none, .mv (.t 5)⟩,
  ⟨some 19, none, .iaddr 2 (.t 17) (.t 18)⟩,
  ⟨some 20, none, .load true 2 (.t 19)⟩,
  ⟨some 21, none, .mv (.t 1)⟩,
  ⟨some 22, none, .mv (.t 5)⟩,
  ⟨some 23, none, .iaddr 2 (.t 21) (.t 22)⟩,
  ⟨some 24, none, .load true 2 (.t 23)⟩,
  ⟨some 25, none, .pcall (.f 63) [.t 20, .t 24]⟩,
  ⟨some 26, none, .un .not (.t 25)⟩]) [0, 1, 5, 26]
 (.cond (.t 26) (.seq (.reg false [⟨some 4, none, .mv (.c (.bool false))⟩]) [4]
 (.ret)) (.skip)))) [0, 1, 5]
 (.reg false [⟨some 15, none, .mv (.t 5)⟩,
  ⟨some 16, none, .bin .add .val (.t 15) (.c (.int .i64 (1)))⟩,
  ⟨some 5, none, .mv (.t 16)⟩])))
def f52 : AFunc := { np := 2, nt := 27, res := [.tmp 4], own := false, body := (.seq (.reg false [⟨some 4, none, .mv (.c (.bool false))⟩]) [0, 1]
 (.seq (.seq (.reg false [⟨some 6, none, .mv (.t 0)⟩,
  ⟨some 7, none, .len false (.t 6)⟩,
  ⟨some 8, none, .mv (.t 1)⟩,
  ⟨some 9, none, .len false (.t 8)⟩,
  ⟨some 10, none, .bin .neq .val (.t 7) (.t 9)⟩]) [0, 1, 10]
 (.cond (.t 10) (.seq (.reg false [⟨some 4, none, .mv (.c (.bool false))⟩]) [4]
 (.ret)) (.skip))) [0, 1]
 (.seq (.seq (.reg false [⟨some 5, none, .mv (.c (.int .i64 (0)))⟩]) [0, 1, 5]
 (.block 0 (.loop [0, 1, 5] f52l0))) []
 (.seq (.reg false [⟨some 4, none, .mv (.c (.bool true))⟩]) [4]
 (.ret))))) }
/- laws.eqPairS -/
def f53l0 : ACode := (.seq (.seq (.reg false [⟨some 11, none, .mv (.t 5)⟩,
  ⟨some 12, none, .mv (.t 0)⟩,
  ⟨some 13, none, .len false (.t 12)⟩,
  ⟨some 14, none, .bin .lss .val (.t 11) (.t 13)⟩]) [0, 1, 5, 14]
 (.cond (.t 14) (.skip) (.exit 0))) [0, 1, 5]
 (.seq (.block 1 (.seq (.reg true [⟨some 17, none, .mv (.t 0)⟩,
  ⟨some 18, none, .mv (.t 5)⟩,
  ⟨some 19, none, .iaddr 2 (.t 17) (.t 18)⟩,
  ⟨some 20, none, .load true 2 (.t 19)⟩,
  ⟨some 21, none, .mv (.t 1)⟩,
  ⟨some 22, none, .mv (.t 5)⟩,
  ⟨some 23, none, .iaddr 2 (.t 21) (.t 22)⟩,
  ⟨some 24, none, .load true 2 (.t 23)⟩,
  ⟨some 25, none, .pcall (.f 64) [.t 20, .t 24]⟩,
  ⟨some 26, none, .un .not (.t 25)⟩]) [0, 1, 5, 26]
 (.cond (.t 26) (.seq (.reg false [⟨some 4, none, .mv (.c (.bool false))⟩]) [4]
 (.ret)) (.skip)))) [0, 1, 5]
 (.reg false [⟨some 15, none, .mv (.t 5)⟩,
  ⟨some 16, none, .bin .add .val (.t 15) (.c (.int .i64 (1)))⟩,
  ⟨some 5, none, .mv (.t 16)⟩])))
def f53 : AFunc := { np := 2, nt := 27, res := [.tmp 4], own := false, body := (.seq (.reg false [⟨some 4, none, .mv (.c (.bool false))⟩]) [0, 1]
 (.seq (.seq (.reg false [⟨some 6, none, .mv (.t 0)⟩,
  ⟨some 7, none, .len false (.t 6)⟩,
  ⟨some 8, none, .mv (.t 1)⟩,
  ⟨some 9, none, .len false (.t 8)⟩,
  ⟨some 10, none, .bin .neq .val (.t 7) (.t 9)⟩]) [0, 1, 10]
 (.cond (.t 10) (.seq (.reg false [⟨some 4, none, .mv (.c (.bool false))⟩]) [4]
 (.ret)) (.skip))) [0, 1]
 (.seq (.seq (.reg false [⟨some 5, none, .mv (.c (.int .i64 (0)))⟩]) [0, 1, 5]
 (.block 0 (.loop [0, 1, 5] f53l0))) []
 (.seq (.reg false [⟨some 4, none, .mv (.c (.bool true))⟩]) [4]
 (.ret))))) }
/- laws.szScore -/
def f54 : AFunc := { np := 2, nt := 13, res := [.tmp 4], own := false, body := (.seq (.reg false [⟨some 2, none, .box (.t 0)⟩,
  ⟨some 4, none, .mv (.c (.int .i64 (0)))⟩]) [1, 2]
 (.seq (.reg false [⟨some 5, none, .mv (.t 1)⟩,
  ⟨some 6, none, .faddr 0 (.t 2)⟩,
  ⟨some 7, none, .load false 1 (.t 6)⟩,
  ⟨some 8, none, .len true (.t 7)⟩,
  ⟨some 9, none, .bin .sub .val (.t 5) (.t 8)⟩,
  ⟨some 1, none, .mv (.t 9)⟩]) [1]
 (.seq (.seq (.reg false [⟨some 10, none, .mv (.t 1)⟩,
  ⟨some 11, none, .bin .lss .val (.t 10) (.c (.int .i64 (0)))⟩]) [1, 11]
 (.cond (.t 11) (.seq (.reg false [⟨some 4, none, .mv (.c (.int .i64 (-1)))⟩]) [4]
 (.ret)) (.skip))) [1]
 (.seq (.reg false [⟨some 12, none, .mv (.t 1)⟩,
  ⟨some 4, none, .mv (.t 12)⟩]) [4]
 (.ret))))) }
/- laws.szPair -/
def f55 : AFunc := { np := 2, nt := 20, res := [.tmp 4], own := false, body := (.seq (.reg false [⟨some 2, none, .box (.t 0)⟩,
  ⟨some 4, none, .mv (.c (.int .i64 (0)))⟩]) [1, 2]
 (.seq (.reg false [⟨some 5, none, .mv (.t 1)⟩,
  ⟨some 6, none, .faddr 0 (.t 2)⟩,
  ⟨some 7, none, .load false 1 (.t 6)⟩,
  ⟨some 8, none, .len true (.t 7)⟩,
  ⟨some 9, none, .bin .sub .val (.t 5) (.t 8)⟩,
  ⟨some 1, none, .mv (.t 9)⟩]) [1, 2]
 (.seq (.seq (.reg false [⟨some 10, none, .mv (.t 1)⟩,
  ⟨some 11, none, .bin .lss .val (.t 10) (.c (.int .i64 (0)))⟩]) [1, 2, 11]
 (.cond (.t 11) (.seq (.reg false [⟨some 4, none, .mv (.c (.int .i64 (-1)))⟩]) [4]
 (.ret)) (.skip))) [1, 2]
 (.seq (.reg false [⟨some 12, none, .mv (.t 1)⟩,
  ⟨some 13, none, .faddr 1 (.t 2)⟩,
  ⟨some 14, none, .load false 1 (.t 13)⟩,
  ⟨some 15, none, .len true (.t 14)⟩,
  ⟨some 16, none, .bin .sub .val (.t 12) (.t 15)⟩,
  ⟨some 1, none, .mv (.t 16)⟩]) [1]
 (.seq (.seq (.reg false [⟨some 17, none, .mv (.t 1)⟩,
  ⟨some 18, none, .bin .lss .val (.t 17) (.c (.int .i64 (0)))⟩]) [1, 18]
 (.cond (.t 18) (.seq (.reg false [⟨some 4, none, .mv (.c (.int .i64 (-1)))⟩]) [4]
 (.ret)) (.skip))) [1]
 (.seq (.reg false [⟨some 19, none, .mv (.t 1)⟩,
  ⟨some 4, none, .mv (.t 19)⟩]) [4]
 (.ret))))))) }
/- spec.l3Ahead -/
def f56 : AFunc := { np := 2, nt := 24, res := [.tmp 4], own := false, body := (.seq (.reg false [⟨some 2, none, .box (.t 0)⟩,
  ⟨some 3, none, .box (.t 1)⟩,
  ⟨some 4, none, .mv (.c (.bool false))⟩]) [2, 3]
 (.seq (.reg false [⟨some 5, none, .faddr 1 (.t 2)⟩,
  ⟨some 6, none, .load false 1 (.t 5)⟩,
  ⟨some 7, none, .faddr 1 (.t 3)⟩,
  ⟨some 8, none, .load false 1 (.t 7)⟩,
  ⟨some 9, none, .bin .lss .val (.t 6) (.t 8)⟩,
  ⟨some 10, none, .mv (.t 9)⟩,
  ⟨some 11, some (10, false), .faddr 1 (.t 2)⟩,
  ⟨some 12, some (10, false), .load false 1 (.t 11)⟩,
  ⟨some 13, some (10, false), .faddr 1 (.t 3)⟩,
  ⟨some 14, some (10, false), .load false 1 (.t 13)⟩,
  ⟨some 15, some (10, false), .bin .eql .val (.t 12) (.t 14)⟩,
  ⟨some 16, some (10, false), .mv (.t 15)⟩,
  ⟨some 17, some (16, true), .faddr 0 (.t 2)⟩,
  ⟨some 18, some (16, true), .load false 1 (.t 17)⟩,
  ⟨some 19, some (16, true), .faddr 0 (.t 3)⟩,
  ⟨some 20, some (16, true), .load false 1 (.t 19)⟩,
  ⟨some 21, some (16, true), .bin .lss .val (.t 18) (.t 20)⟩,
  ⟨some 22, some (10, false), .pick (.t 16) (.t 21) (.c (.bool false))⟩,
  ⟨some 23, none, .pick (.t 10) (.c (.bool true)) (.t 22)⟩,
  ⟨some 4, none, .mv (.t 23)⟩]) [4]
 (.ret))) }
/- laws.toScore -/
def f57 : AFunc := { np := 1, nt := 11, res := [.cell 2 true 2], own := false, body := (.seq (.reg false [⟨some 1, none, .box (.t 0)⟩,
  ⟨some 2, none, .alloc (.d (.agg [(.str []), (.int .i64 (0))]))⟩]) [1, 2]
 (.seq (.reg false [⟨some 3, none, .alloc (.d (.agg [(.str []), (.int .i64 (0))]))⟩]) [1, 2, 3]
 (.seq (.reg false [⟨some 4, none, .faddr 0 (.t 1)⟩,
  ⟨some 5, none, .load false 1 (.t 4)⟩,
  ⟨some 6, none, .faddr 0 (.t 3)⟩,
  ⟨none, none, .store 1 (.t 6) (.t 5)⟩]) [1, 2, 3]
 (.seq (.reg false [⟨some 7, none, .faddr 1 (.t 1)⟩,
  ⟨some 8, none, .load false 1 (.t 7)⟩,
  ⟨some 9, none, .faddr 1 (.t 3)⟩,
  ⟨none, none, .store 1 (.t 9) (.t 8)⟩]) [2, 3]
 (.seq (.reg false [⟨some 10, none, .load true 2 (.t 3)⟩,
  ⟨none, none, .store 2 (.t 2) (.t 10)⟩]) [2]
 (.ret)))))) }
/- laws.toPair -/
def f58 : AFunc := { np := 1, nt := 11, res := [.cell 2 true 2], own := false, body := (.seq (.reg false [⟨some 1, none, .box (.t 0)⟩,
  ⟨some 2, none, .alloc (.d (.agg [(.str []), (.str [])]))⟩]) [1, 2]
 (.seq (.reg false [⟨some 3, none, .alloc (.d (.agg [(.str []), (.str [])]))⟩]) [1, 2, 3]
 (.seq (.reg false [⟨some 4, none, .faddr 0 (.t 1)⟩,
  ⟨some 5, none, .load false 1 (.t 4)⟩,
  ⟨some 6, none, .faddr 0 (.t 3)⟩,
  ⟨none, none, .store 1 (.t 6) (.t 5)⟩]) [1, 2, 3]
 (.seq (.reg false [⟨some 7, none, .faddr 1 (.t 1)⟩,
  ⟨some 8, none, .load false 1 (.t 7)⟩,
  ⟨some 9, none, .faddr 1 (.t 3)⟩,
  ⟨none, none, .store 1 (.t 9) (.t 8)⟩]) [2, 3]
 (.seq (.reg false [⟨some 10, none, .load true 2 (.t 3)⟩,
  ⟨none, none, .store 2 (.t 2) (.t 10)⟩]) [2]
 (.ret)))))) }
/- impl.position -/
def f59 : AFunc := { np := 1, nt := 5, res := [.tmp 2], own := false, body := (.seq (.reg false [⟨some 2, none, .mv (.c (.bool false))⟩]) [0]
 (.seq (.reg false [⟨some 3, none, .mv (.t 0)⟩,
  ⟨some 4, none, .pcall (.f 25) [.t 3, .c (.int .i64 (-1000000000)), .c (.int .i64 (1000000000))]⟩,
  ⟨some 2, none, .mv (.t 4)⟩]) [2]
 (.ret))) }
/- impl.scoreOrder -/
def f60 : AFunc := { np := 2, nt := 17, res := [.tmp 4], own := false, body := (.seq (.reg false [⟨some 2, none, .box (.t 0)⟩,
  ⟨some 3, none, .box (.t 1)⟩,
  ⟨some 4, none, .mv (.c (.int .i64 (0)))⟩]) [2, 3]
 (.seq (.reg true [⟨some 5, none, .faddr 1 (.t 2)⟩,
  ⟨some 6, none, .load false 1 (.t 5)⟩,
  ⟨some 7, none, .faddr 1 (.t 3)⟩,
  ⟨some 8, none, .load false 1 (.t 7)⟩,
  ⟨some 9, none, .pcall (.f 66) [.t 6, .t 8]⟩,
  ⟨some 10, none, .faddr 0 (.t 2)⟩,
  ⟨some 11, none, .load false 1 (.t 10)⟩,
  ⟨some 12, none, .faddr 0 (.t 3)⟩,
  ⟨some 13, none, .load false 1 (.t 12)⟩,
  ⟨some 14, none, .pcall (.f 67) [.t 11, .t 13]⟩,
  ⟨some 15, none, .lit false 1 [.t 9, .t 14]⟩,
  ⟨some 16, none, .pcall (.f 65) [.t 15]⟩,
  ⟨some 4, none, .mv (.t 16)⟩]) [4]
 (.ret))) }
/- impl.scoreAt -/
def f61 : AFunc := { np := 2, nt := 8, res := [.tmp 4], own := false, body := (.seq (.reg false [⟨some 3, none, .box (.t 1)⟩,
  ⟨some 4, none, .mv (.c (.int .i64 (0)))⟩]) [0, 3]
 (.seq (.reg false [⟨some 5, none, .mv (.t 0)⟩,
  ⟨some 6, none, .mkfn (.func 69) [.t 3]⟩,
  ⟨some 7, none, .pcall (.f 68) [.t 5, .t 6]⟩,
  ⟨some 4, none, .mv (.t 7)⟩]) [4]
 (.ret))) }
/- laws.eqScore -/
def f63 : AFunc := { np := 2, nt := 15, res := [.tmp 4], own := false, body := (.seq (.reg false [⟨some 2, none, .box (.t 0)⟩,
  ⟨some 3, none, .box (.t 1)⟩,
  ⟨some 4, none, .mv (.c (.bool false))⟩]) [2, 3]
 (.seq (.seq (.reg false [⟨some 5, none, .faddr 0 (.t 2)⟩,
  ⟨some 6, none, .load false 1 (.t 5)⟩,
  ⟨some 7, none, .faddr 0 (.t 3)⟩,
  ⟨some 8, none, .load false 1 (.t 7)⟩,
  ⟨some 9, none, .bin .neq .val (.t 6) (.t 8)⟩]) [2, 3, 9]
 (.cond (.t 9) (.seq (.reg false [⟨some 4, none, .mv (.c (.bool false))⟩]) [4]
 (.ret)) (.skip))) [2, 3]
 (.seq (.seq (.reg false [⟨some 10, none, .faddr 1 (.t 2)⟩,
  ⟨some 11, none, .load false 1 (.t 10)⟩,
  ⟨some 12, none, .faddr 1 (.t 3)⟩,
  ⟨some 13, none, .load false 1 (.t 12)⟩,
  ⟨some 14, none, .bin .neq .val (.t 11) (.t 13)⟩]) [14]
 (.cond (.t 14) (.seq (.reg false [⟨some 4, none, .mv (.c (.bool false))⟩]) [4]
 (.ret)) (.skip))) []
 (.seq (.reg false [⟨some 4, none, .mv (.c (.bool true))⟩]) [4]
 (.ret))))) }
/- laws.eqPair -/
def f64 : AFunc := { np := 2, nt := 15, res := [.tmp 4], own := false, body := (.seq (.reg false [⟨some 2, none, .box (.t 0)⟩,
  ⟨some 3, none, .box (.t 1)⟩,
  ⟨some 4, none, .mv (.c (.bool false))⟩]) [2, 3]
 (.seq (.seq (.reg false [⟨some 5, none, .faddr 0 (.t 2)⟩,
  ⟨some 6, none, .load false 1 (.t 5)⟩,
  ⟨some 7, none, .faddr 0 (.t 3)⟩,
  ⟨some 8, none, .load false 1 (.t 7)⟩,
  ⟨some 9, none, .bin .neq .val (.t 6) (.t 8)⟩]) [2, 3, 9]
 (.cond (.t 9) (.seq (.reg false [⟨some 4, none, .mv (.c (.bool false))⟩]) [4]
 (.ret)) (.skip))) [2, 3]
 (.seq (.seq (.reg false [⟨some 10, none, .faddr 1 (.t 2)⟩,
  ⟨some 11, none, .load false 1 (.t 10)⟩,
  ⟨some 12, none, .faddr 1 (.t 3)⟩,
  ⟨some 13, none, .load false 1 (.t 12)⟩,
  ⟨some 14, none, .bin .neq .val (.t 11) (.t 13)⟩]) [14]
 (.cond (.t 14) (.seq (.reg false [⟨some 4, none, .mv (.c (.bool false))⟩]) [4]
 (.ret)) (.skip))) []
 (.seq (.reg false [⟨some 4, none, .mv (.c (.bool true))⟩]) [4]
 (.ret))))) }
/- cmp.Or[int] -/
def f65l0 : ACode := (.seq (.reg false [⟨some 9, none, .bin .lss .val (.t 8) (.t 7)⟩]) [3, 6, 7, 8, 9]
 (.seq (.cond (.t 9) (.skip) (.exit 0)) [3, 6, 7, 8]
 (.seq (.block 1 (.seq (.reg false [⟨some 10, none, .iaddr 1 (.t 6) (.t 8)⟩,
  ⟨some 11, none, .load false 1 (.t 10)⟩,
  ⟨some 5, none, .mv (.t 11)⟩]) [3, 5, 6, 7, 8]
 (.seq (.reg false [⟨some 12, none, .mv (.t 5)⟩,
  ⟨some 13, none, .mv (.t 3)⟩,
  ⟨some 14, none, .bin .neq .val (.t 12) (.t 13)⟩]) [3, 5, 6, 7, 8, 14]
 (.cond (.t 14) (.seq (.reg false [⟨some 15, none, .mv (.t 5)⟩,
  ⟨some 2, none, .mv (.t 15)⟩]) [2]
 (.ret)) (.skip))))) [3, 6, 7, 8]
 (.reg false [⟨some 16, none, .bin .add .val (.t 8) (.c (.int .i64 (1)))⟩,
  ⟨some 8, none, .mv (.t 16)⟩]))))
def f65 : AFunc := { np := 1, nt := 18, res := [.tmp 2], own := false, body := (.seq (.reg false [⟨some 2, none, .mv (.c (.int .i64 (0)))⟩]) [0]
 (.seq (.reg false [⟨some 3, none, .mv (.c (.int .i64 (0)))⟩]) [0, 3]
 (.seq (.seq (.reg false [⟨some 6, none, .mv (.t 0)⟩,
  ⟨some 7, none, .len false (.t 6)⟩,
  ⟨some 8, none, .mv (.c (.int .i64 (0)))⟩]) [3, 6, 7, 8]
 (.block 0 (.loop [3, 6, 7, 8] f65l0))) [3]
 (.seq (.reg false [⟨some 17, none, .mv (.t 3)⟩,
  ⟨some 2, none, .mv (.t 17)⟩]) [2]
 (.ret))))) }
/- cmp.Compare[int] -/
def f66 : AFunc := { np := 2, nt := 20, res := [.tmp 4], own := false, body := (.seq (.reg false [⟨some 4, none, .mv (.c (.int .i64 (0)))⟩]) [0, 1]
 (.seq (.reg false [⟨some 7, none, .mv (.t 0)⟩,
  ⟨some 8, none, .pcall (.f 71) [.t 7]⟩,
  ⟨some 5, none, .mv (.t 8)⟩]) [0, 1, 5]
 (.seq (.reg false [⟨some 9, none, .mv (.t 1)⟩,
  ⟨some 10, none, .pcall (.f 71) [.t 9]⟩,
  ⟨some 6, none, .mv (.t 10)⟩]) [0, 1, 5, 6]
 (.seq (.seq (.reg false [⟨some 11, none, .mv (.t 5)⟩]) [0, 1, 6, 11]
 (.cond (.t 11) (.seq (.seq (.reg false [⟨some 12, none, .mv (.t 6)⟩]) [12]
 (.cond (.t 12) (.seq (.reg false [⟨some 4, none, .mv (.c (.int .i64 (0)))⟩]) [4]
 (.ret)) (.skip))) []
 (.seq (.reg false [⟨some 4, none, .mv (.c (.int .i64 (-1)))⟩]) [4]
 (.ret))) (.skip))) [0, 1, 6]
 (.seq (.seq (.reg false [⟨some 13, none, .mv (.t 6)⟩]) [0, 1, 13]
 (.cond (.t 13) (.seq (.reg false [⟨some 4, none, .mv (.c (.int .i64 (1)))⟩]) [4]
 (.ret)) (.skip))) [0, 1]
 (.seq (.seq (.reg false [⟨some 14, none, .mv (.t 0)⟩,
  ⟨some 15, none, .mv (.t 1)⟩,
  ⟨some 16, none, .bin .lss .val (.t 14) (.t 15)⟩]) [0, 1, 16]
 (.cond (.t 16) (.seq (.reg false [⟨some 4, none, .mv (.c (.int .i64 (-1)))⟩]) [4]
 (.ret)) (.skip))) [0, 1]
 (.seq (.seq (.reg false [⟨some 17, none, .mv (.t 0)⟩,
  ⟨some 18, none, .mv (.t 1)⟩,
  ⟨some 19, none, .bin .gtr .val (.t 17) (.t 18)⟩]) [19]
 (.cond (.t 19) (.seq (.reg false [⟨some 4, none, .mv (.c (.int .i64 (1)))⟩]) [4]
 (.ret)) (.skip))) []
 (.seq (.reg false [⟨some 4, none, .mv (.c (.int .i64 (0)))⟩]) [4]
 (.ret))))))))) }
/- cmp.Compare[string] -/
def f67 : AFunc := { np := 2, nt := 20, res := [.tmp 4], own := false, body := (.seq (.reg false [⟨some 4, none, .mv (.c (.int .i64 (0)))⟩]) [0, 1]
 (.seq (.reg false [⟨some 7, none, .mv (.t 0)⟩,
  ⟨some 8, none, .pcall (.f 72) [.t 7]⟩,
  ⟨some 5, none, .mv (.t 8)⟩]) [0, 1, 5]
 (.seq (.reg false [⟨some 9, none, .mv (.t 1)⟩,
  ⟨some 10, none, .pcall (.f 72) [.t 9]⟩,
  ⟨some 6, none, .mv (.t 10)⟩]) [0, 1, 5, 6]
 (.seq (.seq (.reg false [⟨some 11, none, .mv (.t 5)⟩]) [0, 1, 6, 11]
 (.cond (.t 11) (.seq (.seq (.reg false [⟨some 12, none, .mv (.t 6)⟩]) [12]
 (.cond (.t 12) (.seq (.reg false [⟨some 4, none, .mv (.c (.int .i64 (0)))⟩]) [4]
 (.ret)) (.skip))) []
 (.seq (.reg false [⟨some 4, none, .mv (.c (.int .i64 (-1)))⟩]) [4]
 (.ret))) (.skip))) [0, 1, 6]
 (.seq (.seq (.reg false [⟨some 13, none, .mv (.t 6)⟩]) [0, 1, 13]
 (.cond (.t 13) (.seq (.reg false [⟨some 4, none, .mv (.c (.int .i64 (1)))⟩]) [4]
 (.ret)) (.skip))) [0, 1]
 (.seq (.seq (.reg false [⟨some 14, none, .mv (.t 0)⟩,
  ⟨some 15, none, .mv (.t 1)⟩,
  ⟨some 16, none, .bin .lss .val (.t 14) (.t 15)⟩]) [0, 1, 16]
 (.cond (.t 16) (.seq (.reg false [⟨some 4, none, .mv (.c (.int .i64 (-1)))⟩]) [4]
 (.ret)) (.skip))) [0, 1]
 (.seq (.seq (.reg false [⟨some 17, none, .mv (.t 0)⟩,
  ⟨some 18, none, .mv (.t 1)⟩,
  ⟨some 19, none, .bin .gtr .val (.t 17) (.t 18)⟩]) [19]
 (.cond (.t 19) (.seq (.reg false [⟨some 4, none, .mv (.c (.int .i64 (1)))⟩]) [4]
 (.ret)) (.skip))) []
 (.seq (.reg false [⟨some 4, none, .mv (.c (.int .i64 (0)))⟩]) [4]
 (.ret))))))))) }
/- impl.Score] -/
def f68l0 : ACode := (.seq (.reg false [⟨some 9, none, .bin .lss .val (.t 8) (.t 7)⟩]) [0, 1, 7, 8, 9]
 (.seq (.cond (.t 9) (.skip) (.exit 0)) [0, 1, 7, 8]
 (.seq (.block 1 (.seq (.reg false [⟨some 10, none, .mv (.t 8)⟩,
  ⟨some 5, none, .mv (.t 10)⟩]) [0, 1, 5, 7, 8]
 (.seq (.reg false [⟨some 11, none, .mv (.t 1)⟩,
  ⟨some 12, none, .mv (.t 0)⟩,
  ⟨some 13, none, .mv (.t 5)⟩,
  ⟨some 14, none, .iaddr 2 (.t 12) (.t 13)⟩,
  ⟨some 15, none, .load true 2 (.t 14)⟩,
  ⟨some 16, none, .pcall (.t 11) [.t 15]⟩]) [0, 1, 5, 7, 8, 16]
 (.cond (.t 16) (.seq (.reg false [⟨some 17, none, .mv (.t 5)⟩,
  ⟨some 4, none, .mv (.t 17)⟩]) [4]
 (.ret)) (.skip))))) [0, 1, 7, 8]
 (.reg false [⟨some 18, none, .bin .add .val (.t 8) (.c (.int .i64 (1)))⟩,
  ⟨some 8, none, .mv (.t 18)⟩]))))
def f68 : AFunc := { np := 2, nt := 19, res := [.tmp 4], own := false, body := (.seq (.reg false [⟨some 4, none, .mv (.c (.int .i64 (0)))⟩]) [0, 1]
 (.seq (.seq (.reg false [⟨some 6, none, .mv (.t 0)⟩,
  ⟨some 7, none, .len false (.t 6)⟩,
  ⟨some 8, none, .mv (.c (.int .i64 (0)))⟩]) [0, 1, 7, 8]
 (.block 0 (.loop [0, 1, 7, 8] f68l0))) []
 (.seq (.reg false [⟨some 4, none, .mv (.c (.int .i64 (-1)))⟩]) [4]
 (.ret)))) }
/- impl.scoreAt$1 -/
def f69 : AFunc := { np := 2, nt := 8, res := [.tmp 3], own := false, body := (.seq (.reg false [⟨some 2, none, .box (.t 0)⟩,
  ⟨some 3, none, .mv (.c (.bool false))⟩]) [1, 2]
 (.seq (.reg false [⟨some 4, none, .faddr 0 (.t 2)⟩,
  ⟨some 5, none, .load false 1 (.t 4)⟩,
  ⟨some 6, none, .load false 1 (.t 1)⟩,
  ⟨some 7, none, .bin .eql .val (.t 5) (.t 6)⟩,
  ⟨some 3, none, .mv (.t 7)⟩]) [3]
 (.ret))) }
/- cmp.isNaN[int] -/
def f71 : AFunc := { np := 1, nt := 6, res := [.tmp 2], own := false, body := (.seq (.reg false [⟨some 2, none, .mv (.c (.bool false))⟩]) [0]
 (.seq (.reg false [⟨some 3, none, .mv (.t 0)⟩,
  ⟨some 4, none, .mv (.t 0)⟩,
  ⟨some 5, none, .bin .neq .val (.t 3) (.t 4)⟩,
  ⟨some 2, none, .mv (.t 5)⟩]) [2]
 (.ret))) }
/- cmp.isNaN[string] -/
def f72 : AFunc := { np := 1, nt := 6, res := [.tmp 2], own := false, body := (.seq (.reg false [⟨some 2, none, .mv (.c (.bool false))⟩]) [0]
 (.seq (.reg false [⟨some 3, none, .mv (.t 0)⟩,
  ⟨some 4, none, .mv (.t 0)⟩,
  ⟨some 5, none, .bin .neq .val (.t 3) (.t 4)⟩,
  ⟨some 2, none, .mv (.t 5)⟩]) [2]
 (.ret))) }
def tab : List (Nat × AFunc) := [(3, f3), (4, f4), (5, f5), (6, f6), (7, f7), (8, f8), (9, f9), (10, f10), (11, f11), (12, f12), (13, f13), (14, f14), (15, f15), (16, f16), (17, f17), (18, f18), (19, f19), (20, f20), (21, f21), (22, f22), (23, f23), (24, f24), (25, f25), (26, f26), (27, f27), (28, f28), (29, f29), (30, f30), (31, f31), (32, f32), (33, f33), (34, f34), (35, f35), (36, f36), (37, f37), (38, f38), (39, f39), (40, f40), (41, f41), (42, f42), (43, f43), (44, f44), (45, f45), (46, f46), (47, f47), (49, f49), (50, f50), (51, f51), (52, f52), (53, f53), (54, f54), (55, f55), (56, f56), (57, f57), (58, f58), (59, f59), (60, f60), (61, f61), (63, f63), (64, f64), (65, f65), (66, f66), (67, f67), (68, f68), (69, f69), (71, f71), (72, f72)]
theorem ok3 : chkFunc Tryd.prog Tryd.f3 f3 = true := by kernel_rfl
theorem ok4 : chkFunc Tryd.prog Tryd.f4 f4 = true := by kernel_rfl
theorem ok5 : chkFunc Tryd.prog Tryd.f5 f5 = true := by kernel_rfl
theorem ok6 : chkFunc Tryd.prog Tryd.f6 f6 = true := by kernel_rfl
theorem ok7 : chkFunc Tryd.prog Tryd.f7 f7 = true := by kernel_rfl
theorem ok8 : chkFunc Tryd.prog Tryd.f8 f8 = true := by kernel_rfl
theorem ok9 : chkFunc Tryd.prog Tryd.f9 f9 = true := by kernel_rfl
theorem ok10 : chkFunc Tryd.prog Tryd.f10 f10 = true := by kernel_rfl
theorem ok11 : chkFunc Tryd.prog Tryd.f11 f11 = true := by kernel_rfl
theorem ok12 : chkFunc Tryd.prog Tryd.f12 f12 = true := by kernel_rfl
theorem ok13 : chkFunc Tryd.prog Tryd.f13 f13 = true := by kernel_rfl
theorem ok14 : chkFunc Tryd.prog Tryd.f14 f14 = true := by kernel_rfl
theorem ok15 : chkFunc Tryd.prog Tryd.f15 f15 = true := by kernel_rfl
theorem ok16 : chkFunc Tryd.prog Tryd.f16 f16 = true := by kernel_rfl
theorem ok17 : chkFunc Tryd.prog Tryd.f17 f17 = true := by kernel_rfl
theorem ok18 : chkFunc Tryd.prog Tryd.f18 f18 = true := by kernel_rfl
theorem ok19 : chkFunc Tryd.prog Tryd.f19 f19 = true := by kernel_rfl
theorem ok20 : chkFunc Tryd.prog Tryd.f20 f20 = true := by kernel_rfl
theorem ok21 : chkFunc Tryd.prog Tryd.f21 f21 = true := by kernel_rfl
theorem ok22 : chkFunc Tryd.prog Tryd.f22 f22 = true := by kernel_rfl
theorem ok23 : chkFunc Tryd.prog Tryd.f23 f23 = true := by kernel_rfl
theorem ok24 : chkFunc Tryd.prog Tryd.f24 f24 = true := by kernel_rfl
theorem ok25 : chkFunc Tryd.prog Tryd.f25 f25 = true := by kernel_rfl
theorem ok26 : chkFunc Tryd.prog Tryd.f26 f26 = true := by kernel_rfl
theorem ok27 : chkFunc Tryd.prog Tryd.f27 f27 = true := by kernel_rfl
theorem ok28 : chkFunc Tryd.prog Tryd.f28 f28 = true := by kernel_rfl
theorem ok29 : chkFunc Tryd.prog Tryd.f29 f29 = true := by kernel_rfl
theorem ok30 : chkFunc Tryd.prog Tryd.f30 f30 = true := by kernel_rfl
theorem ok31 : chkFunc Tryd.prog Tryd.f31 f31 = true := by kernel_rfl
theorem ok32 : chkFunc Tryd.prog Tryd.f32 f32 = true := by kernel_rfl
theorem ok33 : chkFunc Tryd.prog Tryd.f33 f33 = true := by kernel_rfl
theorem ok34 : chkFunc Tryd.prog Tryd.f34 f34 = true := by kernel_rfl
theorem ok35 : chkFunc Tryd.prog Tryd.f35 f35 = true := by kernel_rfl
theorem ok36 : chkFunc Tryd.prog Tryd.f36 f36 = true := by kernel_rfl
theorem ok37 : chkFunc Tryd.prog Tryd.f37 f37 = true := by kernel_rfl
theorem ok38 : chkFunc Tryd.prog Tryd.f38 f38 = true := by kernel_rfl
theorem ok39 : chkFunc Tryd.prog Tryd.f39 f39 = true := by kernel_rfl
theorem ok40 : chkFunc Tryd.prog Tryd.f40 f40 = true := by kernel_rfl
theorem ok41 : chkFunc Tryd.prog Tryd.f41 f41 = true := by kernel_rfl
theorem ok42 : chkFunc Tryd.prog Tryd.f42 f42 = true := by kernel_rfl
theorem ok43 : chkFunc Tryd.prog Tryd.f43 f43 = true := by kernel_rfl
theorem ok44 : chkFunc Tryd.prog Tryd.f44 f44 = true := by kernel_rfl
theorem ok45 : chkFunc Tryd.prog Tryd.f45 f45 = true := by kernel_rfl
theorem ok46 : chkFunc Tryd.prog Tryd.f46 f46 = true := by kernel_rfl
theorem ok47 : chkFunc Tryd.prog Tryd.f47 f47 = true := by kernel_rfl
theorem ok49 : chkFunc Tryd.prog Tryd.f49 f49 = true := by kernel_rfl
theorem ok50 : chkFunc Tryd.prog Tryd.f50 f50 = true := by kernel_rfl
theorem ok51 : chkFunc Tryd.prog Tryd.f51 f51 = true := by kernel_rfl
theorem ok52 : chkFunc Tryd.prog Tryd.f52 f52 = true := by kernel_rfl
theorem ok53 : chkFunc Tryd.prog Tryd.f53 f53 = true := by kernel_rfl
theorem ok54 : chkFunc Tryd.prog Tryd.f54 f54 = true := by kernel_rfl
theorem ok55 : chkFunc Tryd.prog Tryd.f55 f55 = true := by kernel_rfl
theorem ok56 : chkFunc Tryd.prog Tryd.f56 f56 = true := by kernel_rfl
theorem ok57 : chkFunc Tryd.prog Tryd.f57 f57 = true := by kernel_rfl
theorem ok58 : chkFunc Tryd.prog Tryd.f58 f58 = true := by kernel_rfl
theorem ok59 : chkFunc Tryd.prog Tryd.f59 f59 = true := by kernel_rfl
theorem ok60 : chkFunc Tryd.prog Tryd.f60 f60 = true := by kernel_rfl
theorem ok61 : chkFunc Tryd.prog Tryd.f61 f61 = true := by kernel_rfl
theorem ok63 : chkFunc Tryd.prog Tryd.f63 f63 = true := by kernel_rfl
theorem ok64 : chkFunc Tryd.prog Tryd.f64 f64 = true := by kernel_rfl
theorem ok65 : chkFunc Tryd.prog Tryd.f65 f65 = true := by kernel_rfl
theorem ok66 : chkFunc Tryd.prog Tryd.f66 f66 = true := by kernel_rfl
theorem ok67 : chkFunc Tryd.prog Tryd.f67 f67 = true := by kernel_rfl
theorem ok68 : chkFunc Tryd.prog Tryd.f68 f68 = true := by kernel_rfl
theorem ok69 : chkFunc Tryd.prog Tryd.f69 f69 = true := by kernel_rfl
theorem ok71 : chkFunc Tryd.prog Tryd.f71 f71 = true := by kernel_rfl
theorem ok72 : chkFunc Tryd.prog Tryd.f72 f72 = true := by kernel_rfl
theorem all_ok : ∀ p ∈ tab, ∃ fn, Tryd.prog.funcs[p.1]? = some fn ∧ chkFunc Tryd.prog fn p.2 = true := by
  intro p hp
  simp only [tab, List.mem_cons, List.not_mem_nil, or_false] at hp
  rcases hp with rfl | rfl | rfl | rfl | rfl | rfl | rfl | rfl | rfl | rfl | rfl | rfl | rfl | rfl | rfl | rfl | rfl | rfl | rfl | rfl | rfl | rfl | rfl | rfl | rfl | rfl | rfl | rfl | rfl | rfl | rfl | rfl | rfl | rfl | rfl | rfl | rfl | rfl | rfl | rfl | rfl | rfl | rfl | rfl | rfl | rfl | rfl | rfl | rfl | rfl | rfl | rfl | rfl | rfl | rfl | rfl | rfl | rfl | rfl | rfl | rfl | rfl | rfl | rfl | rfl | rfl | rfl
  · exact ⟨_, Tryd.func3, ok3⟩
  · exact ⟨_, Tryd.func4, ok4⟩
  · exact ⟨_, Tryd.func5, ok5⟩
  · exact ⟨_, Tryd.func6, ok6⟩
  · exact ⟨_, Tryd.func7, ok7⟩
  · exact ⟨_, Tryd.func8, ok8⟩
  · exact ⟨_, Tryd.func9, ok9⟩
  · exact ⟨_, Tryd.func10, ok10⟩
  · exact ⟨_, Tryd.func11, ok11⟩
  · exact ⟨_, Tryd.func12, ok12⟩
  · exact ⟨_, Tryd.func13, ok13⟩
  · exact ⟨_, Tryd.func14, ok14⟩
  · exact ⟨_, Tryd.func15, ok15⟩
  · exact ⟨_, Tryd.func16, ok16⟩
  · exact ⟨_, Tryd.func17, ok17⟩
  · exact ⟨_, Tryd.func18, ok18⟩
  · exact ⟨_, Tryd.func19, ok19⟩
  · exact ⟨_, Tryd.func20, ok20⟩
  · exact ⟨_, Tryd.func21, ok21⟩
  · exact ⟨_, Tryd.func22, ok22⟩
  · exact ⟨_, Tryd.func23, ok23⟩
  · exact ⟨_, Tryd.func24, ok24⟩
  · exact ⟨_, Tryd.func25, ok25⟩
  · exact ⟨_, Tryd.func26, ok26⟩
  · exact ⟨_, Tryd.func27, ok27⟩
  · exact ⟨_, Tryd.func28, ok28⟩
  · exact ⟨_, Tryd.func29, ok29⟩
  · exact ⟨_, Tryd.func30, ok30⟩
  · exact ⟨_, Tryd.func31, ok31⟩
  · exact ⟨_, Tryd.func32, ok32⟩
  · exact ⟨_, Tryd.func33, ok33⟩
  · exact ⟨_, Tryd.func34, ok34⟩
  · exact ⟨_, Tryd.func35, ok35⟩
  · exact ⟨_, Tryd.func36, ok36⟩
  · exact ⟨_, Tryd.func37, ok37⟩
  · exact ⟨_, Tryd.func38, ok38⟩
  · exact ⟨_, Tryd.func39, ok39⟩
  · exact ⟨_, Tryd.func40, ok40⟩
  · exact ⟨_, Tryd.func41, ok41⟩
  · exact ⟨_, Tryd.func42, ok42⟩
  · exact ⟨_, Tryd.func43, ok43⟩
  · exact ⟨_, Tryd.func44, ok44⟩
  · exact ⟨_, Tryd.func45, ok45⟩
  · exact ⟨_, Tryd.func46, ok46⟩
  · exact ⟨_, Tryd.func47, ok47⟩
  · exact ⟨_, Tryd.func49, ok49⟩
  · exact ⟨_, Tryd.func50, ok50⟩
  · exact ⟨_, Tryd.func51, ok51⟩
  · exact ⟨_, Tryd.func52, ok52⟩
  · exact ⟨_, Tryd.func53, ok53⟩
  · exact ⟨_, Tryd.func54, ok54⟩
  · exact ⟨_, Tryd.func55, ok55⟩
  · exact ⟨_, Tryd.func56, ok56⟩
  · exact ⟨_, Tryd.func57, ok57⟩
  · exact ⟨_, Tryd.func58, ok58⟩
  · exact ⟨_, Tryd.func59, ok59⟩
  · exact ⟨_, Tryd.func60, ok60⟩
  · exact ⟨_, Tryd.func61, ok61⟩
  · exact ⟨_, Tryd.func63, ok63⟩
  · exact ⟨_, Tryd.func64, ok64⟩
  · exact ⟨_, Tryd.func65, ok65⟩
  · exact ⟨_, Tryd.func66, ok66⟩
  · exact ⟨_, Tryd.func67, ok67⟩
  · exact ⟨_, Tryd.func68, ok68⟩
  · exact ⟨_, Tryd.func69, ok69⟩
  · exact ⟨_, Tryd.func71, ok71⟩
  · exact ⟨_, Tryd.func72, ok72⟩
set_option maxRecDepth 100000
/-- What the variables hold that are read. -/
def globD : Glob := fun n => match n with
  | 0 => some (intsD .u64 Lib.pow10Tab)
  | _ => none
/-- strconv.Itoa: a number's decimals. -/
def itoaP : List V → Hp → Option (V × Hp)
  | [.d (.int .i64 n)], H => if -9223372036854775808 ≤ n ∧ n ≤ 9223372036854775807 then some (.d (.str (Lib.itoa n)), H) else none
  | _, _ => none
def primD : Nat → Option (List V → Hp → Option (V × Hp)) := fun k => match k with
  | 48 => some itoaP
  | _ => none
theorem fnOkItoa : FnOk Tryd.prog 48 := ⟨_, Tryd.func48, by kernel_rfl, by kernel_rfl⟩
theorem one_int {w : World} {O : Own} {pl : Pl} {m : Nat} {n : Int} {us : Array Value} (h : RVs w O pl m [.d (.int .i64 n)] us) : us = #[.int .i64 n] := by
  obtain ⟨hl, hu⟩ := h
  have h0 := hu 0 (by simp)
  simp only [List.getD_cons_zero] at h0
  generalize hq : us.getD 0 undef = q at h0
  have h1 := h0.dd
  cases h1
  apply Array.ext
  · simpa using hl
  · intro i h1 h2
    have : i = 0 := by simpa using h2
    subst this
    rw [Array.getD_eq_getD_getElem?, Array.getElem?_eq_getElem h1] at hq
    simpa using hq
theorem prims_ok : ∀ k p, primD k = some p → ∀ args H r, p args H = some r → SoundAt Tryd.prog globD k args H r := by
  intro k p hk args H r hr
  unfold primD at hk
  split at hk
  · simp only [Option.some.injEq] at hk
    subst hk
    unfold itoaP at hr
    split at hr
    · rename_i H' n
      split at hr
      · rename_i hn
        simp only [Option.some.injEq] at hr
        subst hr
        refine prim_sound fnOkItoa fun w pl us hG hR => ?_
        rw [one_int hR]
        refine (Tryd.strconv_Itoa n hn.1 hn.2 w (tab_of_gr (g := 0) hG (by kernel_rfl) rfl)).mono fun e w' ⟨he, m, os, hw⟩ => ⟨_, he, .str _ _ (by simp), m, os, hw⟩
      · simp at hr
    · simp at hr
  · simp at hk
theorem prg_ok : PrgOk Tryd.prog (ofTabG tab globD primD) := ofTabG_ok (by kernel_rfl) all_ok prims_ok
noncomputable abbrev R : Prg := ofTabG tab globD primD
theorem e_48 (H : Hp) (n : Int) (h : -9223372036854775808 ≤ n ∧ n ≤ 9223372036854775807) : ev R 48 [.d (.int .i64 n)] H = some (.d (.str (Lib.itoa n)), H) :=
  ev_prim (p := itoaP) rfl (by simp only [itoaP]; rw [if_pos h])

end Go.Proofs.YtjdmiodinhlchaaDoor.Code
/- Lists of texts: their copies, their likeness, where a text stands. -/
namespace Go.Proofs.YtjdmiodinhlchaaDoor.Code
open Go Go.Ev Go.Proofs
set_option maxRecDepth 100000
set_option linter.unusedSimpArgs false
set_option linter.unusedVariables false
/-- Few enough, each short enough. -/
def long (xs : List Txt) (i : Nat) : Bool := decide (40 < (xs.getD i []).length)
def okTexts (xs : List Txt) : Bool := (seek (long xs) xs.length 0).isNone && decide (xs.length ≤ 16)
theorem l_35 (n0 : Nat) (xs : List Txt) (hx : xs.length ≤ 9223372036854775807)  (H : Hp) : ∀ (n i : Nat) (e : Env), i + n = xs.length → e.get 0 = .d (txts xs) → e.get 3 = .d (.int .i64 i) →
    ∃ e', evLoop (evCode (ev R) R.glob n0 evLoop f35l0) [0, 3] ⟨e, H⟩ = some ((match seek (long xs) n i with | some _ => .ret | none => .exit 0), ⟨e', H⟩) ∧
      (∀ j, seek (long xs) n i = some j → e'.get 2 = .d (.bool false)) ∧ (seek (long xs) n i = none → e'.get 0 = .d (txts xs))
  | 0, i, e, hn, h0, h3 => by
    have c : ¬ (i : Int) < (xs.length : Int) := by omega
    have c' : ¬ i < xs.length := by omega
    rw [evLoop_eq]
    refine ⟨?_, ?_, ?_, ?_⟩
    rotate_left
    · simp [-List.getD_eq_getElem?_getD, -List.map_map, evBody, evCode, evOps, evOper, evOp, opd, Env.get, Env.put, Env.keep, zipEnv, V.ok, V.sto, V.cells, D.cells, V.isAgg, binD, binInt, binStr, shInt, unD, eqOf, asI, leave, resOf, mapO, fzV, tupOf, view, view1, isData, hand, flatV, flatD, allD, mkAgg, mkVal, beq_lit, IntKind.bits, htake_self, htake_push, hget_hpush_self, hset_push, rowOf_self, okIn, lowIn, lowIn1, fzC_d, fzC_row, f35l0, h0, h3, txts, c, c', seek]
      rfl
    · intro j hj; simp [seek] at hj
    · intro _
      try refine ⟨?_, ?_⟩
      all_goals (first | trivial | simp [-List.getD_eq_getElem?_getD, -List.map_map, evBody, evCode, evOps, evOper, evOp, opd, Env.get, Env.put, Env.keep, zipEnv, V.ok, V.sto, V.cells, D.cells, V.isAgg, binD, binInt, binStr, shInt, unD, eqOf, asI, leave, resOf, mapO, fzV, tupOf, view, view1, isData, hand, flatV, flatD, allD, mkAgg, mkVal, beq_lit, IntKind.bits, htake_self, htake_push, hget_hpush_self, hset_push, rowOf_self, okIn, lowIn, lowIn1, fzC_d, fzC_row, h0, h3, txts])
  | n + 1, i, e, hn, h0, h3 => by
    have c : (i : Int) < (xs.length : Int) := by omega
    have c' : i < xs.length := by omega
    have g := txts_get xs i c'
    have w1 : IntKind.i64.wrap ((i : Int) + 1) = ((i + 1 : Nat) : Int) := by rw [IntWalk.i64_in _ (by omega)]; rfl
    have ih := l_35 n0 xs hx  H n (i + 1)
    rw [evLoop_eq]
    generalize evLoop (evCode (ev R) R.glob n0 evLoop f35l0) [0, 3] = F at ih ⊢
    by_cases hb : 40 < (xs.getD i []).length
    · have hb' : (40 : Int) < ((xs.getD i []).length : Int) := by omega
      refine ⟨?_, ?_, ?_, ?_⟩
      rotate_left
      · simp [-List.getD_eq_getElem?_getD, -List.map_map, evBody, evCode, evOps, evOper, evOp, opd, Env.get, Env.put, Env.keep, zipEnv, V.ok, V.sto, V.cells, D.cells, V.isAgg, binD, binInt, binStr, shInt, unD, eqOf, asI, leave, resOf, mapO, fzV, tupOf, view, view1, isData, hand, flatV, flatD, allD, mkAgg, mkVal, beq_lit, IntKind.bits, htake_self, htake_push, hget_hpush_self, hset_push, rowOf_self, okIn, lowIn, lowIn1, fzC_d, fzC_row, f35l0, h0, h3, txts, c, c', g, hb, hb', seek, long]
        rfl
      · intro j hj
        simp [seek, long, hb, -List.getD_eq_getElem?_getD] at hj
        try subst hj
        simp [-List.getD_eq_getElem?_getD, -List.map_map, evBody, evCode, evOps, evOper, evOp, opd, Env.get, Env.put, Env.keep, zipEnv, V.ok, V.sto, V.cells, D.cells, V.isAgg, binD, binInt, binStr, shInt, unD, eqOf, asI, leave, resOf, mapO, fzV, tupOf, view, view1, isData, hand, flatV, flatD, allD, mkAgg, mkVal, beq_lit, IntKind.bits, htake_self, htake_push, hget_hpush_self, hset_push, rowOf_self, okIn, lowIn, lowIn1, fzC_d, fzC_row]
      · intro hj; simp [seek, long, hb, -List.getD_eq_getElem?_getD] at hj
    · have hb' : ¬ (40 : Int) < ((xs.getD i []).length : Int) := by omega
      have hs : seek (long xs) (n + 1) i = seek (long xs) n (i + 1) := by simp [seek, long, hb, -List.getD_eq_getElem?_getD]
      rw [hs]
      simp [-List.getD_eq_getElem?_getD, -List.map_map, evBody, evCode, evOps, evOper, evOp, opd, Env.get, Env.put, Env.keep, zipEnv, V.ok, V.sto, V.cells, D.cells, V.isAgg, binD, binInt, binStr, shInt, unD, eqOf, asI, leave, resOf, mapO, fzV, tupOf, view, view1, isData, hand, flatV, flatD, allD, mkAgg, mkVal, beq_lit, IntKind.bits, htake_self, htake_push, hget_hpush_self, hset_push, rowOf_self, okIn, lowIn, lowIn1, fzC_d, fzC_row, f35l0, h0, h3, txts, c, c', g, hb, hb', w1]
      refine ih _ (by omega) ?_ ?_ <;> rfl
theorem l_50 (n0 : Nat) (xs : List Txt) (hx : xs.length ≤ 9223372036854775807) (m : Int) (H : Hp) : ∀ (n i : Nat) (e : Env), i + n = xs.length → e.get 0 = .d (txts xs) → e.get 1 = .d (.int .i64 m) → e.get 7 = .d (txts xs) → e.get 8 = .d (.int .i64 xs.length) → e.get 9 = .d (.int .i64 i) →
    ∃ e', evLoop (evCode (ev R) R.glob n0 evLoop f50l0) [0, 1, 7, 8, 9] ⟨e, H⟩ = some ((match seek (long xs) n i with | some _ => .ret | none => .exit 0), ⟨e', H⟩) ∧
      (∀ j, seek (long xs) n i = some j → e'.get 4 = .d (.bool false)) ∧ (seek (long xs) n i = none → e'.get 0 = .d (txts xs) ∧ e'.get 1 = .d (.int .i64 m))
  | 0, i, e, hn, h0, h1, h7, h8, h9 => by
    have c : ¬ (i : Int) < (xs.length : Int) := by omega
    have c' : ¬ i < xs.length := by omega
    rw [evLoop_eq]
    refine ⟨?_, ?_, ?_, ?_⟩
    rotate_left
    · simp [-List.getD_eq_getElem?_getD, -List.map_map, evBody, evCode, evOps, evOper, evOp, opd, Env.get, Env.put, Env.keep, zipEnv, V.ok, V.sto, V.cells, D.cells, V.isAgg, binD, binInt, binStr, shInt, unD, eqOf, asI, leave, resOf, mapO, fzV, tupOf, view, view1, isData, hand, flatV, flatD, allD, mkAgg, mkVal, beq_lit, IntKind.bits, htake_self, htake_push, hget_hpush_self, hset_push, rowOf_self, okIn, lowIn, lowIn1, fzC_d, fzC_row, f50l0, h0, h1, h7, h8, h9, txts, c, c', seek]
      rfl
    · intro j hj; simp [seek] at hj
    · intro _
      try refine ⟨?_, ?_⟩
      all_goals (first | trivial | simp [-List.getD_eq_getElem?_getD, -List.map_map, evBody, evCode, evOps, evOper, evOp, opd, Env.get, Env.put, Env.keep, zipEnv, V.ok, V.sto, V.cells, D.cells, V.isAgg, binD, binInt, binStr, shInt, unD, eqOf, asI, leave, resOf, mapO, fzV, tupOf, view, view1, isData, hand, flatV, flatD, allD, mkAgg, mkVal, beq_lit, IntKind.bits, htake_self, htake_push, hget_hpush_self, hset_push, rowOf_self, okIn, lowIn, lowIn1, fzC_d, fzC_row, h0, h1, h7, h8, h9, txts])
  | n + 1, i, e, hn, h0, h1, h7, h8, h9 => by
    have c : (i : Int) < (xs.length : Int) := by omega
    have c' : i < xs.length := by omega
    have g := txts_get xs i c'
    have w1 : IntKind.i64.wrap ((i : Int) + 1) = ((i + 1 : Nat) : Int) := by rw [IntWalk.i64_in _ (by omega)]; rfl
    have ih := l_50 n0 xs hx m H n (i + 1)
    rw [evLoop_eq]
    generalize evLoop (evCode (ev R) R.glob n0 evLoop f50l0) [0, 1, 7, 8, 9] = F at ih ⊢
    by_cases hb : 40 < (xs.getD i []).length
    · have hb' : (40 : Int) < ((xs.getD i []).length : Int) := by omega
      refine ⟨?_, ?_, ?_, ?_⟩
      rotate_left
      · simp [-List.getD_eq_getElem?_getD, -List.map_map, evBody, evCode, evOps, evOper, evOp, opd, Env.get, Env.put, Env.keep, zipEnv, V.ok, V.sto, V.cells, D.cells, V.isAgg, binD, binInt, binStr, shInt, unD, eqOf, asI, leave, resOf, mapO, fzV, tupOf, view, view1, isData, hand, flatV, flatD, allD, mkAgg, mkVal, beq_lit, IntKind.bits, htake_self, htake_push, hget_hpush_self, hset_push, rowOf_self, okIn, lowIn, lowIn1, fzC_d, fzC_row, f50l0, h0, h1, h7, h8, h9, txts, c, c', g, hb, hb', seek, long]
        rfl
      · intro j hj
        simp [seek, long, hb, -List.getD_eq_getElem?_getD] at hj
        try subst hj
        simp [-List.getD_eq_getElem?_getD, -List.map_map, evBody, evCode, evOps, evOper, evOp, opd, Env.get, Env.put, Env.keep, zipEnv, V.ok, V.sto, V.cells, D.cells, V.isAgg, binD, binInt, binStr, shInt, unD, eqOf, asI, leave, resOf, mapO, fzV, tupOf, view, view1, isData, hand, flatV, flatD, allD, mkAgg, mkVal, beq_lit, IntKind.bits, htake_self, htake_push, hget_hpush_self, hset_push, rowOf_self, okIn, lowIn, lowIn1, fzC_d, fzC_row]
      · intro hj; simp [seek, long, hb, -List.getD_eq_getElem?_getD] at hj
    · have hb' : ¬ (40 : Int) < ((xs.getD i []).length : Int) := by omega
      have hs : seek (long xs) (n + 1) i = seek (long xs) n (i + 1) := by simp [seek, long, hb, -List.getD_eq_getElem?_getD]
      rw [hs]
      simp [-List.getD_eq_getElem?_getD, -List.map_map, evBody, evCode, evOps, evOper, evOp, opd, Env.get, Env.put, Env.keep, zipEnv, V.ok, V.sto, V.cells, D.cells, V.isAgg, binD, binInt, binStr, shInt, unD, eqOf, asI, leave, resOf, mapO, fzV, tupOf, view, view1, isData, hand, flatV, flatD, allD, mkAgg, mkVal, beq_lit, IntKind.bits, htake_self, htake_push, hget_hpush_self, hset_push, rowOf_self, okIn, lowIn, lowIn1, fzC_d, fzC_row, f50l0, h0, h1, h7, h8, h9, txts, c, c', g, hb, hb', w1]
      refine ih _ (by omega) ?_ ?_ ?_ ?_ ?_ <;> rfl
/-- Where a text stands. -/
def isAt (t : Txt) (xs : List Txt) (i : Nat) : Bool := decide (xs.getD i [] = t)
theorem e_35 (H : Hp) (xs : List Txt) (hx : xs.length ≤ 9223372036854775807) : ev R 35 [.d (txts xs)] H = some (.d (.bool (okTexts xs)), H) := by
  refine ev_fn (fn := f35) rfl rfl ?_
  obtain ⟨e', he, h1, h2⟩ := l_35 (hlen H) xs hx H xs.length 0 [(0, .d (txts xs)), (3, .d (.int .i64 0))] (by omega) rfl rfl
  cases hr : seek (long xs) xs.length 0 with
  | some j =>
    simp only [hr] at he
    simp [-List.getD_eq_getElem?_getD, -List.map_map, evBody, evCode, evOps, evOper, evOp, opd, Env.get, Env.put, Env.keep, zipEnv, V.ok, V.sto, V.cells, D.cells, V.isAgg, binD, binInt, binStr, shInt, unD, eqOf, asI, leave, resOf, mapO, fzV, tupOf, view, view1, isData, hand, flatV, flatD, allD, mkAgg, mkVal, beq_lit, IntKind.bits, htake_self, htake_push, hget_hpush_self, hset_push, rowOf_self, okIn, lowIn, lowIn1, fzC_d, fzC_row, f35, he, h1 j hr, okTexts, hr]
  | none =>
    simp only [hr] at he
    have h3 := h2 hr
    simp [-List.getD_eq_getElem?_getD, -List.map_map, evBody, evCode, evOps, evOper, evOp, opd, Env.get, Env.put, Env.keep, zipEnv, V.ok, V.sto, V.cells, D.cells, V.isAgg, binD, binInt, binStr, shInt, unD, eqOf, asI, leave, resOf, mapO, fzV, tupOf, view, view1, isData, hand, flatV, flatD, allD, mkAgg, mkVal, beq_lit, IntKind.bits, htake_self, htake_push, hget_hpush_self, hset_push, rowOf_self, okIn, lowIn, lowIn1, fzC_d, fzC_row, f35, he, h3, okTexts, hr, txts]
    omega
/-- The first place of a text. -/
def placeOf (xs : List Txt) (t : Txt) : Int := if okTexts xs = true then (match seek (isAt t xs) xs.length 0 with | some j => (j : Int) | none => -1) else -1
theorem e_50 (H : Hp) (xs : List Txt) (hx : xs.length ≤ 9223372036854775807) : ev R 50 [.d (txts xs), .d (.int .i64 16)] H = some (.d (.bool (okTexts xs)), H) := by
  refine ev_fn (fn := f50) rfl rfl ?_
  obtain ⟨e', he, h1, h2⟩ := l_50 (hlen H) xs hx 16 H xs.length 0 [(0, .d (txts xs)), (1, .d (.int .i64 16)), (7, .d (txts xs)), (8, .d (.int .i64 xs.length)), (9, .d (.int .i64 0))] (by omega) rfl rfl rfl rfl rfl
  cases hr : seek (long xs) xs.length 0 with
  | some j =>
    simp only [hr] at he
    simp [-List.getD_eq_getElem?_getD, -List.map_map, evBody, evCode, evOps, evOper, evOp, opd, Env.get, Env.put, Env.keep, zipEnv, V.ok, V.sto, V.cells, D.cells, V.isAgg, binD, binInt, binStr, shInt, unD, eqOf, asI, leave, resOf, mapO, fzV, tupOf, view, view1, isData, hand, flatV, flatD, allD, mkAgg, mkVal, beq_lit, IntKind.bits, htake_self, htake_push, hget_hpush_self, hset_push, rowOf_self, okIn, lowIn, lowIn1, fzC_d, fzC_row, f50, he, h1 j hr, okTexts, hr]
  | none =>
    simp only [hr] at he
    obtain ⟨h3, h4⟩ := h2 hr
    simp [-List.getD_eq_getElem?_getD, -List.map_map, evBody, evCode, evOps, evOper, evOp, opd, Env.get, Env.put, Env.keep, zipEnv, V.ok, V.sto, V.cells, D.cells, V.isAgg, binD, binInt, binStr, shInt, unD, eqOf, asI, leave, resOf, mapO, fzV, tupOf, view, view1, isData, hand, flatV, flatD, allD, mkAgg, mkVal, beq_lit, IntKind.bits, htake_self, htake_push, hget_hpush_self, hset_push, rowOf_self, okIn, lowIn, lowIn1, fzC_d, fzC_row, f50, he, h3, h4, okTexts, hr, txts]
    omega
theorem e_44 (H : Hp) (xs : List Txt) (hx : xs.length ≤ 9223372036854775807) : ev R 44 [.d (txts xs)] H = some (.d (.bool (okTexts xs)), H) := by
  refine ev_fn (fn := f44) rfl rfl ?_
  have p63 : pureCall (ev R) 50 [.d (txts xs), .d (.int .i64 16)] = some (.d (.bool (okTexts xs))) := pureCall_eq fun H => e_50 H xs hx
  simp [-List.getD_eq_getElem?_getD, -List.map_map, evBody, evCode, evOps, evOper, evOp, opd, Env.get, Env.put, Env.keep, zipEnv, V.ok, V.sto, V.cells, D.cells, V.isAgg, binD, binInt, binStr, shInt, unD, eqOf, asI, leave, resOf, mapO, fzV, tupOf, view, view1, isData, hand, flatV, flatD, allD, mkAgg, mkVal, beq_lit, IntKind.bits, htake_self, htake_push, hget_hpush_self, hset_push, rowOf_self, okIn, lowIn, lowIn1, fzC_d, fzC_row, f44, p63]
/-- A copy. -/
theorem l_40 (n0 : Nat) (xs : List Txt) (hx : xs.length ≤ 9223372036854775807) (H : Hp) : ∀ (n i : Nat) (e : Env), i + n = xs.length → e.get 0 = .d (txts xs) → e.get 3 = .slc (hlen H) 0 0 xs.length → e.get 4 = .d (.int .i64 i) →
    ∃ e', evLoop (evCode (ev R) R.glob n0 evLoop f40l0) [0, 3, 4] ⟨e, hpush H (.row 0 1 (filled xs i))⟩ = some (.exit 0, ⟨e', hpush H (.row 0 1 ((xs.map D.str).map V.d))⟩) ∧ e'.get 3 = .slc (hlen H) 0 0 xs.length
  | 0, i, e, hn, h0, h3, h4 => by
    have c : ¬ (i : Int) < (xs.length : Int) := by omega
    have c' : ¬ i < xs.length := by omega
    have hi : i = xs.length := by omega
    rw [← filled_all, evLoop_eq]
    refine ⟨?_, ?_, ?_⟩
    rotate_left
    · simp [-List.getD_eq_getElem?_getD, -List.map_map, evBody, evCode, evOps, evOper, evOp, opd, Env.get, Env.put, Env.keep, zipEnv, V.ok, V.sto, V.cells, D.cells, V.isAgg, binD, binInt, binStr, shInt, unD, eqOf, asI, leave, resOf, mapO, fzV, tupOf, view, view1, isData, hand, flatV, flatD, allD, mkAgg, mkVal, beq_lit, IntKind.bits, htake_self, htake_push, hget_hpush_self, hset_push, rowOf_self, okIn, lowIn, lowIn1, fzC_d, fzC_row, f40l0, h0, h3, h4, txts, c, c', hi]
      rfl
    · simp [-List.getD_eq_getElem?_getD, -List.map_map, evBody, evCode, evOps, evOper, evOp, opd, Env.get, Env.put, Env.keep, zipEnv, V.ok, V.sto, V.cells, D.cells, V.isAgg, binD, binInt, binStr, shInt, unD, eqOf, asI, leave, resOf, mapO, fzV, tupOf, view, view1, isData, hand, flatV, flatD, allD, mkAgg, mkVal, beq_lit, IntKind.bits, htake_self, htake_push, hget_hpush_self, hset_push, rowOf_self, okIn, lowIn, lowIn1, fzC_d, fzC_row, h3]
  | n + 1, i, e, hn, h0, h3, h4 => by
    have c : (i : Int) < (xs.length : Int) := by omega
    have c' : i < xs.length := by omega
    have g := txts_get xs i c'
    have w1 : IntKind.i64.wrap ((i : Int) + 1) = ((i + 1 : Nat) : Int) := by rw [IntWalk.i64_in _ (by omega)]; rfl
    have st := filled_store H xs i c'
    have ih := l_40 n0 xs hx H n (i + 1)
    rw [evLoop_eq]
    generalize evLoop (evCode (ev R) R.glob n0 evLoop f40l0) [0, 3, 4] = F at ih ⊢
    simp [-List.getD_eq_getElem?_getD, -List.map_map, evBody, evCode, evOps, evOper, evOp, opd, Env.get, Env.put, Env.keep, zipEnv, V.ok, V.sto, V.cells, D.cells, V.isAgg, binD, binInt, binStr, shInt, unD, eqOf, asI, leave, resOf, mapO, fzV, tupOf, view, view1, isData, hand, flatV, flatD, allD, mkAgg, mkVal, beq_lit, IntKind.bits, htake_self, htake_push, hget_hpush_self, hset_push, rowOf_self, okIn, lowIn, lowIn1, fzC_d, fzC_row, f40l0, h0, h3, h4, txts, c, c', g, w1, st]
    refine ih _ (by omega) ?_ ?_ ?_ <;> rfl
def differ (xs ys : List Txt) (i : Nat) : Bool := decide (¬ xs.getD i [] = ys.getD i [])
theorem l_51 (n0 : Nat) (xs : List Txt) (hx : xs.length ≤ 9223372036854775807) (ys : List Txt) (hy : ys.length = xs.length) (H : Hp) : ∀ (n i : Nat) (e : Env), i + n = xs.length → e.get 0 = .d (txts xs) → e.get 1 = .d (txts ys) → e.get 5 = .d (.int .i64 i) →
    ∃ e', evLoop (evCode (ev R) R.glob n0 evLoop f51l0) [0, 1, 5] ⟨e, H⟩ = some ((match seek (differ xs ys) n i with | some _ => .ret | none => .exit 0), ⟨e', H⟩) ∧
      (∀ j, seek (differ xs ys) n i = some j → e'.get 4 = .d (.bool false))
  | 0, i, e, hn, h0, h1, h5 => by
    have c : ¬ (i : Int) < (xs.length : Int) := by omega
    have c' : ¬ i < xs.length := by omega
    have gy : i < ys.length → (ys.map D.str).getD i .nilp = .str (ys.getD i []) := fun h => txts_get ys i h
    rw [evLoop_eq]
    refine ⟨?_, ?_, ?_⟩
    rotate_left
    · simp [-List.getD_eq_getElem?_getD, -List.map_map, evBody, evCode, evOps, evOper, evOp, opd, Env.get, Env.put, Env.keep, zipEnv, V.ok, V.sto, V.cells, D.cells, V.isAgg, binD, binInt, binStr, shInt, unD, eqOf, asI, leave, resOf, mapO, fzV, tupOf, view, view1, isData, hand, flatV, flatD, allD, mkAgg, mkVal, beq_lit, IntKind.bits, htake_self, htake_push, hget_hpush_self, hset_push, rowOf_self, okIn, lowIn, lowIn1, fzC_d, fzC_row, f51l0, h0, h1, h5, txts, c, c', seek, hy, gy]
      rfl
    · intro j hj; simp [seek] at hj
  | n + 1, i, e, hn, h0, h1, h5 => by
    have c : (i : Int) < (xs.length : Int) := by omega
    have c' : i < xs.length := by omega
    have g := txts_get xs i c'
    have w1 : IntKind.i64.wrap ((i : Int) + 1) = ((i + 1 : Nat) : Int) := by rw [IntWalk.i64_in _ (by omega)]; rfl
    have gy : i < ys.length → (ys.map D.str).getD i .nilp = .str (ys.getD i []) := fun h => txts_get ys i h
    have ih := l_51 n0 xs hx ys hy H n (i + 1)
    rw [evLoop_eq]
    generalize evLoop (evCode (ev R) R.glob n0 evLoop f51l0) [0, 1, 5] = F at ih ⊢
    by_cases hb : ¬ xs.getD i [] = ys.getD i []
    · skip
      refine ⟨?_, ?_, ?_⟩
      rotate_left
      · simp [-List.getD_eq_getElem?_getD, -List.map_map, evBody, evCode, evOps, evOper, evOp, opd, Env.get, Env.put, Env.keep, zipEnv, V.ok, V.sto, V.cells, D.cells, V.isAgg, binD, binInt, binStr, shInt, unD, eqOf, asI, leave, resOf, mapO, fzV, tupOf, view, view1, isData, hand, flatV, flatD, allD, mkAgg, mkVal, beq_lit, IntKind.bits, htake_self, htake_push, hget_hpush_self, hset_push, rowOf_self, okIn, lowIn, lowIn1, fzC_d, fzC_row, f51l0, h0, h1, h5, txts, c, c', g, seek, differ, hb, hy, gy]
        rfl
      · intro j hj
        simp [seek, differ, hb, -List.getD_eq_getElem?_getD] at hj
        try subst hj
        simp [-List.getD_eq_getElem?_getD, -List.map_map, evBody, evCode, evOps, evOper, evOp, opd, Env.get, Env.put, Env.keep, zipEnv, V.ok, V.sto, V.cells, D.cells, V.isAgg, binD, binInt, binStr, shInt, unD, eqOf, asI, leave, resOf, mapO, fzV, tupOf, view, view1, isData, hand, flatV, flatD, allD, mkAgg, mkVal, beq_lit, IntKind.bits, htake_self, htake_push, hget_hpush_self, hset_push, rowOf_self, okIn, lowIn, lowIn1, fzC_d, fzC_row]
    · rw [Classical.not_not] at hb
      have hs : seek (differ xs ys) (n + 1) i = seek (differ xs ys) n (i + 1) := by simp [seek, differ, hb, -List.getD_eq_getElem?_getD]
      rw [hs]
      simp [-List.getD_eq_getElem?_getD, -List.map_map, evBody, evCode, evOps, evOper, evOp, opd, Env.get, Env.put, Env.keep, zipEnv, V.ok, V.sto, V.cells, D.cells, V.isAgg, binD, binInt, binStr, shInt, unD, eqOf, asI, leave, resOf, mapO, fzV, tupOf, view, view1, isData, hand, flatV, flatD, allD, mkAgg, mkVal, beq_lit, IntKind.bits, htake_self, htake_push, hget_hpush_self, hset_push, rowOf_self, okIn, lowIn, lowIn1, fzC_d, fzC_row, f51l0, h0, h1, h5, txts, c, c', g, w1, hb, hy, gy]
      refine ih _ (by omega) ?_ ?_ ?_ <;> rfl
theorem e_40 (H : Hp) (xs : List Txt) (hx : (xs.length : Int) * 16 ≤ 140737488355328) : ev R 40 [.d (txts xs)] H = some (.d (txts xs), H) := by
  refine ev_fn (fn := f40) rfl rfl ?_
  obtain ⟨e', he, h3⟩ := l_40 (hlen H) xs (by omega) H xs.length 0 [(0, .d (txts xs)), (3, .slc (hlen H) 0 0 xs.length), (4, .d (.int .i64 0))] (by omega) rfl rfl rfl
  rw [filled_zero] at he
  have r : (xs.length : Int) * 16 ≤ (room : Int) := hx
  simp [-List.getD_eq_getElem?_getD, -List.map_map, evBody, evCode, evOps, evOper, evOp, opd, Env.get, Env.put, Env.keep, zipEnv, V.ok, V.sto, V.cells, D.cells, V.isAgg, binD, binInt, binStr, shInt, unD, eqOf, asI, leave, resOf, mapO, fzV, tupOf, view, view1, isData, hand, flatV, flatD, allD, mkAgg, mkVal, beq_lit, IntKind.bits, htake_self, htake_push, hget_hpush_self, hset_push, rowOf_self, okIn, lowIn, lowIn1, fzC_d, fzC_row, f40, he, h3, r, txts]
end Go.Proofs.YtjdmiodinhlchaaDoor.Code

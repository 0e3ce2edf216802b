/- When compact code stands for the model's code: the check, operation by operation; and the relation of rows of cells. -/
import Derived.Test.YtpmphmpaeooeeaaDoorE3
namespace Go.Ev
open Go
set_option linter.unusedSimpArgs false
set_option linter.unusedVariables false

/-! ### Rows of cells -/
structure RCs (w : World) (O : Own) (pl : Pl) (n : Nat) (cs : List V) (us : Array Value) : Prop where
  size : us.size = cs.length
  rel : ∀ i, i < cs.length → RV w O pl n (cs.getD i .any) (us.getD i undef)
  one : ∀ i, i < cs.length → (us.getD i undef).oneCell' = true

theorem RD.one {w : World} {O : Own} {x : D} {u : Value} (h : RD w O x u) (ha : ∀ cs, x ≠ .agg cs) : u.oneCell' = true := by
  cases h <;> first | rfl | exact absurd rfl (ha _)

theorem RD.cells {w : World} {O : Own} {x : D} {u : Value} (h : RD w O x u) :
    u.cells.size = x.cells.length ∧ ∀ i, i < x.cells.length → RD w O (x.cells.getD i .nilp) (u.cells.getD i undef) ∧ (u.cells.getD i undef).oneCell' = true := by
  by_cases ha : ∃ cs, x = .agg cs
  · obtain ⟨cs, rfl⟩ := ha
    cases h with
    | agg _ us hl h1 h => exact ⟨hl, fun i hi => ⟨h i hi, h1 i hi⟩⟩
  · have hx : x.cells = [x] := by cases x <;> first | rfl | exact absurd ⟨_, rfl⟩ ha
    have ho := h.one (fun cs hc => ha ⟨cs, hc⟩)
    have hu : u.cells = #[u] := by cases u <;> first | rfl | simp [Value.oneCell'] at ho
    rw [hx, hu]
    refine ⟨rfl, fun i hi => ?_⟩
    obtain rfl : i = 0 := by simpa using hi
    exact ⟨h, ho⟩

theorem RV.one {w : World} {O : Own} {pl : Pl} {n : Nat} {v : V} {u : Value} (h : RV w O pl n v u) (hs : v.sto = true) (ha : v.isAgg = false) : u.oneCell' = true := by
  cases h with
  | d x u h => exact h.one (fun cs hc => by subst hc; simp [V.isAgg] at ha)
  | agg => simp [V.isAgg] at ha
  | tup => simp [V.sto] at hs
  | und => simp [V.sto] at hs
  | _ => rfl

theorem RV.cells {w : World} {O : Own} {pl : Pl} {n : Nat} {v : V} {u : Value} (h : RV w O pl n v u) (hs : v.sto = true) : RCs w O pl n v.cells u.cells := by
  by_cases ha : v.isAgg = true
  · cases h with
    | d x u h =>
      cases x <;> first | (simp [V.isAgg] at ha; done) | skip
      rename_i cs
      cases h with
      | agg _ us hl h1 h =>
        refine ⟨by simpa [V.cells, Value.cells] using hl, fun i hi => ?_, fun i hi => ?_⟩
        · have hi' : i < cs.length := by simpa [V.cells] using hi
          have := h i hi'
          simp only [V.cells, Value.cells, List.getD_eq_getElem?_getD, List.getElem?_map, List.getElem?_eq_getElem hi', Option.map_some, Option.getD_some] at this ⊢
          exact .d _ _ this
        · exact h1 i (by simpa [V.cells] using hi)
    | agg cs us hl h1 h => exact ⟨hl, h, h1⟩
    | _ => simp [V.isAgg] at ha
  · have ha' : v.isAgg = false := by simpa using ha
    have ho := h.one hs ha'
    have hv : v.cells = [v] := by
      cases v <;> first | rfl | (simp [V.isAgg] at ha'; done) | skip
      rename_i x
      cases x <;> first | rfl | (simp [V.isAgg] at ha'; done)
    have hu : u.cells = #[u] := by cases u <;> first | rfl | simp [Value.oneCell'] at ho
    rw [hv, hu]
    refine ⟨rfl, fun i hi => ?_, fun i hi => ?_⟩ <;> (obtain rfl : i = 0 := by simpa using hi)
    · exact h
    · exact ho

theorem allD_some {cs : List V} {ds : List D} (h : allD cs = some ds) : cs = ds.map .d := by
  induction cs generalizing ds with
  | nil => simp [allD] at h; subst h; rfl
  | cons v r ih =>
    cases v <;> simp [allD] at h
    split at h
    · rename_i xs hx
      simp at h; subst h
      rw [ih hx]; rfl
    · simp at h

theorem RCs.mkAgg {w : World} {O : Own} {pl : Pl} {n : Nat} {cs : List V} {us : Array Value} (h : RCs w O pl n cs us) : RV w O pl n (mkAgg cs) (.agg us) := by
  unfold Ev.mkAgg
  split
  · rename_i ds hd
    have := allD_some hd
    subst this
    refine .d _ _ (.agg ds us (by simpa using h.size) (fun i hi => h.one i (by simpa using hi)) fun i hi => ?_)
    have := h.rel i (by simpa using hi)
    simp only [List.getD_eq_getElem?_getD, List.getElem?_map, List.getElem?_eq_getElem hi, Option.map_some, Option.getD_some] at this ⊢
    cases this with
    | d _ _ h => exact h
  · exact .agg cs us h.size h.one h.rel

theorem RCs.mono {w w' : World} {O O' : Own} {pl pl' : Pl} {n n' : Nat} (E : Ext w O w' O') (hp : PlExt n pl pl') (hn : n ≤ n') {cs : List V} {us : Array Value} (h : RCs w O pl n cs us) : RCs w' O' pl' n' cs us :=
  ⟨h.size, fun i hi => (h.rel i hi).mono E hp hn, h.one⟩

theorem getD_drop_take {α : Type} (cs : List α) (d : α) (a k i : Nat) (hi : i < k) : ((cs.drop a).take k).getD i d = cs.getD (a + i) d := by
  simp only [List.getD_eq_getElem?_getD, List.getElem?_take_of_lt hi, List.getElem?_drop]

theorem getD_extract {us : Array Value} {a k i : Nat} (hi : i < k) (hk : a + k ≤ us.size) : (us.extract a (a + k)).getD i undef = us.getD (a + i) undef := by
  simp only [Array.getD_eq_getD_getElem?]
  rw [Array.getElem?_extract]
  rw [if_pos (by omega)]

theorem RCs.part {w : World} {O : Own} {pl : Pl} {n : Nat} {cs : List V} {us : Array Value} (h : RCs w O pl n cs us) {a k : Nat} (hk : a + k ≤ cs.length) :
    RCs w O pl n ((cs.drop a).take k) (us.extract a (a + k)) := by
  have hs := h.size
  refine ⟨by simp; omega, fun i hi => ?_, fun i hi => ?_⟩ <;> have hik : i < k := by (simp at hi; omega)
  · rw [getD_drop_take cs .any a k i hik, getD_extract hik (by omega)]
    exact h.rel _ (by omega)
  · rw [getD_extract hik (by omega)]
    exact h.one _ (by omega)

/-! ### The check -/
def cst1 : D → Value → Bool
  | .bool b, .bool c => b == c
  | .int k n, .int k' n' => decide (k = k') && decide (n = n')
  | .str s, .string t => decide (t.data.toList = s)
  | .vals _ [], .slice none 0 0 => true
  | .nilp, .pointer none => true
  | .nilfn, .nilFunc => true
  | .niface, .nilIface => true
  | .mval [] [], .map none => true
  | _, _ => false
def cst1s : List D → List Value → Bool
  | [], [] => true
  | x :: xs, u :: us => cst1 x u && cst1s xs us
  | _, _ => false
def cstOk : D → Value → Bool
  | .agg cs, .agg us => cst1s cs us.toList
  | x, u => cst1 x u
def vcst1 : V → Value → Bool
  | .d x, u => cst1 x u
  | .nils _, .slice none 0 0 => true
  | _, _ => false
def vcst1s : List V → List Value → Bool
  | [], [] => true
  | x :: xs, u :: us => vcst1 x u && vcst1s xs us
  | _, _ => false
def vcstOk : V → Value → Bool
  | .agg cs, .agg us => vcst1s cs us.toList
  | .d x, u => cstOk x u
  | .nils _, .slice none 0 0 => true
  | _, _ => false

def opdOk : AOpd → Operand → Bool
  | .t n, .tmp m => Nat.beq n m
  | .c x, .const v => cstOk x v
  | .f k, .func j => Nat.beq k j
  | .g n, .global m => Nat.beq n m
  | .nil _, .const (.slice none 0 0) => true
  | .u, .const (.tuple ⟨[]⟩) => true
  | _, _ => false
def opdsOk : List AOpd → List Operand → Bool
  | [], [] => true
  | x :: xs, y :: ys => opdOk x y && opdsOk xs ys
  | _, _ => false
def optOk : Option AOpd → Option Operand → Bool
  | none, none => true
  | some x, some y => opdOk x y
  | _, _ => false

def szIs (P : Program) (t n : Nat) : Bool := match P.info? t with | some i => Nat.beq i.size n | none => false
def aggIs (P : Program) (t : Nat) (b : Bool) : Bool := match P.underlying t with | some (.struct _) => b | some (.array _ _) => b | some _ => !b | none => false
def sliceOf (P : Program) (t : Nat) : Option Nat := match P.underlying t with | some (.slice e) => some e | _ => none
def elemIs (P : Program) (t n : Nat) : Bool := match sliceOf P t with | some e => szIs P e n | none => false
def zeroIs (P : Program) (t : Nat) (z : V) : Bool := match P.info? t with | some i => (match i.zero with | some u => vcstOk z u && Nat.beq i.size z.cells.length | none => false) | none => false
def hasZero (P : Program) (t n : Nat) : Bool := match P.info? t with | some i => (match i.zero with | some u => Nat.beq u.cells.size n && Nat.beq i.size n | none => false) | none => false
def fieldsOf (P : Program) (t : Nat) : Option (Array Field) := match P.underlying t with | some (.struct fs) => some fs | _ => none
def descIs (P : Program) (t : Nat) (p : TypeDesc → Bool) : Bool := match P.underlying t with | some d => p d | none => false
def isStr : TypeDesc → Bool | .string => true | _ => false
def isBool : TypeDesc → Bool | .bool => true | _ => false
def isU8 : TypeDesc → Bool | .int .u8 => true | _ => false
def isIface : TypeDesc → Bool | .interface _ => true | _ => false
def isKey : TypeDesc → Bool | .string => true | _ => false
def kindIs : SK → TypeDesc → Bool | .s, .string => true | .i, .int _ => true | .b, .bool => true | _, _ => false
def intIs (k : IntKind) : TypeDesc → Bool | .int k' => decide (k = k') | _ => false

def partsOk (P : Program) (fs : Array Field) : List (Nat × Nat × AOpd) → List (Nat × Operand) → Bool
  | [], [] => true
  | (off, n, x) :: xs, (i, y) :: ys => (match fs[i]? with | some f => Nat.beq f.offset off && szIs P f.type n | none => false) && opdOk x y && partsOk P fs xs ys
  | _, _ => false
def litOk : Nat → List AOpd → List (Nat × Operand) → Bool
  | _, [], [] => true
  | k, x :: xs, (i, y) :: ys => Nat.beq i k && opdOk x y && litOk (k + 1) xs ys
  | _, _, _ => false
def argsOk : List (Bool × AOpd) → List Operand → Bool
  | [], [] => true
  | (_, x) :: xs, y :: ys => opdOk x y && argsOk xs ys
  | _, _ => false

/-- A struct of scalars, each of one cell, none hidden: they are compared one by one. -/
def scalFields (P : Program) : Nat → List Field → List SK → Bool
  | _, [], [] => true
  | n, f :: fs, k :: ks => Nat.beq f.offset n && szIs P f.type 1 && descIs P f.type (kindIs k) && decide (f.name ≠ "_") && scalFields P (n + 1) fs ks
  | _, _, _ => false

def binOk (P : Program) (ty : BTy) (t : Nat) (y : Operand) : Bool :=
  match ty with
  | .val => true
  | .bool => descIs P t isBool
  | .iface => descIs P t isIface && (match y with | .const _ => true | _ => false)
  | .agg ks => (match fieldsOf P t with | some fs => scalFields P 0 fs.toList ks | none => false) && !P.stoodInHeld t && !P.eqGuardType P.depth t

def chkOp (P : Program) : Op → AOp → Bool
  | .move x, .mv a => opdOk a x
  | .assign x, .mv a => opdOk a x
  | .pick c x y, .pick c' x' y' => opdOk c' c && opdOk x' x && opdOk y' y
  | .alloc t, .alloc z => zeroIs P t z
  | .box _ x, .box a => opdOk a x
  | .build t ps, .build z qs =>
    (match fieldsOf P t with | some fs => partsOk P fs qs ps.toList && fs.all (fun f => (P.info? f.type).isSome) | none => false) && zeroIs P t (.agg z)
  | .buildSlice t n ps, .lit _ e qs =>
    (match sliceOf P t with | some el => szIs P el e && hasZero P el e | none => false) && litOk 0 qs ps.toList && Nat.beq n qs.length && decide (n * e ≤ 16777216) && decide (0 < e)
  | .load t a, .load ag n x => opdOk x a && aggIs P t ag && szIs P t n
  | .store t a v, .store n x y => opdOk x a && opdOk y v && szIs P t n
  | .nilCheck x, .nilck a => opdOk a x
  | .binOp op t x y _, .bin op' ty x' y' => decide (op = op') && opdOk x' x && opdOk y' y && binOk P ty t y
  | .unOp op _ x, .un op' a => decide (op = op') && opdOk a x
  | .convert src dst x, .cvInt k a => opdOk a x && descIs P dst (intIs k) && (P.underlying src).isSome
  | .convert src dst x, .cvId a => opdOk a x && descIs P dst isStr && (P.underlying src).isSome
  | .convert src dst x, .cvStr a => opdOk a x && descIs P dst isStr && (match sliceOf P src with | some e => descIs P e isU8 | none => false)
  | .makeFunc fn first caps, .mkfn f cs => decide (fn = f) && Nat.beq first.size 0 && opdsOk cs caps.toList
  | .makeMap t r, .mkmap => (match r with | none => true | some (.const (.int _ _)) => descIs P t (fun | .map _ _ => true | _ => false) | _ => false)
  | .insert t m k v, .insert m' k' v' => opdOk m' m && opdOk k' k && opdOk v' v && (match P.underlying t with | some (.map kt _) => descIs P kt isKey | _ => false)
  | .mapUpdate t m k v, .insert m' k' v' => opdOk m' m && opdOk k' k && opdOk v' v && (match P.underlying t with | some (.map kt _) => descIs P kt isKey | _ => false)
  | .lookup t m k ok, .lookup z m' k' ok' => decide (ok = ok') && opdOk m' m && opdOk k' k && (match P.underlying t with | some (.map kt et) => descIs P kt isKey && zeroIs P et (.d z) | _ => false)
  | .makeSlice t l c, .mkslice e b z l' c' => opdOk l' l && opdOk c' c && (match sliceOf P t with | some el => szIs P el e && zeroIs P el z && (match P.info? el with | some i => Nat.beq i.bytes b | none => false) && decide (0 < e) && decide (0 < b) | none => false)
  | .slice t x lo hi none, .slice e x' lo' hi' => opdOk x' x && optOk lo' lo && optOk hi' hi && (match e with | none => descIs P t isStr | some e => elemIs P t e)
  | .fieldAddr s x f, .faddr off x' => opdOk x' x && (match fieldsOf P s with | some fs => (match fs[f]? with | some fd => Nat.beq fd.offset off && (match P.info? fd.type with | some i => Nat.ble 1 i.size | none => false) | none => false) | none => false)
  | .field t x f, .field ag off n x' => opdOk x' x && (match fieldsOf P t with | some fs => (match fs[f]? with | some fd => Nat.beq fd.offset off && szIs P fd.type n && aggIs P fd.type ag | none => false) | none => false)
  | .indexAddr t x i, .iaddr e x' i' => opdOk x' x && opdOk i' i && elemIs P t e
  | .index t x i, .idx x' i' => opdOk x' x && opdOk i' i && descIs P t isStr
  | .extract x i, .extract x' i' => opdOk x' x && Nat.beq i i'
  | .makeInterface t x, .mkiface t' x' => Nat.beq t t' && opdOk x' x && descIs P t (fun d => !isIface d)
  | .call { callee := .value f, args, .. }, .call f' args' _ => opdOk f' f && argsOk args' args.toList
  | .call { callee := .value f, args, .. }, .pcall f' args' => opdOk f' f && opdsOk args' args.toList
  | .call { callee := .builtin .len, args, argTypes }, .len str x => (match args.toList, argTypes[0]? with | [y], some t => opdOk x y && (match str with | true => descIs P t isStr | false => (sliceOf P t).isSome) | _, _ => false)
  | .call { callee := .builtin .append, args, argTypes }, .append e b s x =>
    (match args.toList, argTypes.toList with
      | [s', x'], [t, t'] => Nat.beq t t' && opdOk s s' && opdOk x x' && (match sliceOf P t with | some el => hasZero P el e && (match P.info? el with | some i => Nat.beq i.bytes b | none => false) | none => false) && decide (0 < e) && decide (0 < b)
      | _, _ => false)
  | .call { callee := .builtin .max, args, .. }, .mnmx true xs => opdsOk xs args.toList
  | .call { callee := .builtin .min, args, .. }, .mnmx false xs => opdsOk xs args.toList
  | _, _ => false
end Go.Ev

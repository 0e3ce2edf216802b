/- Lemmas (several texts in one). -/
import Derived.Calls
import Derived.Orders
import Derived.OwnWalk
import Derived.Laws.IdiomCopy
import Derived.ArgAppend
import Derived.Laws.StructEq
import Derived.Laws.Strings
import Derived.Laws.Slices
import Derived.Laws.BytesArg
import Derived.Laws.MakeOwn
/- An abstract evaluator for the model's code: values without addresses (D), values with references into an abstract heap (V), compact code (ACode), and its meaning ags partial functions. -/
namespace Go.Ev
open Go
set_option linter.unusedSimpArgs false
set_option linter.unusedVariables false

inductive D where
  | bool (b : Bool)
  | int (k : IntKind) (n : Int)
  | str (s : List UInt8)
  | agg (cs : List D)
  | vals (e : Nat) (xs : List D)
  | nilp
  | rptr (cs : List D)
  | fn (f : Fn) (caps : List D)
  | nilfn
  | iface (t : Nat) (x : D)
  | niface
  | mval (ks vs : List D)
  deriving Inhabited

inductive V where
  | d (x : D)
  | agg (cs : List V)
  | tup (vs : List V)
  | slc (r g i n : Nat)
  | ptr (r g i j : Nat)
  | fn (f : Fn) (caps : List V)
  | mref (r : Nat)
  | nils (e : Nat)
  | und
  | any
  deriving Inhabited

inductive Obj where
  | dead
  | row (g e : Nat) (xs : List V)
  | map (ks vs : List V)
  deriving Inhabited

abbrev Hp := List Obj
abbrev Env := List (Nat × V)

def Env.get : Env → Nat → V
  | [], _ => .any
  | (k, v) :: r, t => bif Nat.beq k t then v else Env.get r t

def D.cells : D → List D
  | .agg cs => cs
  | x => [x]

def V.cells : V → List V
  | .agg cs => cs
  | .d (.agg cs) => cs.map .d
  | v => [v]

def V.sto : V → Bool
  | .any => false
  | .und => false
  | .tup _ => false
  | _ => true
def V.ok : V → Bool
  | .any => false
  | _ => true

def V.isAgg : V → Bool
  | .agg _ => true
  | .d (.agg _) => true
  | _ => false

def allD : List V → Option (List D)
  | [] => some []
  | .d x :: r =>
    match allD r with
    | some xs => some (x :: xs)
    | none => none
  | _ :: _ => none

def mkAgg (cs : List V) : V :=
  match allD cs with
  | some ds => .d (.agg ds)
  | none => .agg cs

def mkVal (ag : Bool) (cs : List V) : Option V :=
  match ag, cs with
  | true, cs => some (mkAgg cs)
  | false, [v] => some v
  | false, _ => none

def reCell (x : V) (cs : List V) : Option V :=
  match x.isAgg, cs with
  | true, cs => some (mkAgg cs)
  | false, [v] => (match v.isAgg with | true => none | false => some v)
  | false, _ => none

/-! ### The heap -/
def hget : Hp → Nat → Option Obj
  | [], _ => none
  | o :: _, 0 => some o
  | _ :: h, r + 1 => hget h r

def hset : Hp → Nat → Obj → Hp
  | [], _, _ => []
  | _ :: h, 0, o => o :: h
  | x :: h, r + 1, o => x :: hset h r o

def hpush (H : Hp) (o : Obj) : Hp := H ++ [o]
def hlen (H : Hp) : Nat := H.length
def htake (H : Hp) (n : Nat) : Hp := H.take n

def rowOf (H : Hp) (r g : Nat) : Option (Nat × List V) :=
  match hget H r with
  | some (.row g' e xs) => bif Nat.beq g' g then some (e, xs) else none
  | _ => none

def hload (H : Hp) (r g i j n : Nat) : Option (List V) :=
  match rowOf H r g with
  | some (_, xs) =>
    match xs[i]? with
    | some x => if j + n ≤ x.cells.length then some ((x.cells.drop j).take n) else none
    | none => none
  | none => none

def hstore (H : Hp) (r g i j : Nat) (vs : List V) : Option Hp :=
  match rowOf H r g with
  | some (e, xs) =>
    match xs[i]? with
    | some x =>
      if j + vs.length ≤ x.cells.length then
        match reCell x (x.cells.take j ++ vs ++ x.cells.drop (j + vs.length)) with
        | some y => some (hset H r (.row g e (xs.set i y)))
        | none => none
      else none
    | none => none
  | none => none

/-! ### Freezing: references turned into data -/
def mapO {α β : Type} (f : α → Option β) : List α → Option (List β)
  | [] => some []
  | a :: r =>
    match f a with
    | some b =>
      match mapO f r with
      | some bs => some (b :: bs)
      | none => none
    | none => none

def fz (n : Nat) : Nat → Hp → V → Option D
  | 0, _, v =>
    match v with
    | .d x => some x
    | _ => none
  | d + 1, H, v =>
    match v with
    | .d x => some x
    | .nils e => some (.vals e [])
    | .agg cs =>
      match mapO (fz n d H) cs with
      | some xs => some (.agg xs)
      | none => none
    | .slc r g i k =>
      if r < n then none else
      match rowOf H r g with
      | some (e, xs) =>
        if i + k ≤ xs.length then
          match mapO (fz n d H) ((xs.drop i).take k) with
          | some ys => some (.vals e ys)
          | none => none
        else none
      | none => none
    | .ptr r g i j =>
      if r < n then none else
      match rowOf H r g with
      | some (_, xs) =>
        match xs[i]? with
        | some x =>
          match mapO (fz n d H) (x.cells.drop j) with
          | some ys => some (.rptr ys)
          | none => none
        | none => none
      | none => none
    | .fn f caps =>
      match mapO (fz n d H) caps with
      | some xs => some (.fn f xs)
      | none => none
    | .mref r =>
      if r < n then none else
      match hget H r with
      | some (.map ks vs) =>
        match mapO (fz n d H) ks, mapO (fz n d H) vs with
        | some a, some b => some (.mval a b)
        | _, _ => none
      | _ => none
    | _ => none

def deep : Nat := 8

def fzC (n : Nat) (H : Hp) (v : V) : Option V :=
  match v with
  | .d x => some (.d x)
  | .slc r g i k => if r < n then some (.slc r g i k) else (match fz n deep H v with | some x => some (.d x) | none => none)
  | .ptr r g i j => if r < n then some (.ptr r g i j) else (match fz n deep H v with | some x => some (.d x) | none => none)
  | v => (match fz n deep H v with | some x => some (.d x) | none => none)

def fzV (n : Nat) (H : Hp) (v : V) : Option V :=
  match v with
  | .d x => some (.d x)
  | .agg cs => match mapO (fzC n H) cs with
    | some xs => some (mkAgg xs)
    | none => none
  | v => fzC n H v

def lowIn1 (r : Nat) : V → Bool
  | .d _ => true
  | .nils _ => true
  | .slc r' _ _ _ => Nat.blt r' r
  | .ptr r' _ _ _ => Nat.blt r' r
  | _ => false
def lowIn (r : Nat) : V → Bool
  | .d _ => true
  | .agg cs => cs.all (lowIn1 r)
  | v => lowIn1 r v
structure Bn where
  n : Nat
  ts : List Nat
instance : Coe Nat Bn := ⟨fun n => ⟨n, []⟩⟩
def okIn (B : Bn) (r : Nat) (v : V) : Bool := lowIn r v || (Nat.ble B.n r && B.ts.all fun m => Nat.ble m r || lowIn m v)
def lowT (n : Nat) : V → Bool
  | .any => true
  | .und => true
  | .fn _ caps => caps.all (lowIn1 n)
  | .mref r => Nat.blt r n
  | v => lowIn n v

def own1 (n : Nat) (H base : Hp) : V → Option (V × Hp × Hp)
  | .d x => some (.d x, H, base)
  | .nils e => some (.nils e, H, base)
  | .slc r g i k =>
    if r < n then some (.slc r g i k, H, base) else
    match rowOf H r g with
    | some (e, xs) =>
      match i, allD xs with
      | 0, some _ => some (.slc (hlen base) 0 0 k, hset H r .dead, hpush base (.row 0 e xs))
      | _, _ => none
    | none => none
  | .ptr r g i j =>
    if r < n then some (.ptr r g i j, H, base) else
    match rowOf H r g with
    | some (e, xs) =>
      match allD xs with
      | some _ => some (.ptr (hlen base) 0 i j, hset H r .dead, hpush base (.row 0 e xs))
      | none => none
    | none => none
  | _ => none

def ownCs (f : Hp → Hp → V → Option (V × Hp × Hp)) : Hp → Hp → List V → Option (List V × Hp × Hp)
  | H, base, [] => some ([], H, base)
  | H, base, v :: r =>
    match f H base v with
    | some (x, H, base) =>
      match ownCs f H base r with
      | some (xs, H, base) => some (x :: xs, H, base)
      | none => none
    | none => none

def ownEl (f : Hp → Hp → V → Option (V × Hp × Hp)) (H base : Hp) : V → Option (V × Hp × Hp)
  | .agg cs => (match ownCs f H base cs with | some (ys, H, base) => some (mkAgg ys, H, base) | none => none)
  | v => f H base v

def ownEs (f : Hp → Hp → V → Option (V × Hp × Hp)) : Hp → Hp → List V → Option (List V × Hp × Hp)
  | H, base, [] => some ([], H, base)
  | H, base, v :: r =>
    match ownEl f H base v with
    | some (x, H, base) =>
      match ownEs f H base r with
      | some (xs, H, base) => some (x :: xs, H, base)
      | none => none
    | none => none

def layer (n : Nat) (f : Hp → Hp → V → Option (V × Hp × Hp)) (H base : Hp) (v : V) : Option (V × Hp × Hp) :=
  match own1 n H base v with
  | some r => some r
  | none =>
    match v with
    | .slc r g 0 k =>
      if r < n then none else
      match rowOf H r g with
      | some (e, xs) =>
        match ownEs f H base xs with
        | some (ys, H1, base1) =>
          match rowOf H1 r g with
          | some _ => some (.slc (hlen base1) 0 0 k, hset H1 r .dead, hpush base1 (.row 0 e ys))
          | none => none
        | none => none
      | none => none
    | _ => none

def ownL (n : Nat) (H base : Hp) (vs : List V) : Option (List V × Hp × Hp) := ownEs (layer n (layer n (layer n (own1 n)))) H base vs

/-! ### Code -/
inductive AOpd where
  | t (n : Nat)
  | c (x : D)
  | f (k : Nat)
  | g (n : Nat)
  | nil (e : Nat)
  | u
  deriving Inhabited

inductive SK where
  | i | s | b
  deriving DecidableEq, Inhabited
inductive BTy where
  | val | bool | iface
  | agg (ks : List SK)
  deriving DecidableEq, Inhabited

inductive AOp where
  | mv (x : AOpd)
  | pick (c a b : AOpd)
  | alloc (z : V)
  | box (x : AOpd)
  | build (z : List V) (parts : List (Nat × Nat × AOpd))
  | lit (own : Bool) (e : Nat) (parts : List AOpd)
  | litf (e : Nat) (parts : List AOpd)
  | load (ag : Bool) (n : Nat) (a : AOpd)
  | store (n : Nat) (a x : AOpd)
  | nilck (x : AOpd)
  | bin (op : BinOp) (ty : BTy) (x y : AOpd)
  | un (op : UnOp) (x : AOpd)
  | cvInt (k : IntKind) (x : AOpd)
  | cvId (x : AOpd)
  | cvStr (x : AOpd)
  | mkfn (f : Fn) (caps : List AOpd)
  | mkmap
  | insert (m k v : AOpd)
  | lookup (z : D) (m k : AOpd) (ok : Bool)
  | mkslice (e bytes : Nat) (z : V) (len cap : AOpd)
  | slice (e : Option Nat) (x : AOpd) (lo hi : Option AOpd)
  | faddr (off : Nat) (x : AOpd)
  | field (ag : Bool) (off n : Nat) (x : AOpd)
  | iaddr (e : Nat) (x i : AOpd)
  | idx (x i : AOpd)
  | extract (x : AOpd) (i : Nat)
  | mkiface (t : Nat) (x : AOpd)
  | call (f : AOpd) (args : List (Bool × AOpd)) (fr : Bool)
  | pcall (f : AOpd) (args : List AOpd)
  | len (str : Bool) (x : AOpd)
  | append (e bytes : Nat) (s x : AOpd)
  | mnmx (mx : Bool) (xs : List AOpd)
  deriving Inhabited

structure AOper where
  dst : Option Nat
  guard : Option (Nat × Bool)
  op : AOp
  deriving Inhabited

def mV (d s : Nat) : AOper := ⟨some d, none, .mv (.t s)⟩
def oP (d : Nat) (x : AOp) : AOper := ⟨some d, none, x⟩
def oG (d g : Nat) (b : Bool) (x : AOp) : AOper := ⟨some d, some (g, b), x⟩
def oN (x : AOp) : AOper := ⟨none, none, x⟩
def oL (d s : Nat) : AOper := ⟨some d, none, .load false 1 (.t s)⟩
def oF (d o s : Nat) : AOper := ⟨some d, none, .faddr o (.t s)⟩

inductive ACode where
  | skip
  | reg (draw : Bool) (ops : List AOper)
  | regx (ops : List (Bool × AOper))
  | seq (a : ACode) (lv : List Nat) (b : ACode)
  | cond (c : AOpd) (a b : ACode)
  | block (id : Nat) (b : ACode)
  | loop (lv : List Nat) (b : ACode)
  | scope (b : ACode)
  | trim (lv : List Nat) (b : ACode)
  | frz (ts : List Nat) (b : ACode)
  | exit (id : Nat)
  | ret
  deriving Inhabited

inductive ARes where
  | tmp (t : Nat)
  | cell (t : Nat) (ag : Bool) (n : Nat)
  deriving Inhabited

structure AFunc where
  np : Nat
  nt : Nat
  res : List ARes
  own : Bool
  body : ACode
  deriving Inhabited

structure St where
  env : Env
  hp : Hp

inductive Out where
  | normal
  | exit (id : Nat)
  | ret
  deriving DecidableEq

abbrev Callf := Nat → List V → Hp → Option (V × Hp)
abbrev Glob := Nat → Option (List D)

/-! ### What an operation gives -/
def opd (G : Glob) (env : Env) : AOpd → V
  | .t n => env.get n
  | .c x => .d x
  | .f k => .d (.fn (.func k) [])
  | .g n => match G n with | some cs => .d (.rptr cs) | none => .any
  | .nil e => .nils e
  | .u => .und

def bitsOp (op : BinOp) (k : IntKind) (x y : Int) : Option Int :=
  match op with
  | .and => some (k.wrap ((BitVec.ofInt k.bits x &&& BitVec.ofInt k.bits y).toNat : Int))
  | .or => some (k.wrap ((BitVec.ofInt k.bits x ||| BitVec.ofInt k.bits y).toNat : Int))
  | .xor => some (k.wrap ((BitVec.ofInt k.bits x ^^^ BitVec.ofInt k.bits y).toNat : Int))
  | .andNot => some (k.wrap ((BitVec.ofInt k.bits x &&& ~~~(BitVec.ofInt k.bits y)).toNat : Int))
  | _ => none

def binInt (op : BinOp) (k : IntKind) (x y : Int) : Option D :=
  match op with
  | .add => some (.int k (k.wrap (x + y)))
  | .sub => some (.int k (k.wrap (x - y)))
  | .mul => some (.int k (k.wrap (x * y)))
  | .quo => if y = 0 then none else some (.int k (k.wrap (x.tdiv y)))
  | .rem => if y = 0 then none else some (.int k (x.tmod y))
  | .eql => some (.bool (decide (x = y)))
  | .neq => some (.bool (!decide (x = y)))
  | .lss => some (.bool (decide (x < y)))
  | .leq => some (.bool (decide (x ≤ y)))
  | .gtr => some (.bool (decide (x > y)))
  | .geq => some (.bool (decide (x ≥ y)))
  | op =>
    match bitsOp op k x y with
    | some n => some (.int k n)
    | none => none

def shInt (op : BinOp) (k : IntKind) (x y : Int) : Option D :=
  if y < 0 then none else
  match op with
  | .shl => some (.int k (k.wrap (x * 2 ^ (min y.toNat k.bits))))
  | .shr => some (.int k (x.fdiv (2 ^ (min y.toNat k.bits))))
  | _ => none

def strRoom : Nat := 9223372036854775807

def binStr (op : BinOp) (x y : List UInt8) : Option D :=
  match op with
  | .add => if x.length + y.length ≤ strRoom then some (.str (x ++ y)) else none
  | .eql => some (.bool (decide (x = y)))
  | .neq => some (.bool (!decide (x = y)))
  | .lss => some (.bool (Op.bytesLess x y))
  | .leq => some (.bool (Op.bytesLess x y || decide (x = y)))
  | .gtr => some (.bool (!(Op.bytesLess x y || decide (x = y))))
  | .geq => some (.bool (!Op.bytesLess x y))
  | _ => none

def scalEq : SK → D → D → Option Bool
  | .i, .int k a, .int k' b => if k = k' then some (decide (a = b)) else none
  | .s, .str a, .str b => some (decide (a = b))
  | .b, .bool a, .bool b => some (a == b)
  | _, _, _ => none

def scalEqs : List SK → List D → List D → Option Bool
  | [], [], [] => some true
  | k :: ks, a :: ags, b :: bs =>
    match scalEq k a b, scalEqs ks ags bs with
    | some x, some y => some (x && y)
    | _, _ => none
  | _, _, _ => none

def eqOf (ty : BTy) (x y : D) : Option Bool :=
  match ty, x, y with
  | .bool, .bool a, .bool b => some (a == b)
  | .agg ks, .agg a, .agg b => scalEqs ks a b
  | .iface, .niface, .niface => some true
  | .iface, .niface, .iface _ _ => some false
  | .iface, .iface _ _, .niface => some false
  | _, _, _ => none

def binD (op : BinOp) (ty : BTy) (x y : D) : Option D :=
  match ty with
  | .val =>
    match op, x, y with
    | .shl, .int k a, .int _ b => shInt .shl k a b
    | .shr, .int k a, .int _ b => shInt .shr k a b
    | op, .int k a, .int k' b => if k = k' then binInt op k a b else none
    | op, .str a, .str b => binStr op a b
    | _, _, _ => none
  | ty =>
    match op with
    | .eql => match eqOf ty x y with | some b => some (.bool b) | none => none
    | .neq => match eqOf ty x y with | some b => some (.bool !b) | none => none
    | _ => none

def unD (op : UnOp) (x : D) : Option D :=
  match op, x with
  | .neg, .int k n => some (.int k (k.wrap (-n)))
  | .not, .bool b => some (.bool !b)
  | _, _ => none

def src (H : Hp) : V → Option (Nat × List V × Bool)
  | .d (.vals e xs) => some (e, xs.map .d, true)
  | .nils e => some (e, [], true)
  | .slc r g i n =>
    match rowOf H r g with
    | some (e, xs) => if i + n ≤ xs.length then some (e, (xs.drop i).take n, false) else none
    | none => none
  | _ => none

def strOf : List V → Option (List UInt8)
  | [] => some []
  | .d (.int .u8 n) :: r =>
    match strOf r with
    | some s => some (UInt8.ofNat n.toNat :: s)
    | none => none
  | _ :: _ => none

def setAt (cs : List V) (off : Nat) (vs : List V) : List V := cs.take off ++ vs ++ cs.drop (off + vs.length)

def fills (G : Glob) (env : Env) : List V → List (Nat × Nat × AOpd) → Option (List V)
  | cs, [] => some cs
  | cs, (off, n, x) :: r =>
    if (opd G env x).sto = true ∧ (opd G env x).cells.length = n ∧ off + n ≤ cs.length then fills G env (setAt cs off (opd G env x).cells) r else none

def asI : V → Option Int
  | .d (.int _ n) => some n
  | _ => none

def bound (G : Glob) (env : Env) (dflt : Nat) (lim : Nat) : Option AOpd → Option Nat
  | none => some dflt
  | some x =>
    match asI (opd G env x) with
    | some n => if 0 ≤ n ∧ n ≤ (lim : Int) then some n.toNat else none
    | none => none

def keyEq : D → D → Option Bool
  | .str a, .str b => some (decide (a = b))
  | _, _ => none

def look {α : Type} (k : D) : List D → List α → Option (Option α)
  | [], _ => some none
  | x :: xs, v :: vs =>
    match keyEq k x with
    | some true => some (some v)
    | some false => look k xs vs
    | none => none
  | _ :: _, [] => none

def mnmx2 (mx : Bool) : V → V → Option V
  | .d (.int k x), .d (.int k' y) => if k = k' then some (.d (.int k (bif mx then (if y > x then y else x) else (if y < x then y else x)))) else none
  | _, _ => none

def mnmxL (mx : Bool) : V → List V → Option V
  | x, [] => some x
  | x, y :: r => match mnmx2 mx x y with | some z => mnmxL mx z r | none => none

open Classical in
noncomputable def pureCall (cl : Callf) (f : Nat) (args : List V) : Option V :=
  if h : ∃ v, ∀ H, cl f args H = some (v, H) then some h.choose else none

theorem pureCall_eq {cl : Callf} {f : Nat} {args : List V} {v : V} (h : ∀ H, cl f args H = some (v, H)) : pureCall cl f args = some v := by
  unfold pureCall
  have hx : ∃ v, ∀ H, cl f args H = some (v, H) := ⟨v, h⟩
  rw [dif_pos hx]
  have h1 := hx.choose_spec []
  rw [h []] at h1
  simp only [Option.some.injEq, Prod.mk.injEq, and_true] at h1
  rw [← h1]

open Classical in
noncomputable def pureFCall (cl : Callf) (f : Nat) (args : List V) : Option V :=
  if h : ∃ x, ∀ H, ∃ v H2, cl f args H = some (v, H2) ∧ fzV (hlen H) H2 v = some x ∧ htake H2 (hlen H) = H then some h.choose else none

theorem pureFCall_eq {cl : Callf} {f : Nat} {args : List V} {x : V} (h : ∀ H, ∃ v H2, cl f args H = some (v, H2) ∧ fzV (hlen H) H2 v = some x ∧ htake H2 (hlen H) = H) : pureFCall cl f args = some x := by
  unfold pureFCall
  have hx : ∃ x, ∀ H, ∃ v H2, cl f args H = some (v, H2) ∧ fzV (hlen H) H2 v = some x ∧ htake H2 (hlen H) = H := ⟨x, h⟩
  rw [dif_pos hx]
  obtain ⟨v, H2, h1, h2, _⟩ := hx.choose_spec []
  obtain ⟨v', H2', h1', h2', _⟩ := h []
  rw [h1] at h1'
  simp only [Option.some.injEq, Prod.mk.injEq] at h1'
  obtain ⟨rfl, rfl⟩ := h1'
  rw [h2] at h2'
  exact h2'

theorem pureFCall_some {cl : Callf} {f : Nat} {args : List V} {x : V} (h : pureFCall cl f args = some x) : ∀ H, ∃ v H2, cl f args H = some (v, H2) ∧ fzV (hlen H) H2 v = some x ∧ htake H2 (hlen H) = H := by
  unfold pureFCall at h
  split at h
  · rename_i hx
    simp only [Option.some.injEq] at h
    subst h
    exact hx.choose_spec
  · simp at h

def isData1 : V → Bool
  | .d _ => true
  | .nils _ => true
  | _ => false
def isData : V → Bool
  | .d _ => true
  | .nils _ => true
  | .agg cs => cs.all isData1
  | _ => false

def flatD : D → Bool
  | .bool _ => true
  | .int _ _ => true
  | .str _ => true
  | _ => false

def flatV : V → Bool
  | .d x => flatD x
  | .tup vs => vs.all fun v => match v with | .d x => flatD x | _ => false
  | _ => false

def toD1 : V → Option D
  | .d x => some x
  | .nils e => some (.vals e [])
  | _ => none
def toDs : List V → Option (List D)
  | [] => some []
  | v :: r =>
    match toD1 v with
    | some x =>
      match toDs r with
      | some xs => some (x :: xs)
      | none => none
    | none => none
def dat : V → V
  | .nils e => .d (.vals e [])
  | .agg cs => (match toDs cs with | some xs => .d (.agg xs) | none => .agg cs)
  | v => v

def view1 (H : Hp) : V → Option D
  | .d x => some x
  | .nils e => some (.vals e [])
  | .slc r g i k =>
    match rowOf H r g with
    | some (e, xs) =>
      if i + k ≤ xs.length then
        match allD xs with
        | some ds => some (.vals e ((ds.drop i).take k))
        | none => none
      else none
    | none => none
  | .ptr r g i j =>
    match rowOf H r g with
    | some (_, xs) =>
      match allD xs with
      | some ds =>
        if i < ds.length then some (.rptr ((ds.getD i .nilp).cells.drop j)) else none
      | none => none
    | none => none
  | _ => none
def view (H : Hp) : V → Option D
  | .fn f caps => match mapO (view1 H) caps with | some xs => some (.fn f xs) | none => none
  | .agg cs => match mapO (view1 H) cs with | some xs => some (.agg xs) | none => none
  | v => match view1 H v with | some x => some x | none => fz 0 deep H v

def hand1 (H : Hp) (k : Bool) (v : V) : Option (V × Hp) :=
  match k, v with
  | true, .slc r g i n => (match view1 H (.slc r g i n) with | some x => some (.d x, hset H r .dead) | none => none)
  | _, v => if v.ok = true then some (v, H) else none

def frzE : List Nat → Env → Hp → Option (Env × Hp)
  | [], e, H => some (e, H)
  | t :: ts, e, H =>
    match hand1 H true (e.get t) with
    | some (v, H) => frzE ts ((t, v) :: e) H
    | none => none

def hand (G : Glob) (env : Env) : Hp → List (Bool × AOpd) → Option (List V × Hp)
  | H, [] => some ([], H)
  | H, (k, x) :: r =>
    let v := opd G env x
    match (match k, v with
      | true, .slc r g i n => (match view1 H (.slc r g i n) with | some x => some (.d x, hset H r .dead) | none => none)
      | _, v => if v.ok = true then some (v, H) else none) with
    | some (v, H) =>
      match hand G env H r with
      | some (vs, H) => some (v :: vs, H)
      | none => none
    | none => none

def room : Nat := 140737488355328

noncomputable def evOp (cl : Callf) (G : Glob) (n0 : Bn) (env : Env) (H : Hp) : AOp → Option (V × Hp)
  | .mv x => if (opd G env x).ok = true then some (opd G env x, H) else none
  | .pick c a b =>
    match opd G env c with
    | .d (.bool t) => if (bif t then opd G env a else opd G env b).ok = true then some ((bif t then opd G env a else opd G env b), H) else none
    | _ => none
  | .alloc z => if z.sto = true then some (.ptr (hlen H) 0 0 0, hpush H (.row 0 z.cells.length [z])) else none
  | .box x => if (opd G env x).sto = true then some (.ptr (hlen H) 0 0 0, hpush H (.row 0 (opd G env x).cells.length [opd G env x])) else none
  | .build z parts =>
    match fills G env z parts with
    | some cs => some (mkAgg cs, H)
    | none => none
  | .lit own e parts =>
    let vs := parts.map (opd G env)
    if vs.all (fun v => Nat.beq v.cells.length e && v.sto) = true then
      match own with
      | true => some (.slc (hlen H) 0 0 vs.length, hpush H (.row 0 e vs))
      | false => match allD (vs.map dat) with | some xs => some (.d (.vals e xs), H) | none => none
    else none
  | .litf e parts =>
    match hand G env H (parts.map fun x => (true, x)) with
    | some (vs, H1) =>
      if vs.all (fun v => Nat.beq v.cells.length e && v.sto) = true then
        match allD vs with | some xs => some (.d (.vals e xs), H1) | none => none
      else none
    | none => none
  | .load ag n a =>
    match opd G env a with
    | .ptr r g i j =>
      match hload H r g i j n with
      | some cs => match mkVal ag cs with | some v => some (v, H) | none => none
      | none => none
    | .d (.rptr cs) =>
      if n ≤ cs.length then match mkVal ag ((cs.take n).map .d) with | some v => some (v, H) | none => none else none
    | _ => none
  | .store n a x =>
    match opd G env a with
    | .ptr r g i j =>
      let vs := (opd G env x).cells
      if vs.length = n ∧ (opd G env x).sto = true ∧ okIn n0 r (opd G env x) = true then
        match hstore H r g i j vs with
        | some H' => some (.und, H')
        | none => none
      else none
    | _ => none
  | .nilck x =>
    match opd G env x with
    | .ptr r g i j => some (.ptr r g i j, H)
    | .d (.rptr cs) => some (.d (.rptr cs), H)
    | .fn (.func k) caps => some (.fn (.func k) caps, H)
    | .d (.fn (.func k) caps) => some (.d (.fn (.func k) caps), H)
    | _ => none
  | .bin op ty x y =>
    match opd G env x, opd G env y with
    | .d a, .d b => match binD op ty a b with | some z => some (.d z, H) | none => none
    | _, _ => none
  | .un op x =>
    match opd G env x with
    | .d a => match unD op a with | some z => some (.d z, H) | none => none
    | _ => none
  | .cvInt k x =>
    match opd G env x with
    | .d (.int _ n) => some (.d (.int k (k.wrap n)), H)
    | _ => none
  | .cvId x =>
    match opd G env x with
    | .d (.str s) => some (.d (.str s), H)
    | _ => none
  | .cvStr x =>
    match src H (opd G env x) with
    | some (e, vs, _) => match strOf vs with | some s => if e = 1 then some (.d (.str s), H) else none | none => none
    | none => none
  | .mkfn f caps =>
    match allD (caps.map (opd G env)) with
    | some xs => some (.d (.fn f xs), H)
    | none => if (caps.map (opd G env)).all V.ok = true then some (.fn f (caps.map (opd G env)), H) else none
  | .mkmap => some (.mref (hlen H), hpush H (.map [] []))
  | .insert m k v =>
    match opd G env m, opd G env k with
    | .mref r, .d kd =>
      match hget H r with
      | some (.map ks vs) =>
        match allD ks with
        | some kds =>
          match look kd kds vs with
          | some none => if (opd G env v).ok = true ∧ okIn n0 r (opd G env v) = true then some (.und, hset H r (.map (ks ++ [.d kd]) (vs ++ [opd G env v]))) else none
          | _ => none
        | none => none
      | _ => none
    | _, _ => none
  | .lookup z m k ok =>
    match opd G env m, opd G env k with
    | .d (.mval ks vs), .d kd =>
      match look kd ks vs with
      | some (some v) => some ((bif ok then .tup [.d v, .d (.bool true)] else .d v), H)
      | some none => some ((bif ok then .tup [.d z, .d (.bool false)] else .d z), H)
      | none => none
    | _, _ => none
  | .mkslice e bytes z len cap =>
    match opd G env len, opd G env cap with
    | .d (.int .i64 n), .d (.int .i64 c) =>
      if 0 ≤ n ∧ n = c ∧ n * bytes ≤ (room : Int) ∧ z.cells.length = e ∧ z.sto = true then
        some (.slc (hlen H) 0 0 n.toNat, hpush H (.row 0 e (List.replicate n.toNat z)))
      else none
    | _, _ => none
  | .slice oe x lo hi =>
    match oe, opd G env x with
    | none, .d (.str s) =>
      match bound G env s.length s.length hi with
      | some h => match bound G env 0 h lo with
        | some l => some (.d (.str ((s.take h).drop l)), H)
        | none => none
      | none => none
    | some e, .d (.vals e' xs) =>
      match bound G env xs.length xs.length hi with
      | some h => match bound G env 0 h lo with
        | some l => if e' = e then some (.d (.vals e ((xs.take h).drop l)), H) else none
        | none => none
      | none => none
    | some e, .slc r g i n =>
      match rowOf H r g with
      | some (e', _) =>
        match bound G env n n hi with
        | some h => match bound G env 0 h lo with
          | some l => if e' = e then some (.slc r g (i + l) (h - l), H) else none
          | none => none
        | none => none
      | none => none
    | _, _ => none
  | .faddr off x =>
    match opd G env x with
    | .ptr r g i j => some (.ptr r g i (j + off), H)
    | .d (.rptr cs) => if off < cs.length then some (.d (.rptr (cs.drop off)), H) else none
    | _ => none
  | .field ag off n x =>
    if off + n ≤ (opd G env x).cells.length ∧ (opd G env x).isAgg = true then
      match mkVal ag (((opd G env x).cells.drop off).take n) with
      | some v => some (v, H)
      | none => none
    else none
  | .iaddr e x i =>
    match asI (opd G env i) with
    | some k =>
      match opd G env x with
      | .d (.vals e' xs) => if 0 ≤ k ∧ k < (xs.length : Int) ∧ e' = e then some (.d (.rptr (xs.getD k.toNat .nilp).cells), H) else none
      | .slc r g j n => if 0 ≤ k ∧ k < (n : Int) then (match rowOf H r g with | some (e', _) => if e' = e then some (.ptr r g (j + k.toNat) 0, H) else none | none => none) else none
      | _ => none
    | none => none
  | .idx x i =>
    match opd G env x, asI (opd G env i) with
    | .d (.str s), some k => if 0 ≤ k ∧ k < (s.length : Int) then some (.d (.int .u8 ((s.getD k.toNat 0).toNat : Int)), H) else none
    | _, _ => none
  | .extract x i =>
    match opd G env x with
    | .tup vs => match vs[i]? with | some v => some (v, H) | none => none
    | _ => none
  | .mkiface t x =>
    match opd G env x with
    | .d a => some (.d (.iface t a), H)
    | _ => none
  | .call f args fr =>
    match (match opd G env f with | .d (.fn (.func k) caps) => some (k, caps.map V.d) | .fn (.func k) caps => some (k, caps) | _ => none) with
    | some (k, caps) =>
      match hand G env H args with
      | some (vs, H1) =>
        match cl k (vs ++ caps) H1 with
        | some (v, H2) =>
          match fr with
          | false => some (v, H2)
          | true => match fzV (hlen H1) H2 v with | some v' => some (v', htake H2 (hlen H1)) | none => none
        | none => none
      | none => none
    | none => none
  | .pcall f args =>
    match (match opd G env f with | .d (.fn (.func k) caps) => some (k, caps.map V.d) | _ => none) with
    | some (k, caps) =>
      let vs := args.map (opd G env)
      match mapO (view H) vs with
      | some ws =>
        match pureCall cl k (ws.map .d ++ caps) with
        | some v => if vs.all isData || flatV v then some (v, H) else none
        | none =>
          match pureFCall cl k (ws.map .d ++ caps) with
          | some v => if vs.all isData then some (v, H) else none
          | none => none
      | none => none
    | none => none
  | .len str x =>
    match str, opd G env x with
    | true, .d (.str s) => some (.d (.int .i64 (s.length : Int)), H)
    | false, .d (.vals _ xs) => some (.d (.int .i64 (xs.length : Int)), H)
    | false, .nils _ => some (.d (.int .i64 0), H)
    | false, .slc _ _ _ n => some (.d (.int .i64 (n : Int)), H)
    | _, _ => none
  | .append e bytes s x =>
    match src H (opd G env x) with
    | some (ey, ys, dat) =>
      match opd G env s with
      | .nils e1 =>
        match ys with
        | [] => if e1 = e then some (.nils e, H) else none
        | y :: ys => if ey = e ∧ e1 = e ∧ (y :: ys).length * bytes ≤ room then some (.slc (hlen H) 0 0 (y :: ys).length, hpush H (.row 0 e (y :: ys))) else none
      | .slc r g i n =>
        match i, rowOf H r g with
        | 0, some (e', xs) =>
          if ey = e ∧ e' = e ∧ n ≤ xs.length ∧ (dat || ys.all (okIn n0 r)) = true then
            if n = xs.length then
              if (n + ys.length) * bytes ≤ room then some (.slc r (g + 1) 0 (n + ys.length), hset H r (.row (g + 1) e (xs ++ ys))) else none
            else if n + ys.length ≤ xs.length then some (.slc r g 0 (n + ys.length), hset H r (.row g e (xs.take n ++ ys ++ xs.drop (n + ys.length))))
            else if (n + ys.length) * bytes ≤ room then some (.slc r (g + 1) 0 (n + ys.length), hset H r (.row (g + 1) e (xs.take n ++ ys)))
            else none
          else none
        | _, _ => none
      | _ => none
    | none => none
  | .mnmx mx xs =>
    match xs.map (opd G env) with
    | v :: v2 :: vs => match mnmxL mx v (v2 :: vs) with | some z => some (z, H) | none => none
    | _ => none

def Env.put (env : Env) : Option Nat → V → Env
  | some d, v => (d, v) :: env
  | none, _ => env

noncomputable def evOper (cl : Callf) (G : Glob) (n0 : Bn) (o : AOper) (st : St) : Option St :=
  match o.guard with
  | none => (match evOp cl G n0 st.env st.hp o.op with | some (v, H) => some ⟨st.env.put o.dst v, H⟩ | none => none)
  | some (t, want) =>
    match st.env.get t with
    | .d (.bool b) =>
      (bif b == want then (match evOp cl G n0 st.env st.hp o.op with | some (v, H) => some ⟨st.env.put o.dst v, H⟩ | none => none)
      else some ⟨st.env.put o.dst .und, st.hp⟩)
    | .und => some ⟨st.env.put o.dst .und, st.hp⟩
    | _ => none

noncomputable def evOps (cl : Callf) (G : Glob) (n0 : Bn) : List AOper → St → Option St
  | [], st => some st
  | o :: os, st =>
    match evOper cl G n0 o st with
    | some st' => evOps cl G n0 os st'
    | none => none

def Again (o : AOper) (st st' : St) : Prop :=
  match o.dst with
  | some d => st'.hp = st.hp ∧ st'.env.get d = st.env.get d
  | none => False
open Classical in
noncomputable def evX (cl : Callf) (G : Glob) (n0 : Bn) : List (Bool × AOper) → St → Option St
  | [], st => some st
  | (true, o) :: r, st =>
    match evOper cl G n0 o st with
    | some st' => evX cl G n0 r st'
    | none => none
  | (false, o) :: r, st =>
    match evOper cl G n0 o st with
    | some st' => if Again o st st' then evX cl G n0 r st else none
    | none => none

def Env.keep (env : Env) : List Nat → Env
  | [] => []
  | t :: r => (t, env.get t) :: Env.keep env r

def rounds (f : St → Option (Out × St)) (lv : List Nat) : Nat → St → Option (Out × St)
  | 0, _ => none
  | n + 1, st =>
    match f ⟨st.env.keep lv, st.hp⟩ with
    | some (.normal, st') => rounds f lv n st'
    | r => r

noncomputable def evCode (cl : Callf) (G : Glob) (n0 : Bn) (lp : (St → Option (Out × St)) → List Nat → St → Option (Out × St)) : ACode → St → Option (Out × St)
  | .skip, st => some (.normal, st)
  | .reg _ ops, st => (match evOps cl G n0 ops st with | some st' => some (.normal, st') | none => none)
  | .regx ops, st => (match evX cl G n0 ops st with | some st' => some (.normal, st') | none => none)
  | .seq a lv b, st =>
    match evCode cl G n0 lp a st with
    | some (.normal, st') => evCode cl G n0 lp b ⟨st'.env.keep lv, st'.hp⟩
    | r => r
  | .cond c a b, st =>
    match opd G st.env c with
    | .d (.bool t) => bif t then evCode cl G n0 lp a st else evCode cl G n0 lp b st
    | _ => none
  | .block id b, st =>
    match evCode cl G n0 lp b st with
    | some (.exit id', st') => bif Nat.beq id' id then some (.normal, st') else some (.exit id', st')
    | r => r
  | .loop lv b, st => lp (evCode cl G n0 lp b) lv st
  | .scope b, st => evCode cl G n0 lp b st
  | .frz ts b, st =>
    match frzE ts st.env st.hp with
    | some (e, H) => evCode cl G n0 lp b ⟨e, H⟩
    | none => none
  | .trim lv b, st =>
    match evCode cl G ⟨n0.n, hlen st.hp :: n0.ts⟩ lp b st with
    | some (.normal, st') => if (lv.all fun t => lowT (hlen st.hp) (st'.env.get t)) = true then some (.normal, ⟨st'.env.keep lv, htake st'.hp (hlen st.hp)⟩) else none
    | r => r
  | .exit id, st => some (.exit id, st)
  | .ret, st => some (.ret, st)

def zipEnv : Nat → List V → Env
  | _, [] => []
  | i, v :: r => (i, v) :: zipEnv (i + 1) r

def resOf (env : Env) (H : Hp) : List ARes → Option (List V)
  | [] => some []
  | .tmp t :: r => (match resOf env H r with | some vs => some (env.get t :: vs) | none => none)
  | .cell t ag n :: r =>
    match env.get t with
    | .ptr p g i j =>
      match hload H p g i j n with
      | some cs =>
        match mkVal ag cs, resOf env H r with
        | some v, some vs => some (v :: vs)
        | _, _ => none
      | none => none
    | _ => none

def tupOf : List V → V
  | [v] => v
  | vs => .tup vs

def leave (fn : AFunc) (n : Nat) (st : St) : Option (V × Hp) :=
  match resOf st.env st.hp fn.res with
  | some vs =>
    match fn.own with
    | true =>
      match ownL n st.hp (htake st.hp n) vs with
      | some (ws, _, H) => some (tupOf ws, H)
      | none => none
    | false =>
      match mapO (fzV n st.hp) vs with
      | some ws => some (tupOf ws, htake st.hp n)
      | none => none
  | none => none

noncomputable def evBody (cl : Callf) (G : Glob) (lp : (St → Option (Out × St)) → List Nat → St → Option (Out × St)) (fn : AFunc) (args : List V) (H : Hp) : Option (V × Hp) :=
  if args.length = fn.np then
    match evCode cl G (hlen H) lp fn.body ⟨zipEnv 0 args, H⟩ with
    | some (.normal, st) => leave fn (hlen H) st
    | some (.ret, st) => leave fn (hlen H) st
    | _ => none
  else none

structure Prg where
  fns : Nat → Option AFunc
  glob : Glob
  prim : Nat → Option (List V → Hp → Option (V × Hp))

end Go.Ev
/- What abstract values stand for in a world, and that it stays so while the world goes on. -/
namespace Go.Ev
open Go
set_option linter.unusedSimpArgs false
set_option linter.unusedVariables false

abbrev Own := Nat → Prop
abbrev Pl := Nat → Nat → Option (Nat × Nat × Nat)

inductive RD (w : World) (O : Own) : D → Value → Prop where
  | bool (b : Bool) : RD w O (.bool b) (.bool b)
  | int (k : IntKind) (n : Int) : RD w O (.int k n) (.int k n)
  | str (s : List UInt8) (t : ByteArray) (h : t.data.toList = s) : RD w O (.str s) (.string t)
  | agg (cs : List D) (us : Array Value) (hl : us.size = cs.length) (h1 : ∀ i, i < cs.length → (us.getD i undef).oneCell' = true) (h : ∀ i, i < cs.length → RD w O (cs.getD i .nilp) (us.getD i undef)) : RD w O (.agg cs) (.agg us)
  | vals0 (e : Nat) (a : Option Addr) (cap : Nat) : RD w O (.vals e []) (.slice a 0 cap)
  | vals (e : Nat) (xs : List D) (b o cap : Nat) (F : Nat → Nat → Value) (hcap : xs.length ≤ cap) (hO : ¬ O b) (hb : b < w.heap.size)
      (he : ∀ i, i < xs.length → (xs.getD i .nilp).cells.length = e)
      (hc : ∀ i j, i < xs.length → j < e → w.cell? ⟨b, o + i * e + j, none⟩ = some (F i j)) (h1 : ∀ i j, i < xs.length → j < e → (F i j).oneCell' = true)
      (hr : ∀ i j, i < xs.length → j < e → RD w O ((xs.getD i .nilp).cells.getD j .nilp) (F i j)) : RD w O (.vals e xs) (.slice (some ⟨b, o, none⟩) xs.length cap)
  | nilp : RD w O .nilp (.pointer none)
  | rptr (cs : List D) (b o : Nat) (F : Nat → Value) (hO : ¬ O b) (hb : b < w.heap.size)
      (hc : ∀ j, j < cs.length → w.cell? ⟨b, o + j, none⟩ = some (F j)) (h1 : ∀ j, j < cs.length → (F j).oneCell' = true)
      (hr : ∀ j, j < cs.length → RD w O (cs.getD j .nilp) (F j)) : RD w O (.rptr cs) (.pointer (some ⟨b, o, none⟩))
  | fn (f : Fn) (caps : List D) (us : Array Value) (hl : us.size = caps.length) (h : ∀ i, i < caps.length → RD w O (caps.getD i .nilp) (us.getD i undef)) : RD w O (.fn f caps) (.func f #[] us)
  | nilfn : RD w O .nilfn .nilFunc
  | iface (t : Nat) (x : D) (u : Value) (h : RD w O x u) : RD w O (.iface t x) (.iface t u)
  | niface : RD w O .niface .nilIface
  | mval0 : RD w O (.mval [] []) (.map none)
  | mval (ks vs : List D) (b : Nat) (es : Array MapEntry) (clock : Nat) (hO : ¬ O b) (hb : b < w.heap.size) (hm : w.heap[b]? = some (.map es clock))
      (hk : es.size = ks.length) (hv : es.size = vs.length)
      (hrk : ∀ i, i < es.size → RD w O (ks.getD i .nilp) (es.getD i default).key)
      (hrv : ∀ i, i < es.size → RD w O (vs.getD i .nilp) (es.getD i default).val) : RD w O (.mval ks vs) (.map (some b))

inductive RV (w : World) (O : Own) (pl : Pl) (n : Nat) : V → Value → Prop where
  | d (x : D) (u : Value) (h : RD w O x u) : RV w O pl n (.d x) u
  | agg (cs : List V) (us : Array Value) (hl : us.size = cs.length) (h1 : ∀ i, i < cs.length → (us.getD i undef).oneCell' = true) (h : ∀ i, i < cs.length → RV w O pl n (cs.getD i .any) (us.getD i undef)) : RV w O pl n (.agg cs) (.agg us)
  | tup (cs : List V) (us : Array Value) (hl : us.size = cs.length) (h : ∀ i, i < cs.length → RV w O pl n (cs.getD i .any) (us.getD i undef)) : RV w O pl n (.tup cs) (.tuple us)
  | slc (r g i k b e c : Nat) (hr : r < n) (hp : pl r g = some (b, e, c)) (hk : i + k ≤ c) : RV w O pl n (.slc r g i k) (.slice (some ⟨b, i * e, none⟩) k (c - i))
  | slc0 (r g i : Nat) (a : Option Addr) (cap : Nat) (hi : 0 < i) (hr : r < n) : RV w O pl n (.slc r g i 0) (.slice a 0 cap)
  | ptr (r g i j b e c : Nat) (hr : r < n) (hp : pl r g = some (b, e, c)) : RV w O pl n (.ptr r g i j) (.pointer (some ⟨b, i * e + j, none⟩))
  | fn (f : Fn) (cs : List V) (us : Array Value) (hl : us.size = cs.length) (h : ∀ i, i < cs.length → RV w O pl n (cs.getD i .any) (us.getD i undef)) : RV w O pl n (.fn f cs) (.func f #[] us)
  | mref (r b e c : Nat) (hr : r < n) (hp : pl r 0 = some (b, e, c)) : RV w O pl n (.mref r) (.map (some b))
  | nils (e : Nat) (a : Option Addr) : RV w O pl n (.nils e) (.slice a 0 0)
  | und : RV w O pl n .und undef

structure Ext (w : World) (O : Own) (w' : World) (O' : Own) : Prop where
  os : w'.os = w.os
  tape : w'.tape = w.tape
  output : w'.output = w.output
  size : w.heap.size ≤ w'.heap.size
  keep : ∀ b, b < w.heap.size → ¬ O b → w'.heap[b]? = w.heap[b]? ∧ ¬ O' b

theorem Ext.refl (w : World) (O : Own) : Ext w O w O := ⟨rfl, rfl, rfl, Nat.le_refl _, fun _ _ h => ⟨rfl, h⟩⟩
theorem Ext.trans {w w1 w2 : World} {O O1 O2 : Own} (h : Ext w O w1 O1) (k : Ext w1 O1 w2 O2) : Ext w O w2 O2 :=
  ⟨k.os.trans h.os, k.tape.trans h.tape, k.output.trans h.output, Nat.le_trans h.size k.size, fun b hb hO => by
    obtain ⟨h1, h2⟩ := h.keep b hb hO
    obtain ⟨k1, k2⟩ := k.keep b (Nat.lt_of_lt_of_le hb h.size) h2
    exact ⟨k1.trans h1, k2⟩⟩

theorem cell_of_heap {w w' : World} {b o : Nat} (h : w'.heap[b]? = w.heap[b]?) : w'.cell? ⟨b, o, none⟩ = w.cell? ⟨b, o, none⟩ := by
  simp only [World.cell?, h]

theorem RD.mono {w w' : World} {O O' : Own} (E : Ext w O w' O') {x : D} {u : Value} (h : RD w O x u) : RD w' O' x u := by
  induction h with
  | bool b => exact .bool b
  | int k n => exact .int k n
  | str s t h => exact .str s t h
  | agg cs us hl h1 _ ih => exact .agg cs us hl h1 ih
  | vals0 e a cap => exact .vals0 e a cap
  | vals e xs b o cap F hcap hO hb he hc h1c _ ih =>
    obtain ⟨h1, h2⟩ := E.keep b hb hO
    exact .vals e xs b o cap F hcap h2 (Nat.lt_of_lt_of_le hb E.size) he (fun i j hi hj => (cell_of_heap h1).trans (hc i j hi hj)) h1c ih
  | nilp => exact .nilp
  | rptr cs b o F hO hb hc h1c _ ih =>
    obtain ⟨h1, h2⟩ := E.keep b hb hO
    exact .rptr cs b o F h2 (Nat.lt_of_lt_of_le hb E.size) (fun j hj => (cell_of_heap h1).trans (hc j hj)) h1c ih
  | fn f caps us hl _ ih => exact .fn f caps us hl ih
  | nilfn => exact .nilfn
  | iface t x u _ ih => exact .iface t x u ih
  | niface => exact .niface
  | mval0 => exact .mval0
  | mval ks vs b es clock hO hb hm hk hv _ _ ihk ihv =>
    obtain ⟨h1, h2⟩ := E.keep b hb hO
    exact .mval ks vs b es clock h2 (Nat.lt_of_lt_of_le hb E.size) (h1.trans hm) hk hv ihk ihv

def PlExt (n : Nat) (pl pl' : Pl) : Prop := ∀ r, r < n → ∀ g p, pl r g = some p → pl' r g = some p
theorem PlExt.refl (n : Nat) (pl : Pl) : PlExt n pl pl := fun _ _ _ _ h => h
theorem PlExt.trans {n : Nat} {pl pl1 pl2 : Pl} (h : PlExt n pl pl1) (k : PlExt n pl1 pl2) : PlExt n pl pl2 := fun r hr g p hp => k r hr g p (h r hr g p hp)
theorem PlExt.le {m n : Nat} {pl pl' : Pl} (h : PlExt n pl pl') (hm : m ≤ n) : PlExt m pl pl' := fun r hr => h r (Nat.lt_of_lt_of_le hr hm)

theorem RV.mono {w w' : World} {O O' : Own} {pl pl' : Pl} {n n' : Nat} (E : Ext w O w' O') (hp : PlExt n pl pl') (hn : n ≤ n') {x : V} {u : Value}
    (h : RV w O pl n x u) : RV w' O' pl' n' x u := by
  induction h with
  | d x u h => exact .d x u (h.mono E)
  | agg cs us hl h1 _ ih => exact .agg cs us hl h1 ih
  | tup cs us hl _ ih => exact .tup cs us hl ih
  | slc r g i k b e c hr h hk => exact .slc r g i k b e c (Nat.lt_of_lt_of_le hr hn) (hp r hr g _ h) hk
  | slc0 r g i a cap hi hr => exact .slc0 r g i a cap hi (Nat.lt_of_lt_of_le hr hn)
  | ptr r g i j b e c hr h => exact .ptr r g i j b e c (Nat.lt_of_lt_of_le hr hn) (hp r hr g _ h)
  | fn f cs us hl _ ih => exact .fn f cs us hl ih
  | mref r b e c hr h => exact .mref r b e c (Nat.lt_of_lt_of_le hr hn) (hp r hr 0 _ h)
  | nils e a => exact .nils e a
  | und => exact .und

/-! ### Objects -/
def blk (pl : Pl) (H : Hp) (r : Nat) : Option Nat :=
  match hget H r with
  | some (.row g _ _) => (pl r g).map (·.1)
  | some (.map _ _) => (pl r 0).map (·.1)
  | _ => none

def owned (pl : Pl) (H : Hp) : Own := fun b => ∃ r, blk pl H r = some b

def Unfrozen (fr : Nat × Nat) (n : Nat) : Prop := ∀ o, o < n → ¬ (fr.1 ≤ o ∧ o < fr.2)

inductive OR (w : World) (O : Own) (pl : Pl) (n : Nat) (r : Nat) : Obj → Prop where
  | dead : OR w O pl n r .dead
  | row (g e : Nat) (xs : List V) (b c : Nat) (arr : Array Value) (ty : TypeId) (fr : Nat × Nat) (hp : pl r g = some (b, e, c)) (hh : w.heap[b]? = some (.cells arr ty fr))
      (hs : arr.size = c * e) (hf : Unfrozen fr arr.size) (hx : xs.length ≤ c) (he : ∀ i, i < xs.length → (xs.getD i .any).cells.length = e)
      (hr : ∀ i j, i < xs.length → j < e → RV w O pl n ((xs.getD i .any).cells.getD j .any) (arr.getD (i * e + j) undef))
      (h1 : ∀ i j, i < xs.length → j < e → (arr.getD (i * e + j) undef).oneCell' = true) (hg : ∀ g', g < g' → pl r g' = none) : OR w O pl n r (.row g e xs)
  | map (ks vs : List V) (b e c : Nat) (es : Array MapEntry) (clock : Nat) (hp : pl r 0 = some (b, e, c)) (hh : w.heap[b]? = some (.map es clock))
      (hk : es.size = ks.length) (hv : es.size = vs.length)
      (hrk : ∀ i, i < es.size → RV w O pl n (ks.getD i .any) (es.getD i default).key)
      (hrv : ∀ i, i < es.size → RV w O pl n (vs.getD i .any) (es.getD i default).val) : OR w O pl n r (.map ks vs)

structure HR (w : World) (pl : Pl) (Bd : Nat → Prop) (H : Hp) : Prop where
  obj : ∀ r o, hget H r = some o → OR w (owned pl H) pl (hlen H) r o
  inj : ∀ r r' b, blk pl H r = some b → blk pl H r' = some b → r = r'
  bd : ∀ m, Bd m → ∀ r o, r < m → hget H r = some o → OR w (owned pl H) pl m r o
  le : ∀ m, Bd m → m ≤ hlen H

theorem OR.mono {w w' : World} {O O' : Own} {pl pl' : Pl} {n n' r : Nat} (E : Ext w O w' O') (hp : PlExt n pl pl') (hn : n ≤ n') {o : Obj}
    (hpr : pl' r = pl r) (hb : ∀ g b e c, pl r g = some (b, e, c) → w'.heap[b]? = w.heap[b]?) (h : OR w O pl n r o) : OR w' O' pl' n' r o := by
  cases h with
  | dead => exact .dead
  | row g e xs b c arr ty fr hp' hh hs hf hx he hr h1 hg =>
    exact .row g e xs b c arr ty fr (by rw [hpr]; exact hp') ((hb g b e c hp').trans hh) hs hf hx he (fun i j hi hj => (hr i j hi hj).mono E hp hn) h1 (by rw [hpr]; exact hg)
  | map ks vs b e c es clock hp' hh hk hv hrk hrv =>
    exact .map ks vs b e c es clock (by rw [hpr]; exact hp') ((hb 0 b e c hp').trans hh) hk hv (fun i hi => (hrk i hi).mono E hp hn) (fun i hi => (hrv i hi).mono E hp hn)

theorem blk_lt {pl : Pl} {H : Hp} {r b : Nat} (h : blk pl H r = some b) : ∃ o, hget H r = some o := by
  unfold blk at h
  cases hg : hget H r with
  | none => rw [hg] at h; simp at h
  | some o => exact ⟨o, rfl⟩

theorem hget_lt {H : Hp} {r : Nat} {o : Obj} (h : hget H r = some o) : r < hlen H := by
  induction H generalizing r with
  | nil => simp [hget] at h
  | cons a H ih =>
    cases r with
    | zero => simp [hlen]
    | succ r => have := ih (by simpa [hget] using h); simp [hlen] at *; omega

theorem hlen_hset (H : Hp) (r : Nat) (o : Obj) : hlen (hset H r o) = hlen H := by
  induction H generalizing r with
  | nil => rfl
  | cons a H ih => cases r with
    | zero => rfl
    | succ r => have := ih r; simp only [hlen, hset, List.length_cons] at *; omega

theorem hlen_hpush (H : Hp) (o : Obj) : hlen (hpush H o) = hlen H + 1 := by simp [hlen, hpush]

theorem hget_hset_self {H : Hp} {r : Nat} (o : Obj) (h : r < hlen H) : hget (hset H r o) r = some o := by
  induction H generalizing r with
  | nil => simp [hlen] at h
  | cons a H ih => cases r with
    | zero => rfl
    | succ r => exact ih (by simp [hlen] at *; omega)

theorem hget_hset_ne {H : Hp} {r r' : Nat} (o : Obj) (h : r' ≠ r) : hget (hset H r o) r' = hget H r' := by
  induction H generalizing r r' with
  | nil => rfl
  | cons a H ih => cases r with
    | zero => cases r' with
      | zero => exact absurd rfl h
      | succ r' => rfl
    | succ r => cases r' with
      | zero => rfl
      | succ r' => exact ih (by omega)

theorem hget_hpush_lt {H : Hp} {r : Nat} (o : Obj) (h : r < hlen H) : hget (hpush H o) r = hget H r := by
  induction H generalizing r with
  | nil => simp [hlen] at h
  | cons a H ih => cases r with
    | zero => rfl
    | succ r => exact ih (by simp [hlen] at *; omega)

theorem hget_hpush_self (H : Hp) (o : Obj) : hget (hpush H o) (hlen H) = some o := by
  induction H with
  | nil => rfl
  | cons a H ih => exact ih

theorem OR.block {w : World} {pl : Pl} {H : Hp} {r b : Nat} {O : Own} {n : Nat} {o : Obj} (ho : hget H r = some o) (h : OR w O pl n r o) (hb : blk pl H r = some b) : b < w.heap.size := by
  unfold blk at hb
  rw [ho] at hb
  cases h with
  | dead => simp at hb
  | row g e xs b' c arr ty fr hp hh => simp [hp] at hb; subst hb; exact (Array.getElem?_eq_some_iff.1 hh).1
  | map ks vs b' e c es clock hp hh => simp [hp] at hb; subst hb; exact (Array.getElem?_eq_some_iff.1 hh).1

theorem HR.owned_lt {w : World} {pl : Pl} {Bd : Nat → Prop} {H : Hp} (h : HR w pl Bd H) {b : Nat} (hb : owned pl H b) : b < w.heap.size := by
  obtain ⟨r, hr⟩ := hb
  obtain ⟨o, ho⟩ := blk_lt hr
  exact (h.obj r o ho).block ho hr
end Go.Ev
/- How the abstract heap and the world go on together: a new object, a row that is written or grows, an object given up, the objects of a call that has ended. -/
namespace Go.Ev
open Go
set_option linter.unusedSimpArgs false
set_option linter.unusedVariables false

structure Same (w w' : World) : Prop where
  os : w'.os = w.os
  tape : w'.tape = w.tape
  output : w'.output = w.output

theorem Same.refl (w : World) : Same w w := ⟨rfl, rfl, rfl⟩
theorem Same.trans {w w1 w2 : World} (h : Same w w1) (k : Same w1 w2) : Same w w2 := ⟨k.os.trans h.os, k.tape.trans h.tape, k.output.trans h.output⟩

def plNew (pl : Pl) (r : Nat) (p : Nat × Nat × Nat) : Pl := fun r' g => if r' = r then (if g = 0 then some p else none) else pl r' g
def plSet (pl : Pl) (r g : Nat) (p : Nat × Nat × Nat) : Pl := fun r' g' => if r' = r then (if g' = g then some p else pl r' g') else pl r' g'

theorem plNew_ne {pl : Pl} {r r' : Nat} {p : Nat × Nat × Nat} (h : r' ≠ r) : plNew pl r p r' = pl r' := by
  funext g; simp [plNew, h]
theorem plNew_self (pl : Pl) (r : Nat) (p : Nat × Nat × Nat) : plNew pl r p r 0 = some p := by simp [plNew]
theorem plSet_ne {pl : Pl} {r r' g : Nat} {p : Nat × Nat × Nat} (h : r' ≠ r) : plSet pl r g p r' = pl r' := by
  funext g; simp [plSet, h]
theorem plSet_self (pl : Pl) (r g : Nat) (p : Nat × Nat × Nat) : plSet pl r g p r g = some p := by simp [plSet]

theorem blk_push_lt {pl : Pl} {H : Hp} {o : Obj} {p : Nat × Nat × Nat} {r : Nat} (h : r < hlen H) : blk (plNew pl (hlen H) p) (hpush H o) r = blk pl H r := by
  unfold blk
  rw [hget_hpush_lt o h, plNew_ne (by omega)]

theorem HR.push {w w' : World} {pl : Pl} {Bd : Nat → Prop} {H : Hp} (h : HR w pl Bd H) (o : Obj) (ob : Go.Obj) (e c : Nat) (hw : w'.heap = w.heap.push ob) (hs : Same w w')
    (hb : blk (plNew pl (hlen H) (w.heap.size, e, c)) (hpush H o) (hlen H) = some w.heap.size)
    (ho : ∀ O', Ext w (owned pl H) w' O' → OR w' O' (plNew pl (hlen H) (w.heap.size, e, c)) (hlen H + 1) (hlen H) o) :
    HR w' (plNew pl (hlen H) (w.heap.size, e, c)) Bd (hpush H o) ∧ Ext w (owned pl H) w' (owned (plNew pl (hlen H) (w.heap.size, e, c)) (hpush H o)) ∧ PlExt (hlen H) pl (plNew pl (hlen H) (w.heap.size, e, c)) := by
  have hget' : ∀ b, b < w.heap.size → w'.heap[b]? = w.heap[b]? := fun b hb => by rw [hw, Array.getElem?_push_lt hb, Array.getElem?_eq_getElem hb]
  have hown : ∀ r b, blk (plNew pl (hlen H) (w.heap.size, e, c)) (hpush H o) r = some b → (r = hlen H ∧ b = w.heap.size) ∨ (r < hlen H ∧ blk pl H r = some b) := by
    intro r b hr
    rcases Nat.lt_trichotomy r (hlen H) with hlt | heq | hgt
    · exact .inr ⟨hlt, by rwa [blk_push_lt hlt] at hr⟩
    · subst heq; rw [hb] at hr; exact .inl ⟨rfl, by simpa using hr.symm⟩
    · obtain ⟨o', ho'⟩ := blk_lt hr
      have := hget_lt ho'
      rw [hlen_hpush] at this
      omega
  have E : Ext w (owned pl H) w' (owned (plNew pl (hlen H) (w.heap.size, e, c)) (hpush H o)) := by
    refine ⟨hs.os, hs.tape, hs.output, by rw [hw]; simp, fun b hlt hO => ⟨hget' b hlt, ?_⟩⟩
    rintro ⟨r, hr⟩
    rcases hown r b hr with ⟨_, hb'⟩ | ⟨_, hb'⟩
    · omega
    · exact hO ⟨r, hb'⟩
  have hpl : PlExt (hlen H) pl (plNew pl (hlen H) (w.heap.size, e, c)) := fun r hr g p hp => by rw [plNew_ne (by omega)]; exact hp
  have hold : ∀ r o', r < hlen H → hget H r = some o' → ∀ m n', PlExt m pl (plNew pl (hlen H) (w.heap.size, e, c)) → m ≤ n' → OR w (owned pl H) pl m r o' →
      OR w' (owned (plNew pl (hlen H) (w.heap.size, e, c)) (hpush H o)) (plNew pl (hlen H) (w.heap.size, e, c)) n' r o' := by
    intro r o' hr ho' m n' hm hn hor
    cases hor with
    | dead => exact .dead
    | row g e xs b c arr ty fr hp' hh hs hf hx he hr' h1 hg =>
      have hbs := (Array.getElem?_eq_some_iff.1 hh).1
      exact .row g e xs b c arr ty fr (by rw [plNew_ne (by omega)]; exact hp') ((hget' b hbs).trans hh) hs hf hx he (fun i j hi hj => (hr' i j hi hj).mono E hm hn) h1 (by rw [plNew_ne (by omega)]; exact hg)
    | map ks vs b e c es clock hp' hh hk hv hrk hrv =>
      have hbs := (Array.getElem?_eq_some_iff.1 hh).1
      exact .map ks vs b e c es clock (by rw [plNew_ne (by omega)]; exact hp') ((hget' b hbs).trans hh) hk hv (fun i hi => (hrk i hi).mono E hm hn) (fun i hi => (hrv i hi).mono E hm hn)
  refine ⟨⟨?_, ?_, ?_, ?_⟩, E, hpl⟩
  · intro r o' hr
    have hlt := hget_lt hr
    rw [hlen_hpush] at hlt ⊢
    rcases Nat.lt_or_eq_of_le (Nat.lt_succ_iff.1 hlt) with hlt' | heq
    · rw [hget_hpush_lt o hlt'] at hr
      exact hold r o' hlt' hr _ _ hpl (by omega) (h.obj r o' hr)
    · subst heq
      rw [hget_hpush_self] at hr
      obtain rfl := Option.some.inj hr
      exact ho _ E
  · intro r r' b hr hr'
    rcases hown r b hr with ⟨h1, h2⟩ | ⟨h1, h2⟩ <;> rcases hown r' b hr' with ⟨k1, k2⟩ | ⟨k1, k2⟩
    · omega
    · have := h.owned_lt ⟨r', k2⟩; omega
    · have := h.owned_lt ⟨r, h2⟩; omega
    · exact h.inj r r' b h2 k2
  · intro m hm r o' hr ho'
    have hmle := h.le m hm
    have hlt : r < hlen H := by omega
    rw [hget_hpush_lt o hlt] at ho'
    exact hold r o' hlt ho' _ _ (hpl.le hmle) (Nat.le_refl _) (h.bd m hm r o' hr ho')
  · intro m hm
    have := h.le m hm
    rw [hlen_hpush]; omega

theorem HR.setRow {w w' : World} {pl : Pl} {Bd : Nat → Prop} {H : Hp} (h : HR w pl Bd H) {r g g' e : Nat} {xs xs' : List V} {b c b' c' : Nat} {arr' : Array Value} {ty : TypeId} {fr : Nat × Nat}
    (hr : hget H r = some (.row g e xs)) (hp : pl r g = some (b, e, c)) (hg : g ≤ g') (hgg : g' = g → (b', c') = (b, c))
    (hs : Same w w') (hsz : w.heap.size ≤ w'.heap.size) (hoth : ∀ b'', b'' < w.heap.size → b'' ≠ b → w'.heap[b'']? = w.heap[b'']?)
    (hb' : b' = b ∨ w.heap.size ≤ b') (hh : w'.heap[b']? = some (.cells arr' ty fr)) (hsa : arr'.size = c' * e) (hf : Unfrozen fr arr'.size) (hx : xs'.length ≤ c')
    (he : ∀ i, i < xs'.length → (xs'.getD i .any).cells.length = e)
    (h1 : ∀ i j, i < xs'.length → j < e → (arr'.getD (i * e + j) undef).oneCell' = true)
    (hrel : ∀ m, (m = hlen H ∨ (Bd m ∧ r < m)) → ∀ i j, i < xs'.length → j < e → RV w (owned pl H) pl m ((xs'.getD i .any).cells.getD j .any) (arr'.getD (i * e + j) undef)) :
    HR w' (plSet pl r g' (b', e, c')) Bd (hset H r (.row g' e xs')) ∧ Ext w (owned pl H) w' (owned (plSet pl r g' (b', e, c')) (hset H r (.row g' e xs'))) ∧ PlExt (hlen H) pl (plSet pl r g' (b', e, c')) := by
  have hrl := hget_lt hr
  have hbl : blk pl H r = some b := by simp [blk, hr, hp]
  have hpg : ∀ g'', g < g'' → pl r g'' = none := by
    have := h.obj r _ hr
    cases this with
    | row _ _ _ _ _ _ _ _ _ _ _ _ _ _ _ _ hg => exact hg
  have hbk : ∀ r', r' ≠ r → blk (plSet pl r g' (b', e, c')) (hset H r (.row g' e xs')) r' = blk pl H r' := by
    intro r' hne
    unfold blk
    rw [hget_hset_ne _ hne, plSet_ne hne]
  have hbr : blk (plSet pl r g' (b', e, c')) (hset H r (.row g' e xs')) r = some b' := by
    unfold blk
    rw [hget_hset_self _ hrl]
    simp [plSet_self]
  have hblt : b < w.heap.size := h.owned_lt ⟨r, hbl⟩
  have E : Ext w (owned pl H) w' (owned (plSet pl r g' (b', e, c')) (hset H r (.row g' e xs'))) := by
    refine ⟨hs.os, hs.tape, hs.output, hsz, fun b'' hlt hO => ⟨hoth b'' hlt (fun hh => hO ⟨r, by rw [hh]; exact hbl⟩), ?_⟩⟩
    rintro ⟨r', hr'⟩
    by_cases hne : r' = r
    · subst hne
      rw [hbr] at hr'
      have hbb : b' = b'' := by simpa using hr'
      rcases hb' with h1 | h1
      · exact hO ⟨r', by rw [hbl, ← h1, hbb]⟩
      · omega
    · rw [hbk r' hne] at hr'
      exact hO ⟨r', hr'⟩
  have hpl : PlExt (hlen H) pl (plSet pl r g' (b', e, c')) := by
    intro r' _ g'' p hp'
    by_cases hne : r' = r
    · subst hne
      by_cases hgg' : g'' = g'
      · subst hgg'
        rcases Nat.lt_or_eq_of_le hg with h1 | h1
        · rw [hpg _ h1] at hp'; cases hp'
        · have hbc := hgg h1.symm
          simp only [Prod.mk.injEq] at hbc
          rw [plSet_self, ← hp', ← h1, hp, hbc.1, hbc.2]
      · simp [plSet, hgg', hp']
    · rw [plSet_ne hne]; exact hp'
  have hnew : ∀ m, (m = hlen H ∨ (Bd m ∧ r < m)) → m ≤ hlen H → OR w' (owned (plSet pl r g' (b', e, c')) (hset H r (.row g' e xs'))) (plSet pl r g' (b', e, c')) m r (.row g' e xs') := by
    intro m hm hle
    refine .row g' e xs' b' c' arr' ty fr (plSet_self ..) hh hsa hf hx he (fun i j hi hj => (hrel m hm i j hi hj).mono E (hpl.le hle) (Nat.le_refl _)) h1 ?_
    intro g'' hg''
    show (if r = r then (if g'' = g' then some (b', e, c') else pl r g'') else pl r g'') = none
    rw [if_pos rfl, if_neg (by omega)]
    exact hpg g'' (by omega)
  have hold : ∀ r' o' m, r' ≠ r → hget H r' = some o' → m ≤ hlen H → OR w (owned pl H) pl m r' o' →
      OR w' (owned (plSet pl r g' (b', e, c')) (hset H r (.row g' e xs'))) (plSet pl r g' (b', e, c')) m r' o' := by
    intro r' o' m hne ho' hle hor
    cases hor with
    | dead => exact .dead
    | row g1 e1 xs1 b1 c1 arr1 ty1 fr1 hp1 hh1 hs1 hf1 hx1 he1 hr1 h11 hg1 =>
      have hbs := (Array.getElem?_eq_some_iff.1 hh1).1
      have hb1 : blk pl H r' = some b1 := by simp [blk, ho', hp1]
      have hne1 : b1 ≠ b := fun hh => hne (h.inj r' r b1 hb1 (by rw [hh]; exact hbl))
      exact .row g1 e1 xs1 b1 c1 arr1 ty1 fr1 (by rw [plSet_ne hne]; exact hp1) ((hoth b1 hbs hne1).trans hh1) hs1 hf1 hx1 he1 (fun i j hi hj => (hr1 i j hi hj).mono E (hpl.le hle) (Nat.le_refl _)) h11 (by rw [plSet_ne hne]; exact hg1)
    | map ks vs b1 e1 c1 es clock hp1 hh1 hk hv hrk hrv =>
      have hbs := (Array.getElem?_eq_some_iff.1 hh1).1
      have hb1 : blk pl H r' = some b1 := by simp [blk, ho', hp1]
      have hne1 : b1 ≠ b := fun hh => hne (h.inj r' r b1 hb1 (by rw [hh]; exact hbl))
      exact .map ks vs b1 e1 c1 es clock (by rw [plSet_ne hne]; exact hp1) ((hoth b1 hbs hne1).trans hh1) hk hv (fun i hi => (hrk i hi).mono E (hpl.le hle) (Nat.le_refl _)) (fun i hi => (hrv i hi).mono E (hpl.le hle) (Nat.le_refl _))
  refine ⟨⟨?_, ?_, ?_, ?_⟩, E, hpl⟩
  · intro r' o' ho'
    rw [hlen_hset]
    by_cases hne : r' = r
    · subst hne
      rw [hget_hset_self _ hrl] at ho'
      obtain rfl := Option.some.inj ho'
      exact hnew _ (.inl rfl) (Nat.le_refl _)
    · rw [hget_hset_ne _ hne] at ho'
      exact hold r' o' _ hne ho' (Nat.le_refl _) (h.obj r' o' ho')
  · intro r1 r2 b1 h1 h2
    by_cases n1 : r1 = r <;> by_cases n2 : r2 = r
    · rw [n1, n2]
    · subst n1
      rw [hbr] at h1
      rw [hbk r2 n2] at h2
      have hbb : b' = b1 := by simpa using h1
      rcases hb' with h3 | h3
      · have hx2 : blk pl H r2 = some b := by rw [h2, ← hbb, h3]
        exact absurd (h.inj r2 r1 b hx2 hbl) n2
      · have := h.owned_lt ⟨r2, h2⟩; omega
    · subst n2
      rw [hbr] at h2
      rw [hbk r1 n1] at h1
      have hbb : b' = b1 := by simpa using h2
      rcases hb' with h3 | h3
      · have hx1 : blk pl H r1 = some b := by rw [h1, ← hbb, h3]
        exact h.inj r1 r2 b hx1 hbl
      · have := h.owned_lt ⟨r1, h1⟩; omega
    · rw [hbk r1 n1] at h1
      rw [hbk r2 n2] at h2
      exact h.inj r1 r2 b1 h1 h2
  · intro m hm r' o' hlt ho'
    by_cases hne : r' = r
    · subst hne
      rw [hget_hset_self _ hrl] at ho'
      obtain rfl := Option.some.inj ho'
      exact hnew m (.inr ⟨hm, hlt⟩) (h.le m hm)
    · rw [hget_hset_ne _ hne] at ho'
      exact hold r' o' m hne ho' (h.le m hm) (h.bd m hm r' o' hlt ho')
  · intro m hm
    rw [hlen_hset]; exact h.le m hm

theorem HR.kill {w : World} {pl : Pl} {Bd : Nat → Prop} {H : Hp} (h : HR w pl Bd H) (r : Nat) :
    HR w pl Bd (hset H r .dead) ∧ Ext w (owned pl H) w (owned pl (hset H r .dead)) := by
  have hbk : ∀ r' b, blk pl (hset H r .dead) r' = some b → r' ≠ r ∧ blk pl H r' = some b := by
    intro r' b hb
    by_cases hne : r' = r
    · subst hne
      obtain ⟨o, ho⟩ := blk_lt hb
      have := hget_lt ho
      rw [hlen_hset] at this
      unfold blk at hb
      rw [hget_hset_self _ this] at hb
      simp at hb
    · refine ⟨hne, ?_⟩
      unfold blk at hb ⊢
      rwa [hget_hset_ne _ hne] at hb
  have E : Ext w (owned pl H) w (owned pl (hset H r .dead)) := ⟨rfl, rfl, rfl, Nat.le_refl _, fun b _ hO => ⟨rfl, fun ⟨r', hr'⟩ => hO ⟨r', (hbk r' b hr').2⟩⟩⟩
  have hkeep : ∀ r' o' m, hget (hset H r .dead) r' = some o' → (∀ o'', hget H r' = some o'' → OR w (owned pl H) pl m r' o'') → OR w (owned pl (hset H r .dead)) pl m r' o' := by
    intro r' o' m ho' hor
    by_cases hne : r' = r
    · subst hne
      have := hget_lt ho'
      rw [hlen_hset] at this
      rw [hget_hset_self _ this] at ho'
      obtain rfl := Option.some.inj ho'
      exact .dead
    · rw [hget_hset_ne _ hne] at ho'
      exact (hor o' ho').mono E (PlExt.refl _ _) (Nat.le_refl _) rfl (fun _ _ _ _ _ => rfl)
  refine ⟨⟨fun r' o' ho' => ?_, fun r1 r2 b h1 h2 => h.inj r1 r2 b (hbk _ _ h1).2 (hbk _ _ h2).2, fun m hm r' o' hlt ho' => hkeep r' o' m ho' (fun o'' h'' => h.bd m hm r' o'' hlt h''), fun m hm => ?_⟩, E⟩
  · rw [hlen_hset]
    exact hkeep r' o' _ ho' (fun o'' h'' => h.obj r' o'' h'')
  · rw [hlen_hset]; exact h.le m hm

theorem hlen_htake {H : Hp} {n : Nat} (h : n ≤ hlen H) : hlen (htake H n) = n := by simp [hlen, htake] at *; omega
theorem hget_htake {H : Hp} {n r : Nat} (h : r < n) : hget (htake H n) r = hget H r := by
  induction H generalizing n r with
  | nil => simp [htake, hget]
  | cons a H ih =>
    cases n with
    | zero => omega
    | succ n => cases r with
      | zero => rfl
      | succ r => exact ih (by omega)
theorem hget_htake_some {H : Hp} {n r : Nat} {o : Obj} (h : hget (htake H n) r = some o) : r < n ∧ hget H r = some o := by
  have hlt := hget_lt h
  have : r < n := by simp [hlen, htake] at hlt; omega
  exact ⟨this, by rwa [hget_htake this] at h⟩

theorem HR.take {w : World} {pl : Pl} {Bd Bd' : Nat → Prop} {H : Hp} (h : HR w pl Bd H) (n : Nat) (hn : Bd n) (hB : ∀ m, Bd' m → Bd m ∧ m ≤ n) :
    HR w pl Bd' (htake H n) ∧ Ext w (owned pl H) w (owned pl (htake H n)) := by
  have hle := h.le n hn
  have hbk : ∀ r' b, blk pl (htake H n) r' = some b → r' < n ∧ blk pl H r' = some b := by
    intro r' b hb
    obtain ⟨o, ho⟩ := blk_lt hb
    obtain ⟨hlt, ho'⟩ := hget_htake_some ho
    refine ⟨hlt, ?_⟩
    unfold blk at hb ⊢
    rwa [hget_htake hlt] at hb
  have E : Ext w (owned pl H) w (owned pl (htake H n)) := ⟨rfl, rfl, rfl, Nat.le_refl _, fun b _ hO => ⟨rfl, fun ⟨r', hr'⟩ => hO ⟨r', (hbk r' b hr').2⟩⟩⟩
  refine ⟨⟨fun r o ho => ?_, fun r1 r2 b h1 h2 => h.inj r1 r2 b (hbk _ _ h1).2 (hbk _ _ h2).2, fun m hm r o hlt ho => ?_, fun m hm => ?_⟩, E⟩
  · obtain ⟨hlt, ho'⟩ := hget_htake_some ho
    rw [hlen_htake hle]
    exact (h.bd n hn r o hlt ho').mono E (PlExt.refl _ _) (Nat.le_refl _) rfl (fun _ _ _ _ _ => rfl)
  · obtain ⟨_, ho'⟩ := hget_htake_some ho
    exact (h.bd m (hB m hm).1 r o hlt ho').mono E (PlExt.refl _ _) (Nat.le_refl _) rfl (fun _ _ _ _ _ => rfl)
  · rw [hlen_htake hle]; exact (hB m hm).2

theorem HR.enter {w : World} {pl : Pl} {Bd : Nat → Prop} {H : Hp} (h : HR w pl Bd H) : HR w pl (fun m => Bd m ∨ m = hlen H) H :=
  ⟨h.obj, h.inj, fun m hm r o hlt ho => by
    rcases hm with hm | rfl
    · exact h.bd m hm r o hlt ho
    · exact h.obj r o ho, fun m hm => by
    rcases hm with hm | rfl
    · exact h.le m hm
    · exact Nat.le_refl _⟩
end Go.Ev
/- When compact code stands for the model's code: the check, operation by operation; and the relation of rows of cells. -/
namespace Go.Ev
open Go
set_option linter.unusedSimpArgs false
set_option linter.unusedVariables false

/-! ### Rows of cells -/
structure RCs (w : World) (O : Own) (pl : Pl) (n : Nat) (cs : List V) (us : Array Value) : Prop where
  size : us.size = cs.length
  rel : ∀ i, i < cs.length → RV w O pl n (cs.getD i .any) (us.getD i undef)
  one : ∀ i, i < cs.length → (us.getD i undef).oneCell' = true

theorem RD.one {w : World} {O : Own} {x : D} {u : Value} (h : RD w O x u) (ha : ∀ cs, x ≠ .agg cs) : u.oneCell' = true := by
  cases h <;> first | rfl | exact absurd rfl (ha _)

theorem RD.cells {w : World} {O : Own} {x : D} {u : Value} (h : RD w O x u) :
    u.cells.size = x.cells.length ∧ ∀ i, i < x.cells.length → RD w O (x.cells.getD i .nilp) (u.cells.getD i undef) ∧ (u.cells.getD i undef).oneCell' = true := by
  by_cases ha : ∃ cs, x = .agg cs
  · obtain ⟨cs, rfl⟩ := ha
    cases h with
    | agg _ us hl h1 h => exact ⟨hl, fun i hi => ⟨h i hi, h1 i hi⟩⟩
  · have hx : x.cells = [x] := by cases x <;> first | rfl | exact absurd ⟨_, rfl⟩ ha
    have ho := h.one (fun cs hc => ha ⟨cs, hc⟩)
    have hu : u.cells = #[u] := by cases u <;> first | rfl | simp [Value.oneCell'] at ho
    rw [hx, hu]
    refine ⟨rfl, fun i hi => ?_⟩
    obtain rfl : i = 0 := by simpa using hi
    exact ⟨h, ho⟩

theorem RV.one {w : World} {O : Own} {pl : Pl} {n : Nat} {v : V} {u : Value} (h : RV w O pl n v u) (hs : v.sto = true) (ha : v.isAgg = false) : u.oneCell' = true := by
  cases h with
  | d x u h => exact h.one (fun cs hc => by subst hc; simp [V.isAgg] at ha)
  | agg => simp [V.isAgg] at ha
  | tup => simp [V.sto] at hs
  | und => simp [V.sto] at hs
  | _ => rfl

theorem RV.cells {w : World} {O : Own} {pl : Pl} {n : Nat} {v : V} {u : Value} (h : RV w O pl n v u) (hs : v.sto = true) : RCs w O pl n v.cells u.cells := by
  by_cases ha : v.isAgg = true
  · cases h with
    | d x u h =>
      cases x <;> first | (simp [V.isAgg] at ha; done) | skip
      rename_i cs
      cases h with
      | agg _ us hl h1 h =>
        refine ⟨by simpa [V.cells, Value.cells] using hl, fun i hi => ?_, fun i hi => ?_⟩
        · have hi' : i < cs.length := by simpa [V.cells] using hi
          have := h i hi'
          simp only [V.cells, Value.cells, List.getD_eq_getElem?_getD, List.getElem?_map, List.getElem?_eq_getElem hi', Option.map_some, Option.getD_some] at this ⊢
          exact .d _ _ this
        · exact h1 i (by simpa [V.cells] using hi)
    | agg cs us hl h1 h => exact ⟨hl, h, h1⟩
    | _ => simp [V.isAgg] at ha
  · have ha' : v.isAgg = false := by simpa using ha
    have ho := h.one hs ha'
    have hv : v.cells = [v] := by
      cases v <;> first | rfl | (simp [V.isAgg] at ha'; done) | skip
      rename_i x
      cases x <;> first | rfl | (simp [V.isAgg] at ha'; done)
    have hu : u.cells = #[u] := by cases u <;> first | rfl | simp [Value.oneCell'] at ho
    rw [hv, hu]
    refine ⟨rfl, fun i hi => ?_, fun i hi => ?_⟩ <;> (obtain rfl : i = 0 := by simpa using hi)
    · exact h
    · exact ho

theorem allD_some {cs : List V} {ds : List D} (h : allD cs = some ds) : cs = ds.map .d := by
  induction cs generalizing ds with
  | nil => simp [allD] at h; subst h; rfl
  | cons v r ih =>
    cases v <;> simp [allD] at h
    split at h
    · rename_i xs hx
      simp at h; subst h
      rw [ih hx]; rfl
    · simp at h

theorem RCs.mkAgg {w : World} {O : Own} {pl : Pl} {n : Nat} {cs : List V} {us : Array Value} (h : RCs w O pl n cs us) : RV w O pl n (mkAgg cs) (.agg us) := by
  unfold Ev.mkAgg
  split
  · rename_i ds hd
    have := allD_some hd
    subst this
    refine .d _ _ (.agg ds us (by simpa using h.size) (fun i hi => h.one i (by simpa using hi)) fun i hi => ?_)
    have := h.rel i (by simpa using hi)
    simp only [List.getD_eq_getElem?_getD, List.getElem?_map, List.getElem?_eq_getElem hi, Option.map_some, Option.getD_some] at this ⊢
    cases this with
    | d _ _ h => exact h
  · exact .agg cs us h.size h.one h.rel

theorem RCs.mono {w w' : World} {O O' : Own} {pl pl' : Pl} {n n' : Nat} (E : Ext w O w' O') (hp : PlExt n pl pl') (hn : n ≤ n') {cs : List V} {us : Array Value} (h : RCs w O pl n cs us) : RCs w' O' pl' n' cs us :=
  ⟨h.size, fun i hi => (h.rel i hi).mono E hp hn, h.one⟩

theorem getD_drop_take {α : Type} (cs : List α) (d : α) (a k i : Nat) (hi : i < k) : ((cs.drop a).take k).getD i d = cs.getD (a + i) d := by
  simp only [List.getD_eq_getElem?_getD, List.getElem?_take_of_lt hi, List.getElem?_drop]

theorem getD_extract {us : Array Value} {a k i : Nat} (hi : i < k) (hk : a + k ≤ us.size) : (us.extract a (a + k)).getD i undef = us.getD (a + i) undef := by
  simp only [Array.getD_eq_getD_getElem?]
  rw [Array.getElem?_extract]
  rw [if_pos (by omega)]

theorem RCs.part {w : World} {O : Own} {pl : Pl} {n : Nat} {cs : List V} {us : Array Value} (h : RCs w O pl n cs us) {a k : Nat} (hk : a + k ≤ cs.length) :
    RCs w O pl n ((cs.drop a).take k) (us.extract a (a + k)) := by
  have hs := h.size
  refine ⟨by simp; omega, fun i hi => ?_, fun i hi => ?_⟩ <;> have hik : i < k := by (simp at hi; omega)
  · rw [getD_drop_take cs .any a k i hik, getD_extract hik (by omega)]
    exact h.rel _ (by omega)
  · rw [getD_extract hik (by omega)]
    exact h.one _ (by omega)

/-! ### The check -/
def cst1 : D → Value → Bool
  | .bool b, .bool c => b == c
  | .int k n, .int k' n' => decide (k = k') && decide (n = n')
  | .str s, .string t => decide (t.data.toList = s)
  | .vals _ [], .slice none 0 0 => true
  | .nilp, .pointer none => true
  | .nilfn, .nilFunc => true
  | .niface, .nilIface => true
  | .mval [] [], .map none => true
  | _, _ => false
def cst1s : List D → List Value → Bool
  | [], [] => true
  | x :: xs, u :: us => cst1 x u && cst1s xs us
  | _, _ => false
def cstOk : D → Value → Bool
  | .agg cs, .agg us => cst1s cs us.toList
  | x, u => cst1 x u
def vcst1 : V → Value → Bool
  | .d x, u => cst1 x u
  | .nils _, .slice none 0 0 => true
  | _, _ => false
def vcst1s : List V → List Value → Bool
  | [], [] => true
  | x :: xs, u :: us => vcst1 x u && vcst1s xs us
  | _, _ => false
def vcstOk : V → Value → Bool
  | .agg cs, .agg us => vcst1s cs us.toList
  | .d x, u => cstOk x u
  | .nils _, .slice none 0 0 => true
  | _, _ => false

def opdOk : AOpd → Operand → Bool
  | .t n, .tmp m => Nat.beq n m
  | .c x, .const v => cstOk x v
  | .f k, .func j => Nat.beq k j
  | .g n, .global m => Nat.beq n m
  | .nil _, .const (.slice none 0 0) => true
  | .u, .const (.tuple ⟨[]⟩) => true
  | _, _ => false
def opdsOk : List AOpd → List Operand → Bool
  | [], [] => true
  | x :: xs, y :: ys => opdOk x y && opdsOk xs ys
  | _, _ => false
def optOk : Option AOpd → Option Operand → Bool
  | none, none => true
  | some x, some y => opdOk x y
  | _, _ => false

def szIs (P : Program) (t n : Nat) : Bool := match P.info? t with | some i => Nat.beq i.size n | none => false
def aggIs (P : Program) (t : Nat) (b : Bool) : Bool := match P.underlying t with | some (.struct _) => b | some (.array _ _) => b | some _ => !b | none => false
def sliceOf (P : Program) (t : Nat) : Option Nat := match P.underlying t with | some (.slice e) => some e | _ => none
def elemIs (P : Program) (t n : Nat) : Bool := match sliceOf P t with | some e => szIs P e n | none => false
def zeroIs (P : Program) (t : Nat) (z : V) : Bool := match P.info? t with | some i => (match i.zero with | some u => vcstOk z u && Nat.beq i.size z.cells.length | none => false) | none => false
def hasZero (P : Program) (t n : Nat) : Bool := match P.info? t with | some i => (match i.zero with | some u => Nat.beq u.cells.size n && Nat.beq i.size n | none => false) | none => false
def fieldsOf (P : Program) (t : Nat) : Option (Array Field) := match P.underlying t with | some (.struct fs) => some fs | _ => none
def descIs (P : Program) (t : Nat) (p : TypeDesc → Bool) : Bool := match P.underlying t with | some d => p d | none => false
def isStr : TypeDesc → Bool | .string => true | _ => false
def isBool : TypeDesc → Bool | .bool => true | _ => false
def isU8 : TypeDesc → Bool | .int .u8 => true | _ => false
def isIface : TypeDesc → Bool | .interface _ => true | _ => false
def isKey : TypeDesc → Bool | .string => true | _ => false
def kindIs : SK → TypeDesc → Bool | .s, .string => true | .i, .int _ => true | .b, .bool => true | _, _ => false
def intIs (k : IntKind) : TypeDesc → Bool | .int k' => decide (k = k') | _ => false

def partsOk (P : Program) (fs : Array Field) : List (Nat × Nat × AOpd) → List (Nat × Operand) → Bool
  | [], [] => true
  | (off, n, x) :: xs, (i, y) :: ys => (match fs[i]? with | some f => Nat.beq f.offset off && szIs P f.type n | none => false) && opdOk x y && partsOk P fs xs ys
  | _, _ => false
def litOk : Nat → List AOpd → List (Nat × Operand) → Bool
  | _, [], [] => true
  | k, x :: xs, (i, y) :: ys => Nat.beq i k && opdOk x y && litOk (k + 1) xs ys
  | _, _, _ => false
def argsOk : List (Bool × AOpd) → List Operand → Bool
  | [], [] => true
  | (_, x) :: xs, y :: ys => opdOk x y && argsOk xs ys
  | _, _ => false

def scalFields (P : Program) : Nat → List Field → List SK → Bool
  | _, [], [] => true
  | n, f :: fs, k :: ks => Nat.beq f.offset n && szIs P f.type 1 && descIs P f.type (kindIs k) && decide (f.name ≠ "_") && scalFields P (n + 1) fs ks
  | _, _, _ => false

def binOk (P : Program) (ty : BTy) (t : Nat) (y : Operand) : Bool :=
  match ty with
  | .val => true
  | .bool => descIs P t isBool
  | .iface => descIs P t isIface && (match y with | .const _ => true | _ => false)
  | .agg ks => (match fieldsOf P t with | some fs => scalFields P 0 fs.toList ks | none => false) && !P.stoodInHeld t && !P.eqGuardType P.depth t

def chkOp (P : Program) : Op → AOp → Bool
  | .move x, .mv a => opdOk a x
  | .assign x, .mv a => opdOk a x
  | .pick c x y, .pick c' x' y' => opdOk c' c && opdOk x' x && opdOk y' y
  | .alloc t, .alloc z => zeroIs P t z
  | .box _ x, .box a => opdOk a x
  | .build t ps, .build z qs =>
    (match fieldsOf P t with | some fs => partsOk P fs qs ps.toList && fs.all (fun f => (P.info? f.type).isSome) | none => false) && zeroIs P t (.agg z)
  | .buildSlice t n ps, .lit _ e qs =>
    (match sliceOf P t with | some el => szIs P el e && hasZero P el e | none => false) && litOk 0 qs ps.toList && Nat.beq n qs.length && decide (n * e ≤ 16777216) && decide (0 < e)
  | .buildSlice t n ps, .litf e qs =>
    (match sliceOf P t with | some el => szIs P el e && hasZero P el e | none => false) && litOk 0 qs ps.toList && Nat.beq n qs.length && decide (n * e ≤ 16777216) && decide (0 < e)
  | .load t a, .load ag n x => opdOk x a && aggIs P t ag && szIs P t n
  | .store t a v, .store n x y => opdOk x a && opdOk y v && szIs P t n
  | .nilCheck x, .nilck a => opdOk a x
  | .binOp op t x y _, .bin op' ty x' y' => decide (op = op') && opdOk x' x && opdOk y' y && binOk P ty t y
  | .unOp op _ x, .un op' a => decide (op = op') && opdOk a x
  | .convert src dst x, .cvInt k a => opdOk a x && descIs P dst (intIs k) && (P.underlying src).isSome
  | .convert src dst x, .cvId a => opdOk a x && descIs P dst isStr && (P.underlying src).isSome
  | .convert src dst x, .cvStr a => opdOk a x && descIs P dst isStr && (match sliceOf P src with | some e => descIs P e isU8 | none => false)
  | .makeFunc fn first caps, .mkfn f cs => decide (fn = f) && Nat.beq first.size 0 && opdsOk cs caps.toList
  | .makeMap t r, .mkmap => (match r with | none => true | some (.const (.int _ _)) => descIs P t (fun | .map _ _ => true | _ => false) | _ => false)
  | .insert t m k v, .insert m' k' v' => opdOk m' m && opdOk k' k && opdOk v' v && (match P.underlying t with | some (.map kt _) => descIs P kt isKey | _ => false)
  | .mapUpdate t m k v, .insert m' k' v' => opdOk m' m && opdOk k' k && opdOk v' v && (match P.underlying t with | some (.map kt _) => descIs P kt isKey | _ => false)
  | .lookup t m k ok, .lookup z m' k' ok' => decide (ok = ok') && opdOk m' m && opdOk k' k && (match P.underlying t with | some (.map kt et) => descIs P kt isKey && zeroIs P et (.d z) | _ => false)
  | .makeSlice t l c, .mkslice e b z l' c' => opdOk l' l && opdOk c' c && (match sliceOf P t with | some el => szIs P el e && zeroIs P el z && (match P.info? el with | some i => Nat.beq i.bytes b | none => false) && decide (0 < e) && decide (0 < b) | none => false)
  | .slice t x lo hi none, .slice e x' lo' hi' => opdOk x' x && optOk lo' lo && optOk hi' hi && (match e with | none => descIs P t isStr | some e => elemIs P t e)
  | .fieldAddr s x f, .faddr off x' => opdOk x' x && (match fieldsOf P s with | some fs => (match fs[f]? with | some fd => Nat.beq fd.offset off && (match P.info? fd.type with | some i => Nat.ble 1 i.size | none => false) | none => false) | none => false)
  | .field t x f, .field ag off n x' => opdOk x' x && (match fieldsOf P t with | some fs => (match fs[f]? with | some fd => Nat.beq fd.offset off && szIs P fd.type n && aggIs P fd.type ag | none => false) | none => false)
  | .indexAddr t x i, .iaddr e x' i' => opdOk x' x && opdOk i' i && elemIs P t e
  | .index t x i, .idx x' i' => opdOk x' x && opdOk i' i && descIs P t isStr
  | .extract x i, .extract x' i' => opdOk x' x && Nat.beq i i'
  | .makeInterface t x, .mkiface t' x' => Nat.beq t t' && opdOk x' x && descIs P t (fun d => !isIface d)
  | .call { callee := .value f, args, .. }, .call f' args' _ => opdOk f' f && argsOk args' args.toList
  | .call { callee := .value f, args, .. }, .pcall f' args' => opdOk f' f && opdsOk args' args.toList
  | .call { callee := .builtin .len, args, argTypes }, .len str x => (match args.toList, argTypes[0]? with | [y], some t => opdOk x y && (match str with | true => descIs P t isStr | false => (sliceOf P t).isSome) | _, _ => false)
  | .call { callee := .builtin .append, args, argTypes }, .append e b s x =>
    (match args.toList, argTypes.toList with
      | [s', x'], [t, t'] => Nat.beq t t' && opdOk s s' && opdOk x x' && (match sliceOf P t with | some el => hasZero P el e && (match P.info? el with | some i => Nat.beq i.bytes b | none => false) | none => false) && decide (0 < e) && decide (0 < b)
      | _, _ => false)
  | .call { callee := .builtin .max, args, .. }, .mnmx true xs => opdsOk xs args.toList
  | .call { callee := .builtin .min, args, .. }, .mnmx false xs => opdsOk xs args.toList
  | _, _ => false
end Go.Ev
/- Each operation of compact code does what the model's operation does: the plain ones. -/
namespace Go.Ev
open Go
set_option linter.unusedSimpArgs false
set_option linter.unusedVariables false

def GR (G : Glob) (w : World) (O : Own) : Prop := ∀ n cs, G n = some cs → RD w O (.rptr cs) (.pointer (some ⟨n, 0, none⟩)) ∧ ∃ arr ty fr, w.heap[n]? = some (.cells arr ty fr) ∧ arr.size = cs.length
theorem GR.mono {G : Glob} {w w' : World} {O O' : Own} (E : Ext w O w' O') (h : GR G w O) : GR G w' O' := fun n cs hn => by
  obtain ⟨h1, h2⟩ := h n cs hn
  refine ⟨h1.mono E, ?_⟩
  cases h1 with
  | rptr _ b o F hO hb hc h1c hr =>
    rw [(E.keep n hb hO).1]
    exact h2

def RE (w : World) (O : Own) (pl : Pl) (n : Nat) (env : Env) (a : Act) : Prop := ∀ t, (env.get t).ok = true → RV w O pl n (env.get t) (a.tmps.getD t undef)
theorem RE.mono {w w' : World} {O O' : Own} {pl pl' : Pl} {n n' : Nat} (E : Ext w O w' O') (hp : PlExt n pl pl') (hn : n ≤ n') {env : Env} {a : Act} (h : RE w O pl n env a) : RE w' O' pl' n' env a :=
  fun t ht => (h t ht).mono E hp hn

theorem cst1_ok {w : World} {O : Own} {x : D} {u : Value} (h : cst1 x u = true) : RD w O x u := by
  unfold cst1 at h
  split at h <;> simp at h
  · subst h; exact .bool _
  · obtain ⟨rfl, rfl⟩ := h; exact .int _ _
  · exact .str _ _ h
  · exact .vals0 _ _ _
  · exact .nilp
  · exact .nilfn
  · exact .niface
  · exact .mval0

theorem cst1_one {x : D} {u : Value} (h : cst1 x u = true) : u.oneCell' = true := by
  unfold cst1 at h
  split at h <;> first | rfl | simp at h

theorem cst1s_ok {xs : List D} {us : List Value} (h : cst1s xs us = true) : us.length = xs.length ∧ ∀ i, i < xs.length → cst1 (xs.getD i .nilp) (us.getD i undef) = true := by
  induction xs generalizing us with
  | nil => cases us <;> simp [cst1s] at h ⊢
  | cons x xs ih =>
    cases us with
    | nil => simp [cst1s] at h
    | cons u us =>
      simp [cst1s] at h
      obtain ⟨h1, h2⟩ := ih h.2
      refine ⟨by simp [h1], fun i hi => ?_⟩
      cases i with
      | zero => exact h.1
      | succ i => exact h2 i (by simpa using hi)

theorem cstOk_ok {w : World} {O : Own} {x : D} {u : Value} (h : cstOk x u = true) : RD w O x u := by
  unfold cstOk at h
  split at h
  · rename_i cs us
    obtain ⟨h1, h2⟩ := cst1s_ok h
    refine .agg cs us (by simpa using h1) (fun i hi => ?_) (fun i hi => ?_)
    · have := h2 i hi
      simpa [Array.getD_eq_getD_getElem?, List.getD_eq_getElem?_getD] using cst1_one this
    · have := cst1_ok (w := w) (O := O) (h2 i hi)
      simpa [Array.getD_eq_getD_getElem?, List.getD_eq_getElem?_getD] using this
  · exact cst1_ok h

theorem vcst1_ok {w : World} {O : Own} {pl : Pl} {n : Nat} {x : V} {u : Value} (h : vcst1 x u = true) : RV w O pl n x u ∧ u.oneCell' = true := by
  unfold vcst1 at h
  split at h
  · exact ⟨.d _ _ (cst1_ok h), cst1_one h⟩
  · exact ⟨.nils _ _, rfl⟩
  · simp at h

theorem vcst1s_ok {xs : List V} {us : List Value} (h : vcst1s xs us = true) : us.length = xs.length ∧ ∀ i, i < xs.length → vcst1 (xs.getD i .any) (us.getD i undef) = true := by
  induction xs generalizing us with
  | nil => cases us <;> simp [vcst1s] at h ⊢
  | cons x xs ih =>
    cases us with
    | nil => simp [vcst1s] at h
    | cons u us =>
      simp [vcst1s] at h
      obtain ⟨h1, h2⟩ := ih h.2
      refine ⟨by simp [h1], fun i hi => ?_⟩
      cases i with
      | zero => exact h.1
      | succ i => exact h2 i (by simpa using hi)

theorem vcstOk_ok {w : World} {O : Own} {pl : Pl} {n : Nat} {x : V} {u : Value} (h : vcstOk x u = true) : RV w O pl n x u := by
  unfold vcstOk at h
  split at h
  · rename_i cs us
    obtain ⟨h1, h2⟩ := vcst1s_ok h
    refine .agg cs us (by simpa using h1) (fun i hi => ?_) (fun i hi => ?_)
    · have := (vcst1_ok (w := w) (O := O) (pl := pl) (n := n) (h2 i hi)).2
      simpa [Array.getD_eq_getD_getElem?, List.getD_eq_getElem?_getD] using this
    · have := (vcst1_ok (w := w) (O := O) (pl := pl) (n := n) (h2 i hi)).1
      simpa [Array.getD_eq_getD_getElem?, List.getD_eq_getElem?_getD] using this
  · exact .d _ _ (cstOk_ok h)
  · exact .nils _ _
  · simp at h

section
variable {P : Program} {cl : Callf} {G : Glob} {w : World} {pl : Pl} {Bd : Nat → Prop} {H : Hp} {env : Env} {a : Act}

theorem opd_ok {O : Own} {n : Nat} {x : AOpd} {X : Operand} (h : opdOk x X = true) (hG : GR G w O) (hE : RE w O pl n env a) (hk : (opd G env x).ok = true) :
    RV w O pl n (opd G env x) (a.eval X) := by
  unfold opdOk at h
  split at h
  · rename_i m m'
    have hm : m = m' := Nat.eq_of_beq_eq_true h
    subst hm
    exact hE m hk
  · exact .d _ _ (cstOk_ok h)
  · have := Nat.eq_of_beq_eq_true h
    subst this
    exact .d _ _ (.fn _ _ _ rfl (fun i hi => by simp at hi))
  · rename_i m m'
    have hm : m = m' := Nat.eq_of_beq_eq_true h
    subst hm
    cases hg : G m with
    | none => simp [opd, hg, V.ok] at hk
    | some cs =>
      have : opd G env (.g m) = .d (.rptr cs) := by simp [opd, hg]
      rw [this]
      exact .d _ _ (hG m cs hg).1
  · exact .nils _ _
  · exact .und
  · simp at h

structure Fin (w : World) (pl : Pl) (Bd : Nat → Prop) (H : Hp) (v : V) (H' : Hp) (u : Value) (w' : World) (pl' : Pl) : Prop where
  hr : HR w' pl' Bd H'
  rv : RV w' (owned pl' H') pl' (hlen H') v u
  ext : Ext w (owned pl H) w' (owned pl' H')
  ple : PlExt (hlen H) pl pl'
  le : hlen H ≤ hlen H'

def OpSim (P : Program) (o : Oper) (a : Act) (w : World) (pl : Pl) (Bd : Nat → Prop) (H : Hp) (v : V) (H' : Hp) : Prop :=
  ∀ (next : Act → World → Prop) (Q : Exit → Act → World → Prop), (∀ u w' pl', Fin w pl Bd H v H' u w' pl' → next (a.put o.dst u) w') → o.wp P a w next Q

theorem OpSim.value {o : Oper} {v : V} {H' : Hp} {u : Value} {w' : World} {pl' : Pl} (hrun : (execOp a.eval o).run P w = .ok (.value u) w') (hf : Fin w pl Bd H v H' u w' pl') : OpSim P o a w pl Bd H v H' := by
  intro next Q hn
  unfold Oper.wp
  rw [hrun, Oper.upon_value]
  exact hn u w' pl' hf

theorem OpSim.skip {o : Oper} {H' : Hp} {w' : World} {pl' : Pl} {v : V} (hrun : (execOp a.eval o).run P w = .ok .skip w') (hf : Fin w pl Bd H v H' undef w' pl') : OpSim P o a w pl Bd H v H' := by
  intro next Q hn
  unfold Oper.wp
  rw [hrun, Oper.upon_skip]
  exact hn _ w' pl' hf

theorem OpSim.pure (hH : HR w pl Bd H) {o : Oper} {v : V} {u : Value} (hrun : (execOp a.eval o).run P w = .ok (.value u) w) (hv : RV w (owned pl H) pl (hlen H) v u) : OpSim P o a w pl Bd H v H :=
  .value hrun ⟨hH, hv, Ext.refl _ _, PlExt.refl _ _, Nat.le_refl _⟩

theorem szIs_some {t n : Nat} (h : szIs P t n = true) : ∃ i, P.info? t = some i ∧ i.size = n := by
  unfold szIs at h
  split at h
  · rename_i i hi; exact ⟨i, hi, Nat.eq_of_beq_eq_true h⟩
  · simp at h

theorem run_sizeOf {t n : Nat} (h : szIs P t n = true) (w : World) : (sizeOf t).run P w = .ok n w := by
  obtain ⟨i, hi, hs⟩ := szIs_some h
  simp [sizeOf, typeInfo, hi, hs]

theorem run_isAgg {t : Nat} {b : Bool} (h : aggIs P t b = true) (w : World) : (Go.isAgg t).run P w = .ok b w := by
  unfold aggIs at h
  split at h
  · rename_i d hd; simp [Go.isAgg, run_underlying hd, h]
  · rename_i d e hd; simp [Go.isAgg, run_underlying hd, h]
  · rename_i d h1 h2 hd
    cases d <;> first | (simp [Go.isAgg, run_underlying hd]; simpa using h.symm) | exact absurd rfl (h1 _) | exact absurd rfl (h2 _ _)
  · simp at h

theorem sim_mv (hG : GR G w (owned pl H)) (hH : HR w pl Bd H) (hE : RE w (owned pl H) pl (hlen H) env a) {o : Oper} {X : Operand} (ho : o.op = .move X ∨ o.op = .assign X) {x : AOpd} (hx : opdOk x X = true)
    (hk : (opd G env x).ok = true) : OpSim P o a w pl Bd H (opd G env x) H :=
  .pure hH (u := a.eval X) (by rcases ho with ho | ho <;> simp [execOp, ho]) (opd_ok hx hG hE hk)

theorem rv_ptr {O : Own} {n r g i j b e c off : Nat} (hr : r < n) (hp : pl r g = some (b, e, c)) (ho : off = i * e + j) : RV w O pl n (.ptr r g i j) (.pointer (some ⟨b, off, none⟩)) := by
  subst ho; exact .ptr r g i j b e c hr hp
theorem rv_slc {O : Own} {n r g i k b e c off cap : Nat} (hr : r < n) (hp : pl r g = some (b, e, c)) (hk : i + k ≤ c) (ho : off = i * e) (hc : cap = c - i) : RV w O pl n (.slc r g i k) (.slice (some ⟨b, off, none⟩) k cap) := by
  subst ho; subst hc; exact .slc r g i k b e c hr hp hk

theorem ok_of_bool {v : V} {b : Bool} (h : v = .d (.bool b)) : v.ok = true := by subst h; rfl

theorem RV.bool_eq {O : Own} {n : Nat} {b : Bool} {u : Value} (h : RV w O pl n (.d (.bool b)) u) : u = .bool b := by
  cases h with
  | d _ _ h => cases h; rfl
theorem RV.int_eq {O : Own} {n : Nat} {k : IntKind} {m : Int} {u : Value} (h : RV w O pl n (.d (.int k m)) u) : u = .int k m := by
  cases h with
  | d _ _ h => cases h; rfl
theorem RV.str_eq {O : Own} {n : Nat} {s : List UInt8} {u : Value} (h : RV w O pl n (.d (.str s)) u) : u = .string ⟨s.toArray⟩ := by
  cases h with
  | d _ _ h => cases h; rename_i t ht; cases t; simp at ht; subst ht; simp

theorem sim_pick (hG : GR G w (owned pl H)) (hH : HR w pl Bd H) (hE : RE w (owned pl H) pl (hlen H) env a) {o : Oper} {C X Y : Operand} (ho : o.op = .pick C X Y) {c x y : AOpd} (hc : opdOk c C = true) (hx : opdOk x X = true) (hy : opdOk y Y = true)
    {t : Bool} (ht : opd G env c = .d (.bool t)) (hk : (bif t then opd G env x else opd G env y).ok = true) : OpSim P o a w pl Bd H (bif t then opd G env x else opd G env y) H := by
  have hcv := opd_ok hc hG hE (ok_of_bool ht)
  rw [ht] at hcv
  have hce := hcv.bool_eq
  refine .pure hH (u := if t then a.eval X else a.eval Y) (by simp [execOp, ho, hce, asBool]) ?_
  cases t
  · exact opd_ok hy hG hE hk
  · exact opd_ok hx hG hE hk

theorem fin_row (hH : HR w pl Bd H) {w' : World} {e c : Nat} {xs : List V} {arr : Array Value} {ty : TypeId} {fr : Nat × Nat} (hw : w'.heap = w.heap.push (.cells arr ty fr)) (hs : Same w w') (hsz : arr.size = c * e) (hf : Unfrozen fr arr.size)
    (hx : xs.length ≤ c) (he : ∀ i, i < xs.length → (xs.getD i .any).cells.length = e)
    (hr : ∀ i j, i < xs.length → j < e → RV w (owned pl H) pl (hlen H) ((xs.getD i .any).cells.getD j .any) (arr.getD (i * e + j) undef))
    (h1 : ∀ i j, i < xs.length → j < e → (arr.getD (i * e + j) undef).oneCell' = true) :
    ∃ pl', pl' (hlen H) 0 = some (w.heap.size, e, c) ∧ HR w' pl' Bd (hpush H (.row 0 e xs)) ∧ Ext w (owned pl H) w' (owned pl' (hpush H (.row 0 e xs))) ∧ PlExt (hlen H) pl pl' := by
  have hpl : PlExt (hlen H) pl (plNew pl (hlen H) (w.heap.size, e, c)) := fun r hr g p hp => by rw [plNew_ne (by omega)]; exact hp
  obtain ⟨h2, h3, h4⟩ := hH.push (w' := w') (.row 0 e xs) (.cells arr ty fr) e c hw hs (by simp [blk, hget_hpush_self, plNew_self]) (fun O' E => by
    refine .row 0 e xs w.heap.size c arr ty fr (plNew_self ..) (by rw [hw]; simp) hsz hf hx he (fun i j hi hj => (hr i j hi hj).mono E hpl (by omega)) h1 (fun g' hg' => ?_)
    show (if hlen H = hlen H then (if g' = 0 then some (w.heap.size, e, c) else none) else pl (hlen H) g') = none
    rw [if_pos rfl, if_neg (by omega)])
  exact ⟨_, plNew_self .., h2, h3, h4⟩

theorem unfrozen0 (n : Nat) : Unfrozen (0, 0) n := fun o _ h => by simp at h

theorem sim_box (hG : GR G w (owned pl H)) (hH : HR w pl Bd H) (hE : RE w (owned pl H) pl (hlen H) env a) {o : Oper} {t : TypeId} {X : Operand} (ho : o.op = .box t X) {x : AOpd} (hx : opdOk x X = true)
    (hk : (opd G env x).sto = true) : OpSim P o a w pl Bd H (.ptr (hlen H) 0 0 0) (hpush H (.row 0 (opd G env x).cells.length [opd G env x])) := by
  have hok : (opd G env x).ok = true := by revert hk; cases opd G env x <;> simp [V.sto, V.ok]
  have hv := opd_ok hx hG hE hok
  have hc := hv.cells hk
  obtain ⟨pl', h1, h2, h3, h4⟩ := fin_row hH (w' := { w with heap := w.heap.push (.cells (a.eval X).cells t) }) (e := (opd G env x).cells.length) (c := 1) (xs := [opd G env x]) rfl ⟨rfl, rfl, rfl⟩ (by rw [hc.size]; simp) (unfrozen0 _) (by simp)
    (fun i hi => by obtain rfl : i = 0 := by simpa using hi
                    rfl)
    (fun i j hi hj => by obtain rfl : i = 0 := by simpa using hi
                         simpa using hc.rel j hj)
    (fun i j hi hj => by obtain rfl : i = 0 := by simpa using hi
                         simpa using hc.one j hj)
  refine .value (u := .pointer (some ⟨w.heap.size, 0, none⟩)) (by simp [execOp, ho, Instr.box, newVar, newRow]) ⟨h2, ?_, h3, h4, by rw [hlen_hpush]; omega⟩
  exact rv_ptr (by rw [hlen_hpush]; omega) h1 (by simp)
end
end Go.Ev
/- Each operation of compact code does what the model's operation does: memory that is made, read and written. -/
namespace Go.Ev
open Go
set_option linter.unusedSimpArgs false
set_option linter.unusedVariables false

theorem setCells_spec {b : Nat} : ∀ (vs : List Value) (o : Nat) (w : World) {arr : Array Value} {ty : TypeId} {fr : Nat × Nat}, w.heap[b]? = some (.cells arr ty fr) → o + vs.length ≤ arr.size →
    Same w (w.setCells b o vs) ∧ (w.setCells b o vs).heap.size = w.heap.size ∧ (∀ b', b' ≠ b → (w.setCells b o vs).heap[b']? = w.heap[b']?) ∧
    ∃ arr', (w.setCells b o vs).heap[b]? = some (.cells arr' ty fr) ∧ arr'.size = arr.size ∧ ∀ k, arr'.getD k undef = if o ≤ k ∧ k < o + vs.length then vs.getD (k - o) undef else arr.getD k undef
  | [], o, w, arr, ty, fr, h, _ => ⟨Same.refl w, rfl, fun _ _ => rfl, arr, h, rfl, fun k => by rw [if_neg (by simp)]⟩
  | v :: r, o, w, arr, ty, fr, h, hl => by
    have hb := (Array.getElem?_eq_some_iff.1 h).1
    have h1 : (w.setCell ⟨b, o, none⟩ v).heap[b]? = some (.cells (arr.setIfInBounds o v) ty fr) := by
      simp [World.setCell, Array.getElem?_modify, h]
    obtain ⟨s1, s2, s3, arr', s4, s5, s6⟩ := setCells_spec r (o + 1) (w.setCell ⟨b, o, none⟩ v) h1 (by simp at hl ⊢; omega)
    refine ⟨⟨s1.os, s1.tape, s1.output⟩, by rw [World.setCells, s2]; simp [World.setCell], fun b' hb' => ?_, arr', s4, by simpa using s5, fun k => ?_⟩
    · rw [World.setCells, s3 b' hb']
      simp [World.setCell, Array.getElem?_modify, Ne.symm hb']
    · rw [s6 k]
      simp only [List.length_cons] at hl ⊢
      by_cases h1 : o + 1 ≤ k ∧ k < o + 1 + r.length
      · rw [if_pos h1, if_pos (by omega)]
        obtain ⟨m, rfl⟩ : ∃ m, k = o + 1 + m := ⟨k - (o + 1), by omega⟩
        rw [show o + 1 + m - o = m + 1 by omega, show o + 1 + m - (o + 1) = m by omega]
        rfl
      · rw [if_neg h1]
        by_cases h2 : k = o
        · subst h2
          rw [if_pos (by omega)]
          simp [show k < arr.size by omega]
        · rw [if_neg (by omega)]
          simp only [Array.getD_eq_getD_getElem?]
          rw [Array.getElem?_setIfInBounds_ne (Ne.symm h2)]

section
variable {P : Program} {cl : Callf} {G : Glob} {w : World} {pl : Pl} {Bd : Nat → Prop} {H : Hp} {env : Env} {a : Act}

theorem sto_ok {v : V} (h : v.sto = true) : v.ok = true := by revert h; cases v <;> simp [V.sto, V.ok]

theorem zeroIs_some {t : Nat} {z : V} (h : zeroIs P t z = true) : ∃ i u, P.info? t = some i ∧ i.zero = some u ∧ vcstOk z u = true ∧ i.size = z.cells.length := by
  unfold zeroIs at h
  split at h
  · rename_i i hi
    split at h
    · rename_i u hu
      simp only [Bool.and_eq_true] at h
      exact ⟨i, u, hi, hu, h.1, Nat.eq_of_beq_eq_true h.2⟩
    · simp at h
  · simp at h

theorem hasZero_some {t n : Nat} (h : hasZero P t n = true) : ∃ i u, P.info? t = some i ∧ i.zero = some u ∧ u.cells.size = n ∧ i.size = n := by
  unfold hasZero at h
  split at h
  · rename_i i hi
    split at h
    · rename_i u hu
      simp only [Bool.and_eq_true] at h
      exact ⟨i, u, hi, hu, Nat.eq_of_beq_eq_true h.1, Nat.eq_of_beq_eq_true h.2⟩
    · simp at h
  · simp at h

theorem fin_box (hH : HR w pl Bd H) {v : V} {u : Value} (hv : RV w (owned pl H) pl (hlen H) v u) (hk : v.sto = true) (t : TypeId) :
    ∃ pl', Fin w pl Bd H (.ptr (hlen H) 0 0 0) (hpush H (.row 0 v.cells.length [v])) (.pointer (some ⟨w.heap.size, 0, none⟩)) { w with heap := w.heap.push (.cells u.cells t) } pl' := by
  have hc := hv.cells hk
  obtain ⟨pl', h1, h2, h3, h4⟩ := fin_row hH (w' := { w with heap := w.heap.push (.cells u.cells t) }) (e := v.cells.length) (c := 1) (xs := [v]) rfl ⟨rfl, rfl, rfl⟩ (by rw [hc.size]; simp) (unfrozen0 _) (by simp)
    (fun i hi => by obtain rfl : i = 0 := by simpa using hi
                    rfl)
    (fun i j hi hj => by obtain rfl : i = 0 := by simpa using hi
                         simpa using hc.rel j hj)
    (fun i j hi hj => by obtain rfl : i = 0 := by simpa using hi
                         simpa using hc.one j hj)
  exact ⟨pl', h2, rv_ptr (by rw [hlen_hpush]; omega) h1 (by simp), h3, h4, by rw [hlen_hpush]; omega⟩

theorem sim_alloc (hH : HR w pl Bd H) {o : Oper} {t : TypeId} (ho : o.op = .alloc t) {z : V} (hz : zeroIs P t z = true) (hk : z.sto = true) :
    OpSim P o a w pl Bd H (.ptr (hlen H) 0 0 0) (hpush H (.row 0 z.cells.length [z])) := by
  obtain ⟨i, u, hi, hu, hc, _⟩ := zeroIs_some hz
  obtain ⟨pl', hf⟩ := fin_box hH (vcstOk_ok hc) hk t
  exact .value (by simp [execOp, ho, Instr.alloc, zeroValue, typeInfo, hi, hu, newVar, newRow]) hf

theorem hget_row {r g : Nat} {e : Nat} {xs : List V} (h : rowOf H r g = some (e, xs)) : hget H r = some (.row g e xs) := by
  unfold rowOf at h
  split at h
  · rename_i g' e' xs' hg
    cases hb : Nat.beq g' g
    · simp [hb] at h
    · have := Nat.eq_of_beq_eq_true hb
      subst this
      simp [hb] at h
      rw [hg, h.1, h.2]
  · simp at h

theorem row_lies (hH : HR w pl Bd H) {r g e : Nat} {xs : List V} (h : rowOf H r g = some (e, xs)) :
    ∃ b c arr ty fr, pl r g = some (b, e, c) ∧ w.heap[b]? = some (.cells arr ty fr) ∧ arr.size = c * e ∧ Unfrozen fr arr.size ∧ xs.length ≤ c ∧ (∀ i, i < xs.length → (xs.getD i .any).cells.length = e) ∧
      (∀ i j, i < xs.length → j < e → RV w (owned pl H) pl (hlen H) ((xs.getD i .any).cells.getD j .any) (arr.getD (i * e + j) undef)) ∧
      (∀ i j, i < xs.length → j < e → (arr.getD (i * e + j) undef).oneCell' = true) ∧
      (∀ m, Bd m → r < m → ∀ i j, i < xs.length → j < e → RV w (owned pl H) pl m ((xs.getD i .any).cells.getD j .any) (arr.getD (i * e + j) undef)) := by
  have hg := hget_row h
  have hor := hH.obj r _ hg
  cases hor with
  | row _ _ _ b c arr ty fr hp hh hs hf hx he hr h1 hgg =>
    refine ⟨b, c, arr, ty, fr, hp, hh, hs, hf, hx, he, hr, h1, fun m hm hlt => ?_⟩
    have hor2 := hH.bd m hm r _ hlt hg
    cases hor2 with
    | row _ _ _ b' c' arr' ty' fr' hp' hh' hs' hf' hx' he' hr' h1' hgg' =>
      rw [hp] at hp'
      simp only [Option.some.injEq, Prod.mk.injEq] at hp'
      obtain ⟨rfl, _, rfl⟩ := hp'
      rw [hh] at hh'
      simp only [Option.some.injEq, Go.Obj.cells.injEq] at hh'
      obtain ⟨rfl, rfl, rfl⟩ := hh'
      exact hr'

theorem cell_of_block {b k : Nat} {arr : Array Value} {ty : TypeId} {fr : Nat × Nat} (hh : w.heap[b]? = some (.cells arr ty fr)) (hk : k < arr.size) : w.cell? ⟨b, k, none⟩ = some (arr.getD k undef) := by
  simp [World.cell?, hh, Array.getElem?_eq_getElem hk, hk]

theorem mul_add_lt {i j e c : Nat} (hi : i < c) (hj : j < e) : i * e + j < c * e := by
  have : (i + 1) * e ≤ c * e := Nat.mul_le_mul_right _ hi
  rw [Nat.add_mul] at this
  omega

theorem load_ptr (hH : HR w pl Bd H) {r g i j n : Nat} {cs : List V} (h : hload H r g i j n = some cs) {u : Value} (hu : RV w (owned pl H) pl (hlen H) (.ptr r g i j) u) :
    ∃ b off us, u = .pointer (some ⟨b, off, none⟩) ∧ RCs w (owned pl H) pl (hlen H) cs us ∧ us.size = n ∧ ∀ k, k < n → w.cell? ⟨b, off + k, none⟩ = some (us.getD k undef) := by
  unfold hload at h
  split at h
  · rename_i e xs hrow
    split at h
    · rename_i x hx
      split at h
      · rename_i hle
        simp only [Option.some.injEq] at h
        subst h
        obtain ⟨b, c, arr, ty, fr, hp, hh, hs, hf, hxc, he, hr, h1, _⟩ := row_lies hH hrow
        have hil : i < xs.length := (List.getElem?_eq_some_iff.1 hx).1
        have hxd : xs.getD i .any = x := by simp [List.getD_eq_getElem?_getD, hx]
        have hxe : x.cells.length = e := by rw [← hxd]; exact he i hil
        cases hu with
        | ptr _ _ _ _ b' e' c' hlt hp' =>
          rw [hp] at hp'
          simp only [Option.some.injEq, Prod.mk.injEq] at hp'
          obtain ⟨rfl, rfl, rfl⟩ := hp'
          refine ⟨b, i * e + j, ((List.range n).map fun k => arr.getD (i * e + j + k) undef).toArray, rfl, ⟨by simp; omega, fun k hk => ?_, fun k hk => ?_⟩, by simp, fun k hk => ?_⟩
          · have hk' : k < n := by simp at hk; omega
            have := hr i (j + k) hil (by omega)
            rw [hxd, ← Nat.add_assoc] at this
            rw [getD_drop_take x.cells .any j n k hk']
            simpa [Array.getD_eq_getD_getElem?, hk'] using this
          · have hk' : k < n := by simp at hk; omega
            have := h1 i (j + k) hil (by omega)
            rw [← Nat.add_assoc] at this
            simpa [Array.getD_eq_getD_getElem?, hk'] using this
          · have hlt2 : i * e + (j + k) < c * e := mul_add_lt (by omega) (by omega)
            rw [cell_of_block hh (by omega)]
            simp [Array.getD_eq_getD_getElem?, hk]
      · simp at h
    · simp at h
  · simp at h

theorem run_loadVar {t n : Nat} {ag : Bool} (hag : aggIs P t ag = true) (hsz : szIs P t n = true) {b off : Nat} {us : Array Value} (hn : us.size = n) (h : ∀ k, k < n → w.cell? ⟨b, off + k, none⟩ = some (us.getD k undef))
    {cs : List V} {O : Own} {m : Nat} (hc : RCs w O pl m cs us) {v : V} (hv : mkVal ag cs = some v) : ∃ u, (loadVar t ⟨b, off, none⟩).run P w = .ok u w ∧ RV w O pl m v u := by
  cases ag
  · have hv' : ∃ v', cs = [v'] ∧ v' = v := by
      match cs, hv with
      | [v'], hv => exact ⟨v', rfl, by simpa [mkVal] using hv⟩
      | [], hv => simp [mkVal] at hv
      | _ :: _ :: _, hv => simp [mkVal] at hv
    obtain ⟨v', rfl, rfl⟩ := hv'
    · have hn1 : n = 1 := by rw [← hn, hc.size]; rfl
      subst hn1
      refine ⟨us.getD 0 undef, ?_, by simpa using hc.rel 0 (by simp)⟩
      have h0 := h 0 (by omega)
      rw [Nat.add_zero] at h0
      simp [loadVar, run_isAgg hag, h0]
  · simp [mkVal] at hv
    subst hv
    refine ⟨.agg us, ?_, hc.mkAgg⟩
    have hl := run_loadCells (P := P) w ⟨b, off, none⟩ n (fun k => us.getD k undef) (fun k hk => by rw [Addr.add_lit]; exact h k hk)
    have : ((List.range n).map fun k => us.getD k undef).toArray = us := by
      apply Array.ext
      · simp [hn]
      · intro i h1 h2; simp [Array.getD_eq_getD_getElem?, h2]
    rw [this] at hl
    simp [loadVar, run_isAgg hag, run_sizeOf hsz, hl]

theorem sim_load (hG : GR G w (owned pl H)) (hH : HR w pl Bd H) (hE : RE w (owned pl H) pl (hlen H) env a) {o : Oper} {t : TypeId} {A : Operand} (ho : o.op = .load t A) {x : AOpd} (hx : opdOk x A = true) {ag : Bool} {n : Nat}
    (hag : aggIs P t ag = true) (hsz : szIs P t n = true) {r g i j : Nat} (hp : opd G env x = .ptr r g i j) {cs : List V} (hl : hload H r g i j n = some cs) {v : V} (hv : mkVal ag cs = some v) : OpSim P o a w pl Bd H v H := by
  have hu := opd_ok hx hG hE (by rw [hp]; rfl)
  rw [hp] at hu
  obtain ⟨b, off, us, hue, hc, hn, hk⟩ := load_ptr hH hl hu
  obtain ⟨u, hrun, hrv⟩ := run_loadVar hag hsz hn hk hc hv
  exact .pure hH (u := u) (by simp [execOp, ho, Instr.loadAt, hue, Instr.sureAddr, hrun]) hrv

theorem sim_loadR (hG : GR G w (owned pl H)) (hH : HR w pl Bd H) (hE : RE w (owned pl H) pl (hlen H) env a) {o : Oper} {t : TypeId} {A : Operand} (ho : o.op = .load t A) {x : AOpd} (hx : opdOk x A = true) {ag : Bool} {n : Nat}
    (hag : aggIs P t ag = true) (hsz : szIs P t n = true) {cs : List D} (hp : opd G env x = .d (.rptr cs)) (hl : n ≤ cs.length) {v : V} (hv : mkVal ag ((cs.take n).map .d) = some v) : OpSim P o a w pl Bd H v H := by
  have hu := opd_ok hx hG hE (by rw [hp]; rfl)
  rw [hp] at hu
  cases hu with
  | d _ _ hu =>
    generalize hue : a.eval A = u at hu
    cases hu with
    | rptr _ b off F hO hb hc h1 hr =>
      have hcs : RCs w (owned pl H) pl (hlen H) ((cs.take n).map .d) ((List.range n).map F).toArray := by
        refine ⟨by simp; omega, fun k hk => ?_, fun k hk => ?_⟩ <;> have hk' : k < n := by (simp at hk; omega)
        · have := RV.d (pl := pl) (n := hlen H) _ _ (hr k (by omega))
          have hkc : k < cs.length := by omega
          simpa [List.getD_eq_getElem?_getD, Array.getD_eq_getD_getElem?, hk', List.getElem?_take_of_lt hk', hkc] using this
        · simpa [Array.getD_eq_getD_getElem?, hk'] using h1 k (by omega)
      obtain ⟨u, hrun, hrv⟩ := run_loadVar hag hsz (b := b) (off := off) (us := ((List.range n).map F).toArray) (by simp) (fun k hk => by rw [hc k (by omega)]; simp [Array.getD_eq_getD_getElem?, hk]) hcs hv
      exact .pure hH (u := u) (by simp [execOp, ho, Instr.loadAt, hue, Instr.sureAddr, hrun]) hrv
end
end Go.Ev
/- Each operation of compact code does what the model's operation does: stores, arithmetic, conversions, structs, literals. -/
namespace Go.Ev
open Go
set_option linter.unusedSimpArgs false
set_option linter.unusedVariables false

theorem RV.lower1 {w : World} {O : Own} {pl : Pl} {n m r : Nat} {v : V} {u : Value} (h : RV w O pl n v u) (hb : lowIn1 r v = true) (hr : r ≤ m) : RV w O pl m v u := by
  cases h with
  | d x u h => exact .d x u h
  | nils e a => exact .nils e a
  | slc r' g i k b e c hlt hp hk => exact .slc r' g i k b e c (by simp [lowIn1] at hb; omega) hp hk
  | slc0 r' g i a cap hi hlt => exact .slc0 r' g i a cap hi (by simp [lowIn1] at hb; omega)
  | ptr r' g i j b e c hlt hp => exact .ptr r' g i j b e c (by simp [lowIn1] at hb; omega) hp
  | _ => simp [lowIn1] at hb

theorem RV.lower {w : World} {O : Own} {pl : Pl} {n m r : Nat} {v : V} {u : Value} (h : RV w O pl n v u) (hb : lowIn r v = true) (hr : r ≤ m) : RV w O pl m v u := by
  cases h with
  | d x u h => exact .d x u h
  | agg cs us hl h1 h =>
    refine .agg cs us hl h1 fun i hi => (h i hi).lower1 (r := r) ?_ hr
    simp only [lowIn, List.all_eq_true] at hb
    have : cs.getD i .any = cs[i] := by simp [List.getD_eq_getElem?_getD, hi]
    rw [this]
    exact hb _ (List.getElem_mem hi)
  | nils e a => exact .nils e a
  | slc r' g i k b e c hlt hp hk => exact RV.lower1 (.slc r' g i k b e c hlt hp hk) hb hr
  | slc0 r' g i a cap hi hlt => exact RV.lower1 (.slc0 r' g i a cap hi hlt) hb hr
  | ptr r' g i j b e c hlt hp => exact RV.lower1 (.ptr r' g i j b e c hlt hp) hb hr
  | _ => simp [lowIn, lowIn1] at hb

def BdOk (Bd : Nat → Prop) (B : Bn) : Prop := ∀ m, Bd m → m ≤ B.n ∨ m ∈ B.ts
theorem okIn_lower {w : World} {O : Own} {pl : Pl} {Bd : Nat → Prop} {n r m : Nat} {B : Bn} {v : V} {u : Value} (h : RV w O pl n v u) (hb : okIn B r v = true) (hn : BdOk Bd B) (hm : m = n ∨ (Bd m ∧ r < m)) : RV w O pl m v u := by
  rcases hm with rfl | ⟨hm, hlt⟩
  · exact h
  · simp only [okIn, Bool.or_eq_true, Bool.and_eq_true, List.all_eq_true] at hb
    rcases hb with hb | ⟨hb, ht⟩
    · exact h.lower hb (by omega)
    · have h1 := Nat.le_of_ble_eq_true hb
      rcases hn m hm with h2 | h2
      · omega
      · rcases ht m h2 with h3 | h3
        · have := Nat.le_of_ble_eq_true h3
          omega
        · exact h.lower h3 (Nat.le_refl _)

theorem getD_set {α : Type} (xs : List α) (i k : Nat) (x d : α) : (xs.set i x).getD k d = if k = i ∧ i < xs.length then x else xs.getD k d := by
  simp only [List.getD_eq_getElem?_getD, List.getElem?_set]
  by_cases h : i = k
  · subst h
    by_cases hl : i < xs.length <;> simp [hl]
  · have : ¬ (k = i) := fun e => h e.symm
    simp [h, this]

theorem getD_splice (cs vs : List V) (j k : Nat) (hj : j + vs.length ≤ cs.length) : (cs.take j ++ vs ++ cs.drop (j + vs.length)).getD k .any = if j ≤ k ∧ k < j + vs.length then vs.getD (k - j) .any else cs.getD k .any := by
  have hj' : min j cs.length = j := by omega
  simp only [List.getD_eq_getElem?_getD, List.getElem?_append, List.length_append, List.length_take, hj', List.getElem?_take, List.getElem?_drop]
  by_cases h1 : k < j
  · rw [if_pos (by omega), if_pos h1, if_pos h1, if_neg (by omega)]
  · by_cases h2 : k < j + vs.length
    · rw [if_pos h2, if_neg h1, if_pos ⟨by omega, h2⟩]
    · rw [if_neg h2, if_neg (by omega)]
      congr 2
      omega

section
variable {P : Program} {cl : Callf} {G : Glob} {w : World} {pl : Pl} {Bd : Nat → Prop} {H : Hp} {env : Env} {a : Act}

theorem cells_of_one {v : V} (h : v.isAgg = false) : v.cells = [v] := by
  cases v <;> first | rfl | (simp [V.isAgg] at h; done) | skip
  rename_i d
  cases d <;> first | rfl | (simp [V.isAgg] at h; done)

theorem mkAgg_cells (cs : List V) : (mkAgg cs).cells = cs := by
  unfold mkAgg
  split
  · rename_i ds hd
    have := allD_some hd
    subst this
    rfl
  · rfl

theorem reCell_cells {x y : V} {cs : List V} (h : reCell x cs = some y) : y.cells = cs := by
  unfold reCell at h
  split at h
  · simp at h; subst h; exact mkAgg_cells _
  · split at h
    · simp at h
    · rename_i hv
      simp at h; subst h
      exact cells_of_one hv
  · simp at h

theorem hstore_some {r g i j : Nat} {vs : List V} {H' : Hp} (h : hstore H r g i j vs = some H') :
    ∃ e xs x y, rowOf H r g = some (e, xs) ∧ xs[i]? = some x ∧ j + vs.length ≤ x.cells.length ∧ y.cells = x.cells.take j ++ vs ++ x.cells.drop (j + vs.length) ∧ H' = hset H r (.row g e (xs.set i y)) := by
  unfold hstore at h
  split at h
  · rename_i e xs hrow
    split at h
    · rename_i x hx
      split at h
      · rename_i hle
        split at h
        · rename_i y hy
          exact ⟨e, xs, x, y, hrow, hx, hle, reCell_cells hy, by simpa using h.symm⟩
        · simp at h
      · simp at h
    · simp at h
  · simp at h

theorem run_storeVar {t n : Nat} (hsz : szIs P t n = true) {u : Value} (hn : u.cells.size = n) (h1 : ∀ k, k < n → (u.cells.getD k undef).oneCell' = true) {b off : Nat} {arr : Array Value} {ty : TypeId} {fr : Nat × Nat}
    (hh : w.heap[b]? = some (.cells arr ty fr)) (hl : off + n ≤ arr.size) (hf : Unfrozen fr arr.size) : (storeVar t ⟨b, off, none⟩ u).run P w = .ok () (w.setCells b off u.cells.toList) := by
  have hst := run_storeCells_cells (P := P) b off u.cells.toList 0 w
    (fun j hj => by rw [Nat.add_zero, cell_of_block hh (by simp at hj; omega)]; rfl)
    (fun j hj => by
      have := hf (off + 0 + j) (by simp at hj; omega)
      simp only [World.frozen?, hh]
      simp only [Bool.and_eq_false_iff, decide_eq_false_iff_not]
      omega)
    (fun v hv => by
      obtain ⟨k, hk, rfl⟩ := List.mem_iff_getElem.1 hv
      have := h1 k (by simpa [hn] using hk)
      have hk2 : k < u.cells.size := by simpa using hk
      simp only [Array.getD_eq_getD_getElem?, Array.getElem?_eq_getElem hk2, Option.getD_some] at this
      simpa using this)
  rw [Nat.add_zero] at hst
  simp [storeVar, run_sizeOf hsz, hn, hst]

theorem sim_store {B : Bn} (hn0 : BdOk Bd B) (hG : GR G w (owned pl H)) (hH : HR w pl Bd H) (hE : RE w (owned pl H) pl (hlen H) env a) {o : Oper} {t : TypeId} {A X : Operand} (ho : o.op = .store t A X) {p x : AOpd} (hp : opdOk p A = true) (hx : opdOk x X = true) {n : Nat}
    (hsz : szIs P t n = true) {r g i j : Nat} (hpe : opd G env p = .ptr r g i j) (hvn : (opd G env x).cells.length = n) (hk : (opd G env x).sto = true) (hb : okIn B r (opd G env x) = true) {H' : Hp} (hs : hstore H r g i j (opd G env x).cells = some H') :
    OpSim P o a w pl Bd H .und H' := by
  have hu := opd_ok hp hG hE (by rw [hpe]; rfl)
  rw [hpe] at hu
  have hv := opd_ok hx hG hE (sto_ok hk)
  obtain ⟨e, xs, y, z, hrow, hy, hle, hz, rfl⟩ := hstore_some hs
  obtain ⟨b, c, arr, ty, fr, hpl, hh, hsa, hf, hxc, he, hr, h1, hbd⟩ := row_lies hH hrow
  have hil : i < xs.length := (List.getElem?_eq_some_iff.1 hy).1
  have hyd : xs.getD i .any = y := by simp [List.getD_eq_getElem?_getD, hy]
  have hye : y.cells.length = e := by rw [← hyd]; exact he i hil
  have hc := hv.cells hk
  have hzl : z.cells.length = e := by rw [hz]; simp; omega
  generalize hue : a.eval A = u at hu
  generalize hve : a.eval X = uv at hv hc
  cases hu with
  | ptr _ _ _ _ b' e' c' hlt hp' =>
    rw [hpl] at hp'
    simp only [Option.some.injEq, Prod.mk.injEq] at hp'
    obtain ⟨rfl, rfl, rfl⟩ := hp'
    have hfit : i * e + j + n ≤ arr.size := by
      have : (i + 1) * e ≤ c * e := Nat.mul_le_mul_right _ (by omega)
      rw [Nat.add_mul] at this
      omega
    have hrun := run_storeVar (P := P) hsz (u := uv) (by rw [hc.size, hvn]) (fun k hk' => hc.one k (by omega)) hh hfit hf
    obtain ⟨s1, s2, s3, arr', s4, s5, s6⟩ := setCells_spec uv.cells.toList (i * e + j) w hh (by simp [hc.size, hvn]; omega)
    have hlen : uv.cells.toList.length = n := by simp [hc.size, hvn]
    rw [hlen] at s6
    -- the new cells, one by one
    have hnew : ∀ (R : V → Value → Prop), (∀ k, k < n → R ((opd G env x).cells.getD k .any) (uv.cells.getD k undef)) → (∀ i j, i < xs.length → j < e → R ((xs.getD i .any).cells.getD j .any) (arr.getD (i * e + j) undef)) →
        ∀ i' j', i' < (xs.set i z).length → j' < e → R (((xs.set i z).getD i' .any).cells.getD j' .any) (arr'.getD (i' * e + j') undef) := by
      intro R h1 h2 i' j' hi' hj'
      rw [List.length_set] at hi'
      rw [getD_set, s6]
      by_cases hii : i' = i
      · subst hii
        rw [if_pos ⟨rfl, hi'⟩, hz, getD_splice _ _ _ _ hle, hvn]
        by_cases hjj : j ≤ j' ∧ j' < j + n
        · rw [if_pos hjj, if_pos (by omega), show i' * e + j' - (i' * e + j) = j' - j by omega]
          have := h1 (j' - j) (by omega)
          simpa [List.getD_eq_getElem?_getD, Array.getD_eq_getD_getElem?] using this
        · rw [if_neg hjj, if_neg (by omega)]
          have := h2 i' j' hi' hj'
          rwa [hyd] at this
      · rw [if_neg (by omega), if_neg (by
          intro hcon
          rcases Nat.lt_or_gt_of_ne hii with hlt' | hgt'
          · have : (i' + 1) * e ≤ i * e := Nat.mul_le_mul_right _ hlt'
            rw [Nat.add_mul] at this
            omega
          · have : (i + 1) * e ≤ i' * e := Nat.mul_le_mul_right _ hgt'
            rw [Nat.add_mul] at this
            omega)]
        exact h2 i' j' hi' hj'
    obtain ⟨k1, k2, k3⟩ := hH.setRow (w' := w.setCells b (i * e + j) uv.cells.toList) (g' := g) (b' := b) (c' := c) (xs' := xs.set i z) (arr' := arr') (hget_row hrow) hpl (Nat.le_refl _) (fun _ => rfl) s1 (by omega)
      (fun b'' _ hne => s3 b'' hne) (.inl rfl) s4 (by omega) (by rw [s5]; exact hf) (by simpa using hxc)
      (fun i' hi' => by
        rw [List.length_set] at hi'
        rw [getD_set]
        split
        · exact hzl
        · exact he i' hi')
      (fun i' j' hi' hj' => hnew (fun _ u => u.oneCell' = true) (fun k hk' => hc.one k (by omega)) h1 i' j' hi' hj')
      (fun m hm i' j' hi' hj' => hnew (fun v u => RV w (owned pl H) pl m v u) (fun k hk' => by
          have hvm : RV w (owned pl H) pl m (opd G env x) uv := okIn_lower hv hb hn0 hm
          exact (hvm.cells hk).rel k (by omega)) (by
          rcases hm with rfl | ⟨hm, hlt'⟩
          · exact hr
          · exact hbd m hm hlt') i' j' hi' hj')
    refine .skip (w' := w.setCells b (i * e + j) uv.cells.toList) (by simp [execOp, ho, Instr.storeAt, hue, hve, Instr.sureAddr, hrun]) ⟨k1, .und, k2, k3, by rw [hlen_hset]; omega⟩
end
end Go.Ev
/- Each operation of compact code does what the model's operation does: arithmetic, comparisons, conversions, function values. -/
namespace Go.Ev
open Go
set_option linter.unusedSimpArgs false
set_option linter.unusedVariables false

section
variable {P : Program} {cl : Callf} {G : Glob} {w : World} {pl : Pl} {Bd : Nat → Prop} {H : Hp} {env : Env} {a : Act}

theorem RV.dd {O : Own} {n : Nat} {x : D} {u : Value} (h : RV w O pl n (.d x) u) : RD w O x u := by cases h with | d _ _ h => exact h
theorem RD.int_eq {O : Own} {k : IntKind} {m : Int} {u : Value} (h : RD w O (.int k m) u) : u = .int k m := by cases h; rfl
theorem RD.bool_eq {O : Own} {b : Bool} {u : Value} (h : RD w O (.bool b) u) : u = .bool b := by cases h; rfl
theorem RD.str_eq {O : Own} {s : List UInt8} {u : Value} (h : RD w O (.str s) u) : ∃ t : ByteArray, u = .string t ∧ t.toList = s ∧ t.size = s.length := by
  cases h
  rename_i t ht
  exact ⟨t, rfl, by rw [ByteArray.toList_eq, ht], by rw [← ht]; simp⟩

def sval : D → Value
  | .int k n => .int k n
  | .bool b => .bool b
  | .str s => .string ⟨s.toArray⟩
  | _ => undef
def isSv : D → Bool
  | .int _ _ => true
  | .bool _ => true
  | .str _ => true
  | _ => false
theorem sval_rd {O : Own} {z : D} (h : isSv z = true) : RD w O z (sval z) := by
  cases z <;> simp [isSv] at h
  · exact .bool _
  · exact .int _ _
  · exact .str _ _ (by simp)

theorem run_shift {op : BinOp} {k yk : IntKind} {x y : Int} {z : D} (h : shInt op k x y = some z) (t : TypeId) (X Y : Operand) (hop : op = .shl ∨ op = .shr) :
    (do eqGuard op t X Y (.int k x) (.int yk y); binOp op t (.int k x) (.int yk y) : Sem Value).run P w = .ok (sval z) w ∧ isSv z = true := by
  unfold shInt at h
  split at h
  · simp at h
  · rename_i hy
    rcases hop with rfl | rfl <;> simp at h <;> subst h <;> refine ⟨?_, rfl⟩ <;> simp [eqGuard, binOp, Op.shift, hy, sval]

theorem run_binInt {op : BinOp} {k : IntKind} {x y : Int} {z : D} (h : binInt op k x y = some z) (t : TypeId) (X Y : Operand) (h1 : op ≠ .shl) (h2 : op ≠ .shr) :
    (do eqGuard op t X Y (.int k x) (.int k y); binOp op t (.int k x) (.int k y) : Sem Value).run P w = .ok (sval z) w ∧ isSv z = true := by
  cases op
  case shl => exact absurd rfl h1
  case shr => exact absurd rfl h2
  case quo =>
    simp only [binInt] at h
    split at h
    · simp at h
    · rename_i h0
      simp at h; subst h
      exact ⟨by simp [eqGuard, binOp, Op.intDiv, h0, sval], rfl⟩
  case rem =>
    simp only [binInt] at h
    split at h
    · simp at h
    · rename_i h0
      simp at h; subst h
      exact ⟨by simp [eqGuard, binOp, Op.intDiv, h0, sval], rfl⟩
  case eql => simp only [binInt, Option.some.injEq] at h; subst h; exact ⟨by simp only [eqGuard_at_int, binOp_eql, Sem.run_bind, Sem.run_pure, Result.andThen_ok, sval]; rfl, rfl⟩
  case neq => simp only [binInt, Option.some.injEq] at h; subst h; exact ⟨by simp only [eqGuard_at_int, binOp_neq, Sem.run_bind, Sem.run_pure, Result.andThen_ok, sval]; rfl, rfl⟩
  case and => simp only [binInt, bitsOp, Option.some.injEq] at h; subst h; exact ⟨by simp only [eqGuard_at_int, binOp_and, Sem.run_bind, Sem.run_pure, Result.andThen_ok, sval]; rfl, rfl⟩
  case or => simp only [binInt, bitsOp, Option.some.injEq] at h; subst h; exact ⟨by simp only [eqGuard_at_int, binOp_or, Sem.run_bind, Sem.run_pure, Result.andThen_ok, sval]; rfl, rfl⟩
  case xor => simp only [binInt, bitsOp, Option.some.injEq] at h; subst h; exact ⟨by simp only [eqGuard_at_int, binOp_xor, Sem.run_bind, Sem.run_pure, Result.andThen_ok, sval]; rfl, rfl⟩
  case andNot => simp only [binInt, bitsOp, Option.some.injEq] at h; subst h; exact ⟨by simp only [eqGuard_at_int, binOp_andNot, Sem.run_bind, Sem.run_pure, Result.andThen_ok, sval]; rfl, rfl⟩
  all_goals (simp only [binInt, Option.some.injEq] at h; subst h; exact ⟨by simp [eqGuard, binOp, Op.intArith, Op.intCmp, sval], rfl⟩)

theorem run_binStr {op : BinOp} {x y : List UInt8} {z : D} (h : binStr op x y = some z) (t : TypeId) (X Y : Operand) {s s' : ByteArray} (hs : s.toList = x) (hs' : s'.toList = y) :
    ∃ u, (do eqGuard op t X Y (.string s) (.string s'); binOp op t (.string s) (.string s') : Sem Value).run P w = .ok u w ∧ RD w (owned pl H) z u := by
  have hz : s.size = x.length := by rw [← hs, ByteArray.toList_eq]; simp
  have hz' : s'.size = y.length := by rw [← hs', ByteArray.toList_eq]; simp
  have hbeq : (s.toList == s'.toList) = decide (x = y) := by rw [hs, hs', Bool.eq_iff_iff]; simp
  have hlt : Op.bytesLess s.toList s'.toList = Op.bytesLess x y := by rw [hs, hs']
  cases op <;> simp only [binStr, Option.some.injEq, reduceCtorEq] at h
  case add =>
    split at h
    · rename_i hroom
      simp only [Option.some.injEq] at h
      subst h
      refine ⟨.string (s ++ s'), ?_, .str _ _ ?_⟩
      · have : ¬ (((s.size + s'.size : Nat) : Int) > IntKind.i64.max) := by rw [hz, hz']; simp [strRoom] at hroom ⊢; omega
        simp only [eqGuard_at_string, binOp, Op.stringOp, Sem.run_bind, Sem.run_pure, Result.andThen_ok, if_neg this]
      · rw [← hs, ← hs', ByteArray.toList_eq, ByteArray.toList_eq]
        simp
    · simp at h
  all_goals
    subst h
    refine ⟨.bool _, by simp only [eqGuard_at_string, binOp, Op.stringOp, Sem.run_bind, Sem.run_pure, Result.andThen_ok]; rfl, ?_⟩
    try rw [hbeq]
    try rw [hlt]
    exact .bool _

theorem descIs_some {t : Nat} {p : TypeDesc → Bool} (h : descIs P t p = true) : ∃ d, P.underlying t = some d ∧ p d = true := by
  unfold descIs at h
  split at h
  · rename_i d hd; exact ⟨d, hd, h⟩
  · simp at h

theorem run_scalEq {d : Nat} {k : SK} {x y : D} {b : Bool} {t : Nat} (h : scalEq k x y = some b) (ht : descIs P t (kindIs k) = true) {O : Own} {u v : Value} (hu : RD w O x u) (hv : RD w O y v) :
    (Op.equalIn (d + 1) t u v).run P w = .ok b w := by
  obtain ⟨ds, hds, hk⟩ := descIs_some ht
  unfold scalEq at h
  split at h
  · split at h
    · rename_i k1 a1 k2 b1 hkk
      subst hkk
      simp at h; subst h
      rw [hu.int_eq, hv.int_eq]
      cases ds <;> simp [kindIs] at hk
      rw [run_equalIn_int w d t k1 _ a1 b1 hds]
      rfl
    · simp at h
  · rename_i a1 b1
    simp at h; subst h
    obtain ⟨s1, rfl, e1, _⟩ := hu.str_eq
    obtain ⟨s2, rfl, e2, _⟩ := hv.str_eq
    cases ds <;> simp [kindIs] at hk
    rw [run_equalIn_string w d t s1 s2 hds, e1, e2]
    congr 1
    rw [Bool.eq_iff_iff]; simp
  · rename_i a1 b1
    simp at h; subst h
    rw [hu.bool_eq, hv.bool_eq]
    cases ds <;> simp [kindIs] at hk
    exact run_equalIn_bool' w d t a1 b1 hds
  · simp at h

theorem scalEqs_len : ∀ {ks : List SK} {ags bs : List D} {r : Bool}, scalEqs ks ags bs = some r → ags.length = ks.length ∧ bs.length = ks.length
  | [], [], [], _, _ => ⟨rfl, rfl⟩
  | [], [], _ :: _, _, h => by simp [scalEqs] at h
  | [], _ :: _, _, _, h => by simp [scalEqs] at h
  | _ :: _, [], _, _, h => by simp [scalEqs] at h
  | _ :: _, _ :: _, [], _, h => by simp [scalEqs] at h
  | k :: ks, a :: ags, b :: bs, r, h => by
    simp only [scalEqs] at h
    split at h
    · rename_i x y h1 h2
      obtain ⟨l1, l2⟩ := scalEqs_len h2
      exact ⟨by simp [l1], by simp [l2]⟩
    · simp at h

theorem run_part1 {t : Nat} (hsz : szIs P t 1 = true) {k : SK} (hk : descIs P t (kindIs k) = true) {xs : Array Value} {n : Nat} (hn : n < xs.size) : (part t xs n).run P w = .ok (xs.getD n undef) w := by
  obtain ⟨ds, hds, hkk⟩ := descIs_some hk
  have hag : aggIs P t false = true := by
    unfold aggIs; rw [hds]; cases ds <;> first | rfl | (cases k <;> simp [kindIs] at hkk)
  simp [part, run_isAgg hag, Array.getElem?_eq_getElem hn, hn]

theorem run_eqFields {d : Nat} {xs ys : Array Value} {O : Own} : ∀ (fs : List Field) (ks : List SK) (n : Nat) (ags bs : List D) (r : Bool), scalFields P n fs ks = true → scalEqs ks ags bs = some r →
    n + ags.length ≤ xs.size → n + bs.length ≤ ys.size → (∀ i, i < ags.length → RD w O (ags.getD i .nilp) (xs.getD (n + i) undef)) → (∀ i, i < bs.length → RD w O (bs.getD i .nilp) (ys.getD (n + i) undef)) →
    (Op.eqFields (d + 1) xs ys fs).run P w = .ok r w
  | [], [], n, ags, bs, r, _, h, _, _, _, _ => by
    match ags, bs, h with
    | [], [], h => simp [scalEqs] at h; subst h; rfl
    | [], _ :: _, h => simp [scalEqs] at h
    | _ :: _, _, h => simp [scalEqs] at h
  | [], _ :: _, _, _, _, _, hf, _, _, _, _, _ => by simp [scalFields] at hf
  | _ :: _, [], _, _, _, _, hf, _, _, _, _, _ => by simp [scalFields] at hf
  | f :: fs, k :: ks, n, ags, bs, r, hf, h, hx, hy, h1, h2 => by
    match ags, bs, h with
    | [], _, h => simp [scalEqs] at h
    | _ :: _, [], h => simp [scalEqs] at h
    | a :: ags, b :: bs, h =>
      simp only [scalFields, Bool.and_eq_true, decide_eq_true_eq] at hf
      obtain ⟨⟨⟨⟨f1, f2⟩, f3⟩, f4⟩, f5⟩ := hf
      have f1 := Nat.eq_of_beq_eq_true f1
      simp only [scalEqs] at h
      split at h
      · rename_i p q hp hq
        simp at h; subst h
        simp only [List.length_cons] at hx hy h1 h2
        have ih := run_eqFields (d := d) (xs := xs) (ys := ys) (O := O) fs ks (n + 1) ags bs q f5 hq (by omega) (by omega)
          (fun i hi => by have := h1 (i + 1) (by omega); rw [show n + 1 + i = n + (i + 1) by omega]; simpa using this)
          (fun i hi => by have := h2 (i + 1) (by omega); rw [show n + 1 + i = n + (i + 1) by omega]; simpa using this)
        have ha := h1 0 (by omega)
        have hb := h2 0 (by omega)
        have he := run_scalEq (P := P) (d := d) hp f3 ha hb
        simp only [Op.eqFields, if_pos f4, f1, Sem.run_bind, run_part1 f2 f3 (show n < xs.size by omega), run_part1 f2 f3 (show n < ys.size by omega), Result.andThen_ok]
        rw [show xs.getD n undef = xs.getD (n + 0) undef from rfl, show ys.getD n undef = ys.getD (n + 0) undef from rfl, he]
        cases p
        · simp
        · simp [ih]
      · simp at h

theorem run_eqNN {d t : Nat} {ms : Array (String × TypeId)} (h : P.underlying t = some (.interface ms)) : (Op.equalIn (d + 1) t .nilIface .nilIface).run P w = .ok true w := by simp [Op.equalIn, run_underlying h]
theorem run_eqNI {d t k : Nat} {u : Value} {ms : Array (String × TypeId)} (h : P.underlying t = some (.interface ms)) : (Op.equalIn (d + 1) t .nilIface (.iface k u)).run P w = .ok false w := by simp [Op.equalIn, run_underlying h]
theorem run_eqIN {d t k : Nat} {u : Value} {ms : Array (String × TypeId)} (h : P.underlying t = some (.interface ms)) : (Op.equalIn (d + 1) t (.iface k u) .nilIface).run P w = .ok false w := by simp [Op.equalIn, run_underlying h]

theorem run_eqOf {ty : BTy} {t : Nat} {X Y : Operand} {x y : D} {b : Bool} (hty : ty ≠ .val) (h : eqOf ty x y = some b) (hc : binOk P ty t Y = true) {O : Own} {u v : Value} (hu : RD w O x u) (hv : RD w O y v) :
    (do eqGuard .eql t X Y u v; binOp .eql t u v : Sem Value).run P w = .ok (.bool b) w ∧ (do eqGuard .neq t X Y u v; binOp .neq t u v : Sem Value).run P w = .ok (.bool !b) w := by
  unfold eqOf at h
  split at h
  · rename_i p q
    simp at h; subst h
    rw [hu.bool_eq, hv.bool_eq]
    obtain ⟨ds, hds, hk⟩ := descIs_some (show descIs P t isBool = true from hc)
    cases ds <;> simp [isBool] at hk
    have he := run_equalIn_bool' (P := P) w 9999 t p q hds
    simp only [eqGuard_at_bool, binOp, Op.equal, Op.maxDepth, Sem.run_bind, Sem.run_pure, Result.andThen_ok, he]
    exact ⟨trivial, trivial⟩
  · rename_i ks ags bs
    have hlen := scalEqs_len h
    simp only [binOk, Bool.and_eq_true, Bool.not_eq_true'] at hc
    obtain ⟨⟨c1, c2⟩, c3⟩ := hc
    cases hu with
    | agg _ us hl1 _ hu =>
      cases hv with
      | agg _ vs hl2 _ hv =>
        cases hfs : fieldsOf P t with
        | none => rw [hfs] at c1; simp at c1
        | some fs =>
          rw [hfs] at c1
          have hund : P.underlying t = some (.struct fs) := by
            unfold fieldsOf at hfs
            split at hfs
            · rename_i fs' h'; simp at hfs; subst hfs; exact h'
            · simp at hfs
          have hfo : P.fieldsOf t = fs := by simp [Program.fieldsOf, hund]
          have hrun := run_eqFields (P := P) (w := w) (d := 9998) (xs := us) (ys := vs) fs.toList ks 0 ags bs b c1 h (by omega) (by omega) (fun i hi => by rw [Nat.zero_add]; exact hu i hi) (fun i hi => by rw [Nat.zero_add]; exact hv i hi)
          have he := run_equalIn_struct (P := P) w 9999 t us vs (by rw [hfo]; exact hund) c2
          rw [hfo] at he
          simp only [Sem.run_bind, run_eqGuard_agg w _ t X Y us vs c3, Result.andThen_ok, run_eql_struct, run_neq_struct, he, hrun]
          exact ⟨trivial, trivial⟩
  · simp at h; subst h
    cases hu; cases hv
    simp only [binOk, Bool.and_eq_true] at hc
    obtain ⟨ds, hds, hk⟩ := descIs_some hc.1
    cases ds <;> simp [isIface] at hk
    cases Y <;> simp at hc
    have he := run_eqNN (P := P) (w := w) (d := 9999) hds
    simp only [eqGuard_nil_constR, binOp, Op.equal, Op.maxDepth, Sem.run_bind, Sem.run_pure, Result.andThen_ok, he]
    exact ⟨trivial, trivial⟩
  · simp at h; subst h
    cases hu
    simp only [binOk, Bool.and_eq_true] at hc
    obtain ⟨ds, hds, hk⟩ := descIs_some hc.1
    cases ds <;> simp [isIface] at hk
    cases hv
    rename_i x v hv
    have he := fun k => run_eqNI (P := P) (w := w) (d := 9999) (k := k) (u := v) hds
    simp only [eqGuard_nil_iface, binOp, Op.equal, Op.maxDepth, Sem.run_bind, Sem.run_pure, Result.andThen_ok]
    simp only [he, Result.andThen_ok]
    exact ⟨trivial, trivial⟩
  · simp at h; subst h
    cases hv
    simp only [binOk, Bool.and_eq_true] at hc
    obtain ⟨ds, hds, hk⟩ := descIs_some hc.1
    cases ds <;> simp [isIface] at hk
    cases hu
    rename_i x v hu
    have he := fun k => run_eqIN (P := P) (w := w) (d := 9999) (k := k) (u := v) hds
    simp only [eqGuard_at_iface, binOp, Op.equal, Op.maxDepth, Sem.run_bind, Sem.run_pure, Result.andThen_ok]
    simp only [he, Result.andThen_ok]
    exact ⟨trivial, trivial⟩
  · simp at h

theorem sim_bin (hG : GR G w (owned pl H)) (hH : HR w pl Bd H) (hE : RE w (owned pl H) pl (hlen H) env a) {o : Oper} {op : BinOp} {t ty' : TypeId} {X Y : Operand} (ho : o.op = .binOp op t X Y ty') {x y : AOpd} (hx : opdOk x X = true) (hy : opdOk y Y = true)
    {ty : BTy} (hc : binOk P ty t Y = true) {p q z : D} (hp : opd G env x = .d p) (hq : opd G env y = .d q) (hz : binD op ty p q = some z) : OpSim P o a w pl Bd H (.d z) H := by
  have hu := opd_ok hx hG hE (by rw [hp]; rfl)
  have hv := opd_ok hy hG hE (by rw [hq]; rfl)
  rw [hp] at hu
  rw [hq] at hv
  have hu := hu.dd
  have hv := hv.dd
  suffices hs : ∃ u, (do eqGuard op t X Y (a.eval X) (a.eval Y); binOp op t (a.eval X) (a.eval Y) : Sem Value).run P w = .ok u w ∧ RD w (owned pl H) z u by
    obtain ⟨u, hrun, hrd⟩ := hs
    exact .pure hH (u := u) (by simp only [execOp, ho]; rw [Sem.run_bind, hrun]; rfl) (.d _ _ hrd)
  generalize a.eval X = u at *
  generalize a.eval Y = v at *
  unfold binD at hz
  split at hz
  · split at hz
    · rw [hu.int_eq, hv.int_eq]
      obtain ⟨h1, h2⟩ := run_shift (P := P) (w := w) hz t X Y (.inl rfl)
      exact ⟨_, h1, sval_rd h2⟩
    · rw [hu.int_eq, hv.int_eq]
      obtain ⟨h1, h2⟩ := run_shift (P := P) (w := w) hz t X Y (.inr rfl)
      exact ⟨_, h1, sval_rd h2⟩
    · split at hz
      · rename_i hn1 hn2 hk
        subst hk
        rw [hu.int_eq, hv.int_eq]
        have h1 : op ≠ .shl := by rintro rfl; exact absurd rfl (by first | exact hn1 _ _ _ _ rfl rfl | exact fun _ => hn1 _ _ _ _ rfl rfl rfl | assumption)
        have h2 : op ≠ .shr := by rintro rfl; exact absurd rfl (by first | exact hn2 _ _ _ _ rfl rfl | exact fun _ => hn2 _ _ _ _ rfl rfl rfl | assumption)
        obtain ⟨h1, h2⟩ := run_binInt (P := P) (w := w) hz t X Y h1 h2
        exact ⟨_, h1, sval_rd h2⟩
      · simp at hz
    · obtain ⟨s1, rfl, e1, _⟩ := hu.str_eq
      obtain ⟨s2, rfl, e2, _⟩ := hv.str_eq
      exact run_binStr hz t X Y e1 e2
    · simp at hz
  · rename_i hty
    split at hz
    · split at hz
      · rename_i b hb
        simp at hz; subst hz
        exact ⟨_, (run_eqOf (X := X) (by intro h; exact hty h) hb hc hu hv).1, .bool _⟩
      · simp at hz
    · split at hz
      · rename_i b hb
        simp at hz; subst hz
        exact ⟨_, (run_eqOf (X := X) (by intro h; exact hty h) hb hc hu hv).2, .bool _⟩
      · simp at hz
    · simp at hz
end
end Go.Ev
/- Each operation of compact code does what the model's operation does: conversions, slices, elements, structs, literals. -/
namespace Go.Ev
open Go
set_option linter.unusedSimpArgs false
set_option linter.unusedVariables false

section
variable {P : Program} {cl : Callf} {G : Glob} {w : World} {pl : Pl} {Bd : Nat → Prop} {H : Hp} {env : Env} {a : Act}

theorem sim_nilck (hG : GR G w (owned pl H)) (hH : HR w pl Bd H) (hE : RE w (owned pl H) pl (hlen H) env a) {o : Oper} {X : Operand} (ho : o.op = .nilCheck X) {x : AOpd} (hx : opdOk x X = true) {v : V} (hp : opd G env x = v)
    (hv : (∃ r g i j, v = .ptr r g i j) ∨ (∃ cs, v = .d (.rptr cs)) ∨ (∃ k cs, v = .fn (.func k) cs) ∨ (∃ k cs, v = .d (.fn (.func k) cs))) : OpSim P o a w pl Bd H v H := by
  have hu := opd_ok hx hG hE (by rw [hp]; rcases hv with ⟨_, _, _, _, rfl⟩ | ⟨_, rfl⟩ | ⟨_, _, rfl⟩ | ⟨_, _, rfl⟩ <;> rfl)
  rw [hp] at hu
  refine .pure hH (u := a.eval X) ?_ hu
  simp only [execOp, ho]
  generalize a.eval X = u at hu
  rcases hv with ⟨_, _, _, _, rfl⟩ | ⟨_, rfl⟩ | ⟨_, _, rfl⟩ | ⟨_, _, rfl⟩
  · cases hu; rfl
  · have hu := hu.dd; cases hu; rfl
  · cases hu; rfl
  · have hu := hu.dd; cases hu; rfl

theorem sim_un (hG : GR G w (owned pl H)) (hH : HR w pl Bd H) (hE : RE w (owned pl H) pl (hlen H) env a) {o : Oper} {op : UnOp} {t : TypeId} {X : Operand} (ho : o.op = .unOp op t X) {x : AOpd} (hx : opdOk x X = true) {p z : D} (hp : opd G env x = .d p)
    (hz : unD op p = some z) : OpSim P o a w pl Bd H (.d z) H := by
  have hu := opd_ok hx hG hE (by rw [hp]; rfl)
  rw [hp] at hu
  have hu := hu.dd
  unfold unD at hz
  split at hz
  · simp at hz; subst hz
    have he := hu.int_eq
    exact .pure hH (u := .int _ _) (by simp only [execOp, ho, he, Op.unary, Op.intArith, Int.zero_sub]; rfl) (.d _ _ (.int _ _))
  · simp at hz; subst hz
    have he := hu.bool_eq
    exact .pure hH (u := .bool _) (by simp only [execOp, ho, he, Op.unary]; rfl) (.d _ _ (.bool _))
  · simp at hz

theorem sim_cvInt (hG : GR G w (owned pl H)) (hH : HR w pl Bd H) (hE : RE w (owned pl H) pl (hlen H) env a) {o : Oper} {src dst : TypeId} {X : Operand} (ho : o.op = .convert src dst X) {x : AOpd} (hx : opdOk x X = true) {k k' : IntKind} {n : Int} (hp : opd G env x = .d (.int k' n))
    (hd : descIs P dst (intIs k) = true) (hs : (P.underlying src).isSome = true) : OpSim P o a w pl Bd H (.d (.int k (k.wrap n))) H := by
  have hu := opd_ok hx hG hE (by rw [hp]; rfl)
  rw [hp] at hu
  have he := hu.dd.int_eq
  obtain ⟨ds, hds, hk⟩ := descIs_some hd
  obtain ⟨ss, hss⟩ := Option.isSome_iff_exists.1 hs
  cases ds <;> simp [intIs] at hk
  subst hk
  exact .pure hH (u := .int k (k.wrap n)) (by simp [execOp, ho, he, convert, run_underlying hss, run_underlying hds, Conv.intToInt]) (.d _ _ (.int _ _))

theorem sim_cvId (hG : GR G w (owned pl H)) (hH : HR w pl Bd H) (hE : RE w (owned pl H) pl (hlen H) env a) {o : Oper} {src dst : TypeId} {X : Operand} (ho : o.op = .convert src dst X) {x : AOpd} (hx : opdOk x X = true) {s : List UInt8} (hp : opd G env x = .d (.str s))
    (hd : descIs P dst isStr = true) (hs : (P.underlying src).isSome = true) : OpSim P o a w pl Bd H (.d (.str s)) H := by
  have hu := opd_ok hx hG hE (by rw [hp]; rfl)
  rw [hp] at hu
  obtain ⟨t, he, _, _⟩ := hu.dd.str_eq
  obtain ⟨ds, hds, hk⟩ := descIs_some hd
  obtain ⟨ss, hss⟩ := Option.isSome_iff_exists.1 hs
  cases ds <;> simp [isStr] at hk
  refine .pure hH (u := a.eval X) ?_ hu
  simp only [execOp, ho, he]
  cases ss <;> simp [convert, run_underlying hss, run_underlying hds]

theorem sim_mkfn (hG : GR G w (owned pl H)) (hH : HR w pl Bd H) (hE : RE w (owned pl H) pl (hlen H) env a) {o : Oper} {f : Fn} {first caps : Array Operand} (ho : o.op = .makeFunc f first caps) (hf : first.size = 0) {cs : List AOpd} (hc : opdsOk cs caps.toList = true)
    (hk : ∀ c ∈ cs, (opd G env c).ok = true) {v : V} (hv : (∃ xs, allD (cs.map (opd G env)) = some xs ∧ v = .d (.fn f xs)) ∨ v = .fn f (cs.map (opd G env))) : OpSim P o a w pl Bd H v H := by
  have hl : ∀ (cs : List AOpd) (ys : List Operand), opdsOk cs ys = true → ys.length = cs.length ∧ ∀ i, i < cs.length → opdOk (cs.getD i .u) (ys.getD i (.tmp 0)) = true := by
    intro cs
    induction cs with
    | nil => intro ys h; cases ys <;> simp [opdsOk] at h ⊢
    | cons c cs ih =>
      intro ys h
      cases ys with
      | nil => simp [opdsOk] at h
      | cons y ys =>
        simp only [opdsOk, Bool.and_eq_true] at h
        obtain ⟨h1, h2⟩ := ih ys h.2
        refine ⟨by simp [h1], fun i hi => ?_⟩
        cases i with
        | zero => exact h.1
        | succ i => exact h2 i (by simpa using hi)
  obtain ⟨h1, h2⟩ := hl cs caps.toList hc
  have hrel : ∀ i, i < (cs.map (opd G env)).length → RV w (owned pl H) pl (hlen H) ((cs.map (opd G env)).getD i .any) ((caps.map a.eval).getD i undef) := by
    intro i hi
    have hi' : i < cs.length := by simpa using hi
    have hi2 : i < caps.size := by simp at h1; omega
    have h3 := h2 i hi'
    have hcs : cs.getD i .u = cs[i] := by simp [List.getD_eq_getElem?_getD, hi']
    have hys : caps.toList.getD i (.tmp 0) = caps[i] := by simp [List.getD_eq_getElem?_getD, hi2]
    rw [hcs, hys] at h3
    have := opd_ok h3 hG hE (hk _ (List.getElem_mem hi'))
    simpa [List.getD_eq_getElem?_getD, Array.getD_eq_getD_getElem?, hi', hi2] using this
  have hsz : (caps.map a.eval).size = (cs.map (opd G env)).length := by simp at h1 ⊢; omega
  have hfi : first.map a.eval = #[] := by
    have : first = #[] := Array.eq_empty_of_size_eq_zero hf
    rw [this]; simp
  refine .pure hH (u := .func f #[] (caps.map a.eval)) (by simp [execOp, ho, Instr.makeFunc, hfi]) ?_
  rcases hv with ⟨xs, hx, rfl⟩ | rfl
  · have hxe := allD_some hx
    rw [hxe] at hrel hsz
    refine .d _ _ (.fn f xs _ (by simpa using hsz) fun i hi => ?_)
    have := hrel i (by simpa using hi)
    simp only [List.getD_eq_getElem?_getD, List.getElem?_map, List.getElem?_eq_getElem hi, Option.map_some, Option.getD_some] at this ⊢
    exact this.dd
  · exact .fn f _ _ hsz hrel

theorem sim_extract (hG : GR G w (owned pl H)) (hH : HR w pl Bd H) (hE : RE w (owned pl H) pl (hlen H) env a) {o : Oper} {X : Operand} {i : Nat} (ho : o.op = .extract X i) {x : AOpd} (hx : opdOk x X = true) {vs : List V} (hp : opd G env x = .tup vs) {v : V} (hv : vs[i]? = some v) : OpSim P o a w pl Bd H v H := by
  have hu := opd_ok hx hG hE (by rw [hp]; rfl)
  rw [hp] at hu
  generalize hue : a.eval X = u at hu
  have hil := (List.getElem?_eq_some_iff.1 hv).1
  cases hu with
  | tup _ us hl h =>
    have := h i hil
    have hi2 : i < us.size := by omega
    simp only [List.getD_eq_getElem?_getD, hv, Option.getD_some, Array.getD_eq_getD_getElem?, Array.getElem?_eq_getElem hi2] at this
    exact .pure hH (u := us[i]) (by simp [execOp, ho, hue, Instr.extract, hi2]) this

theorem sim_mkiface (hG : GR G w (owned pl H)) (hH : HR w pl Bd H) (hE : RE w (owned pl H) pl (hlen H) env a) {o : Oper} {t : TypeId} {X : Operand} (ho : o.op = .makeInterface t X) {x : AOpd} (hx : opdOk x X = true) {p : D} (hp : opd G env x = .d p)
    (hd : descIs P t (fun d => !isIface d) = true) : OpSim P o a w pl Bd H (.d (.iface t p)) H := by
  have hu := opd_ok hx hG hE (by rw [hp]; rfl)
  rw [hp] at hu
  obtain ⟨ds, hds, hk⟩ := descIs_some hd
  refine .pure hH (u := .iface t (a.eval X)) ?_ (.d _ _ (.iface t _ _ hu.dd))
  cases ds <;> first | (simp [isIface] at hk; done) | simp [execOp, ho, Instr.makeInterface, run_underlying hds]

theorem sliceOf_some {t e : Nat} (h : sliceOf P t = some e) : P.underlying t = some (.slice e) := by
  unfold sliceOf at h
  split at h
  · rename_i e' h'; simp at h; subst h; exact h'
  · simp at h

theorem sim_len (hG : GR G w (owned pl H)) (hH : HR w pl Bd H) (hE : RE w (owned pl H) pl (hlen H) env a) {o : Oper} {X : Operand} {t : TypeId} {ags : Array Operand} {ts : Array TypeId} (ho : o.op = .call { callee := .builtin .len, args := ags, argTypes := ts }) (has : ags.toList = [X]) (hts : ts[0]? = some t) {x : AOpd} (hx : opdOk x X = true)
    {n : Nat} (hp : (descIs P t isStr = true ∧ ∃ s, opd G env x = .d (.str s) ∧ n = s.length) ∨ ((sliceOf P t).isSome = true ∧ ((∃ e xs, opd G env x = .d (.vals e xs) ∧ n = xs.length) ∨ (∃ e, opd G env x = .nils e ∧ n = 0) ∨ (∃ r g i, opd G env x = .slc r g i n)))) :
    OpSim P o a w pl Bd H (.d (.int .i64 (n : Int))) H := by
  have hu := opd_ok hx hG hE (by rcases hp with ⟨_, _, h, _⟩ | ⟨_, ⟨_, _, h, _⟩ | ⟨_, h, _⟩ | ⟨_, _, _, h⟩⟩ <;> rw [h] <;> rfl)
  have has' : ags = #[X] := by cases ags; simp at has; subst has; rfl
  refine .pure hH (u := .int .i64 n) ?_ (.d _ _ (.int _ _))
  simp only [execOp, ho, resolve, has', Sem.run_bind, Sem.run_pure, Result.andThen_ok, invoke, builtin, List.map_toArray, List.map_cons, List.map_nil]
  generalize a.eval X = u at hu
  rcases hp with ⟨hd, s, h, hn⟩ | ⟨hd, hp⟩
  · rw [h] at hu
    obtain ⟨t', rfl, _, hsz⟩ := hu.dd.str_eq
    obtain ⟨ds, hds, hk⟩ := descIs_some hd
    cases ds <;> simp [isStr] at hk
    simp [Builtin.len_, hts, run_underlying hds, hsz, hn, goInt]
  · obtain ⟨e, he⟩ := Option.isSome_iff_exists.1 hd
    have hds := sliceOf_some he
    have hs : ∃ A c, u = .slice A n c := by
      rcases hp with ⟨_, _, h, hn⟩ | ⟨_, h, hn⟩ | ⟨_, _, _, h⟩ <;> rw [h] at hu
      · have hu := hu.dd
        subst hn
        cases hu
        · exact ⟨_, _, rfl⟩
        · exact ⟨_, _, rfl⟩
      · subst hn; cases hu; exact ⟨_, _, rfl⟩
      · cases hu
        · exact ⟨_, _, rfl⟩
        · exact ⟨_, _, rfl⟩
    obtain ⟨A, c, rfl⟩ := hs
    simp [Builtin.len_, hts, run_underlying hds, goInt]

theorem strOf_nums {vs : List V} {s : List UInt8} (h : strOf vs = some s) : ∃ ns : List Int, vs = ns.map (fun n => V.d (.int .u8 n)) ∧ s = ns.map (fun n => UInt8.ofNat n.toNat) := by
  induction vs generalizing s with
  | nil => simp [strOf] at h; subst h; exact ⟨[], rfl, rfl⟩
  | cons v r ih =>
    unfold strOf at h
    split at h
    · rename_i heq; simp at heq
    · rename_i n r' heq
      simp only [List.cons.injEq] at heq
      obtain ⟨rfl, rfl⟩ := heq
      split at h
      · rename_i s' hs'
        simp at h; subst h
        obtain ⟨ns, h1, h2⟩ := ih hs'
        exact ⟨n :: ns, by simp [h1], by simp [h2]⟩
      · simp at h
    · simp at h
end
end Go.Ev
/- Each operation of compact code does what the model's operation does: parts of strings, slices and structs. -/
namespace Go.Ev
open Go
set_option linter.unusedSimpArgs false
set_option linter.unusedVariables false

section
variable {P : Program} {cl : Callf} {G : Glob} {w : World} {pl : Pl} {Bd : Nat → Prop} {H : Hp} {env : Env} {a : Act}

theorem asI_some {v : V} {n : Int} (h : asI v = some n) : ∃ k, v = .d (.int k n) := by
  unfold asI at h
  split at h
  · simp at h; subst h; exact ⟨_, rfl⟩
  · simp at h

theorem sim_idx (hG : GR G w (owned pl H)) (hH : HR w pl Bd H) (hE : RE w (owned pl H) pl (hlen H) env a) {o : Oper} {t : TypeId} {X I : Operand} (ho : o.op = .index t X I) {x i : AOpd} (hx : opdOk x X = true) (hi : opdOk i I = true) (hd : descIs P t isStr = true)
    {s : List UInt8} (hp : opd G env x = .d (.str s)) {k : Int} (hk : asI (opd G env i) = some k) (h0 : 0 ≤ k) (h1 : k < (s.length : Int)) : OpSim P o a w pl Bd H (.d (.int .u8 ((s.getD k.toNat 0).toNat : Int))) H := by
  obtain ⟨kk, hke⟩ := asI_some hk
  have hu := opd_ok hx hG hE (by rw [hp]; rfl)
  have hv := opd_ok hi hG hE (by rw [hke]; rfl)
  rw [hp] at hu
  rw [hke] at hv
  obtain ⟨t', he, htl, hsz⟩ := hu.dd.str_eq
  have hie := hv.dd.int_eq
  obtain ⟨ds, hds, hkd⟩ := descIs_some hd
  cases ds <;> simp [isStr] at hkd
  have hlt : k.toNat < t'.size := by omega
  refine .pure hH (u := .int .u8 ((s.getD k.toNat 0).toNat : Int)) ?_ (.d _ _ (.int _ _))
  have hg : t'[k.toNat]? = some (s.getD k.toNat 0) := by
    rw [ByteArray.toList_eq] at htl
    have h2 : t'.data.toList[k.toNat]? = s[k.toNat]? := by rw [htl]
    have h3 : k.toNat < s.length := by omega
    have h4 : t'[k.toNat]? = some (t'[k.toNat]'hlt) := by simp [hlt]
    rw [h4]
    congr 1
    have h5 : t'.data.toList[k.toNat]? = some (t'[k.toNat]'hlt) := by
      rw [Array.getElem?_toList]
      show t'.data[k.toNat]? = _
      rw [Array.getElem?_eq_getElem (by simpa using hlt)]
      rfl
    rw [h5, List.getElem?_eq_getElem h3] at h2
    simp only [Option.some.injEq] at h2
    rw [h2]
    simp [List.getD_eq_getElem?_getD, h3]
  simp [execOp, ho, Instr.index, he, hie, asIntOf, run_underlying hds, h0, hg]

theorem RD.drop_take {O : Own} {e : Nat} {xs : List D} {u : Value} (h : RD w O (.vals e xs) u) {l n : Nat} (hn : n ≤ xs.length) (hl : l ≤ n) :
    ∃ A cap, u = .slice A xs.length cap ∧ xs.length ≤ cap ∧ ∀ A', (l = cap ∨ A' = A.map (·.add (l * e)) ∨ l = n) → RD w O (.vals e ((xs.take n).drop l)) (.slice A' (n - l) (cap - l)) := by
  have hlen : ((xs.take n).drop l).length = n - l := by simp; omega
  by_cases hz : n - l = 0
  · have hnil : (xs.take n).drop l = [] := List.eq_nil_of_length_eq_zero (by omega)
    rw [hnil, hz]
    cases h with
    | vals0 _ A cap => exact ⟨A, cap, rfl, Nat.zero_le _, fun A' _ => .vals0 _ _ _⟩
    | vals _ _ b o cap F hcap => exact ⟨_, cap, rfl, hcap, fun A' _ => .vals0 _ _ _⟩
  · cases h with
    | vals0 => simp at hn; omega
    | vals _ _ b o cap F hcap hO hb he hc h1 hr =>
      refine ⟨_, cap, rfl, hcap, fun A' hA => ?_⟩
      have hA' : A' = some ⟨b, o + l * e, none⟩ := by
        rcases hA with h | h | h
        · omega
        · rw [h]; simp [Addr.add_lit]
        · omega
      subst hA'
      rw [← hlen]
      have hget : ∀ i, i < n - l → ((xs.take n).drop l).getD i .nilp = xs.getD (l + i) .nilp := fun i hi => by
        simp only [List.getD_eq_getElem?_getD, List.getElem?_drop]
        rw [List.getElem?_take_of_lt (by omega)]
      refine .vals e _ b (o + l * e) (cap - l) (fun i j => F (l + i) j) (by omega) hO hb (fun i hi => ?_) (fun i j hi hj => ?_) (fun i j hi hj => h1 _ _ (by omega) hj) (fun i j hi hj => ?_)
      · rw [hget i (by omega)]; exact he _ (by omega)
      · have := hc (l + i) j (by omega) hj
        rwa [Nat.add_mul, ← Nat.add_assoc] at this
      · rw [hget i (by omega)]; exact hr _ _ (by omega) hj

theorem run_bound {lim dflt n : Nat} {x : Option AOpd} {X : Option Operand} (hx : optOk x X = true) (h : bound G env dflt lim x = some n) (hd : dflt ≤ lim) (hG : GR G w (owned pl H)) (hE : RE w (owned pl H) pl (hlen H) env a) (c : BoundsCode) :
    n ≤ lim ∧ ((X = none ∧ n = dflt) ∨ ∃ Y k, X = some Y ∧ a.eval Y = .int k n ∧ (Instr.sliceBound (.int k n) lim c).run P w = .ok n w) := by
  unfold bound at h
  split at h
  · simp at h; subst h
    cases X <;> simp [optOk] at hx
    exact ⟨hd, .inl ⟨rfl, rfl⟩⟩
  · rename_i y
    cases X with
    | none => simp [optOk] at hx
    | some Y =>
      split at h
      · rename_i m hm
        split at h
        · rename_i hmm
          simp at h; subst h
          obtain ⟨k, hke⟩ := asI_some hm
          have hv := opd_ok (show opdOk y Y = true from hx) hG hE (by rw [hke]; rfl)
          rw [hke] at hv
          have he := hv.dd.int_eq
          have hmn : ((m.toNat : Nat) : Int) = m := by omega
          refine ⟨by omega, .inr ⟨Y, k, rfl, by rw [he, hmn], ?_⟩⟩
          rw [hmn]
          simp [Instr.sliceBound, asIntOf, hmm]
        · simp at h
      · simp at h

theorem run_bounds {len cap l h : Nat} {lo hi : Option AOpd} {Lo Hi : Option Operand} (hlo : optOk lo Lo = true) (hhi : optOk hi Hi = true) (hh : bound G env len len hi = some h) (hl : bound G env 0 h lo = some l) (hc : len ≤ cap) (isSlice : Bool) (hG : GR G w (owned pl H)) (hE : RE w (owned pl H) pl (hlen H) env a) :
    h ≤ len ∧ l ≤ h ∧ (Instr.sliceBounds isSlice len cap (Lo.map a.eval) (Hi.map a.eval) none).run P w = .ok (l, h, cap) w := by
  obtain ⟨h1, h2⟩ := run_bound (P := P) hhi hh (Nat.le_refl _) hG hE .sliceAlen
  obtain ⟨l1, l2⟩ := run_bound (P := P) hlo hl (Nat.zero_le _) hG hE .sliceB
  refine ⟨h1, l1, ?_⟩
  have hbnd : ∀ (k : IntKind) (n lim : Nat) (c : BoundsCode), n ≤ lim → (Instr.sliceBound (.int k n) lim c).run P w = .ok n w := fun k n lim c hn => by
    simp [Instr.sliceBound, asIntOf, hn]
  have hz : ∀ (k : IntKind) (lim : Nat) (c : BoundsCode), (Instr.sliceBound (.int k 0) lim c).run P w = .ok 0 w := fun k lim c => by
    simp [Instr.sliceBound, asIntOf]
  rcases h2 with ⟨rfl, rfl⟩ | ⟨Y, k, rfl, hY, _⟩
  · rcases l2 with ⟨rfl, rfl⟩ | ⟨Z, k2, rfl, hZ, _⟩
    · simp [Instr.sliceBounds]
    · simp [Instr.sliceBounds, hZ, hbnd k2 l h .sliceB l1]
  · have hb : (Instr.sliceBound (.int k h) cap (if isSlice = true then .sliceAcap else .sliceAlen)).run P w = .ok h w := hbnd _ _ _ _ (by omega)
    rcases l2 with ⟨rfl, rfl⟩ | ⟨Z, k2, rfl, hZ, _⟩
    · simp only [Instr.sliceBounds, Option.map_some, Option.map_none, hY, Sem.run_bind, Sem.run_pure, Result.andThen_ok, hb]
    · simp only [Instr.sliceBounds, Option.map_some, hY, hZ, Sem.run_bind, Sem.run_pure, Result.andThen_ok, hb]
      simp [hbnd k2 l h .sliceB l1]

theorem sim_sliceStr (hG : GR G w (owned pl H)) (hH : HR w pl Bd H) (hE : RE w (owned pl H) pl (hlen H) env a) {o : Oper} {t : TypeId} {X : Operand} {Lo Hi : Option Operand} (ho : o.op = .slice t X Lo Hi none) {x : AOpd} {lo hi : Option AOpd} (hx : opdOk x X = true) (hlo : optOk lo Lo = true) (hhi : optOk hi Hi = true)
    (hd : descIs P t isStr = true) {s : List UInt8} (hp : opd G env x = .d (.str s)) {h l : Nat} (hh : bound G env s.length s.length hi = some h) (hl : bound G env 0 h lo = some l) : OpSim P o a w pl Bd H (.d (.str ((s.take h).drop l))) H := by
  have hu := opd_ok hx hG hE (by rw [hp]; rfl)
  rw [hp] at hu
  obtain ⟨t', he, htl, hsz⟩ := hu.dd.str_eq
  obtain ⟨ds, hds, hkd⟩ := descIs_some hd
  cases ds <;> simp [isStr] at hkd
  rw [← hsz] at hh
  obtain ⟨h1, h2, h3⟩ := run_bounds (P := P) hlo hhi hh hl (Nat.le_refl _) false hG hE
  refine .pure hH (u := .string (t'.extract l h)) ?_ (.d _ _ (.str _ _ ?_))
  · simp [execOp, ho, Instr.sliceAt, run_underlying hds, he, Instr.slice, h3]
  · rw [ByteArray.toList_eq] at htl
    rw [← htl]
    simp [ByteArray.data_extract, Array.toList_extract]
    rw [List.drop_take]

theorem sim_sliceVals (hG : GR G w (owned pl H)) (hH : HR w pl Bd H) (hE : RE w (owned pl H) pl (hlen H) env a) {o : Oper} {t : TypeId} {X : Operand} {Lo Hi : Option Operand} (ho : o.op = .slice t X Lo Hi none) {x : AOpd} {lo hi : Option AOpd} (hx : opdOk x X = true) (hlo : optOk lo Lo = true) (hhi : optOk hi Hi = true)
    {e : Nat} (hd : elemIs P t e = true) {xs : List D} (hp : opd G env x = .d (.vals e xs)) {h l : Nat} (hh : bound G env xs.length xs.length hi = some h) (hl : bound G env 0 h lo = some l) : OpSim P o a w pl Bd H (.d (.vals e ((xs.take h).drop l))) H := by
  have hu := opd_ok hx hG hE (by rw [hp]; rfl)
  rw [hp] at hu
  unfold elemIs at hd
  split at hd
  · rename_i el hel
    have hds := sliceOf_some hel
    have hhl : h ≤ xs.length := (run_bound (P := P) hhi hh (Nat.le_refl _) hG hE .sliceAlen).1
    have hlh : l ≤ h := (run_bound (P := P) hlo hl (Nat.zero_le _) hG hE .sliceAlen).1
    obtain ⟨A, cap, hue, hcap, hrd⟩ := hu.dd.drop_take hhl hlh
    obtain ⟨h1, h2, h3⟩ := run_bounds (P := P) hlo hhi hh hl hcap true hG hE
    refine .pure hH (u := .slice (if cap = l then A else A.map (·.add (l * e))) (h - l) (cap - l)) ?_ (.d _ _ (hrd _ ?_))
    · simp [execOp, ho, Instr.sliceAt, run_underlying hds, hue, Instr.slice, h3, run_sizeOf hd]
    · split
      · rename_i hcl; exact .inl hcl.symm
      · exact .inr (.inl rfl)
  · simp at hd

theorem sim_sliceSlc (hG : GR G w (owned pl H)) (hH : HR w pl Bd H) (hE : RE w (owned pl H) pl (hlen H) env a) {o : Oper} {t : TypeId} {X : Operand} {Lo Hi : Option Operand} (ho : o.op = .slice t X Lo Hi none) {x : AOpd} {lo hi : Option AOpd} (hx : opdOk x X = true) (hlo : optOk lo Lo = true) (hhi : optOk hi Hi = true)
    {e : Nat} (hd : elemIs P t e = true) {r g i n : Nat} (hp : opd G env x = .slc r g i n) {xs : List V} (hrow : rowOf H r g = some (e, xs)) {h l : Nat} (hh : bound G env n n hi = some h) (hl : bound G env 0 h lo = some l) : OpSim P o a w pl Bd H (.slc r g (i + l) (h - l)) H := by
  have hu := opd_ok hx hG hE (by rw [hp]; rfl)
  rw [hp] at hu
  obtain ⟨b, c, arr, ty, fr, hpl, _⟩ := row_lies hH hrow
  unfold elemIs at hd
  split at hd
  · rename_i el hel
    have hds := sliceOf_some hel
    have hhl : h ≤ n := (run_bound (P := P) hhi hh (Nat.le_refl _) hG hE .sliceAlen).1
    have hlh : l ≤ h := (run_bound (P := P) hlo hl (Nat.zero_le _) hG hE .sliceAlen).1
    generalize hue : a.eval X = u at hu
    cases hu with
    | slc _ _ _ _ b' e' c' hlt hp' hk =>
      rw [hpl] at hp'
      simp only [Option.some.injEq, Prod.mk.injEq] at hp'
      obtain ⟨rfl, rfl, rfl⟩ := hp'
      obtain ⟨h1, h2, h3⟩ := run_bounds (P := P) hlo hhi hh hl (show n ≤ c - i by omega) true hG hE
      refine .pure hH (u := .slice (if c - i = l then some ⟨b, i * e, none⟩ else some ⟨b, i * e + l * e, none⟩) (h - l) (c - i - l)) ?_ ?_
      · simp [execOp, ho, Instr.sliceAt, run_underlying hds, hue, Instr.slice, h3, run_sizeOf hd, Addr.add_lit]
      · split
        · rename_i hcl
          have hz : h - l = 0 := by omega
          rw [hz]
          by_cases h0 : i + l = 0
          · obtain ⟨rfl, rfl⟩ : i = 0 ∧ l = 0 := by omega
            exact rv_slc hlt hpl (by omega) (by simp) (by omega)
          · exact .slc0 _ _ _ _ _ (by omega) hlt
        · exact rv_slc hlt hpl (by omega) (by rw [Nat.add_mul]) (by omega)
    | slc0 _ _ _ A cap hi' hlt =>
      obtain ⟨h1, h2, h3⟩ := run_bounds (P := P) hlo hhi hh hl (show 0 ≤ cap by omega) true hG hE
      refine .pure hH (u := .slice (if cap = l then A else A.map (·.add (l * e))) (h - l) (cap - l)) ?_ ?_
      · simp [execOp, ho, Instr.sliceAt, run_underlying hds, hue, Instr.slice, h3, run_sizeOf hd]
      · have hz : h - l = 0 := by omega
        rw [hz]
        exact .slc0 _ _ _ _ _ (by omega) hlt
  · simp at hd
end
end Go.Ev
/- Each operation of compact code does what the model's operation does: fields, elements' addresses, literals, structs, made slices. -/
namespace Go.Ev
open Go
set_option linter.unusedSimpArgs false
set_option linter.unusedVariables false

section
variable {P : Program} {cl : Callf} {G : Glob} {w : World} {pl : Pl} {Bd : Nat → Prop} {H : Hp} {env : Env} {a : Act}

theorem fieldsOf_some {t : Nat} {fs : Array Field} (h : fieldsOf P t = some fs) : P.underlying t = some (.struct fs) := by
  unfold fieldsOf at h
  split at h
  · rename_i fs' h'; simp at h; subst h; exact h'
  · simp at h

def faddrOk (P : Program) (s f off : Nat) : Bool := match fieldsOf P s with | some fs => (match fs[f]? with | some fd => Nat.beq fd.offset off && (match P.info? fd.type with | some i => Nat.ble 1 i.size | none => false) | none => false) | none => false

theorem run_fieldAt {s f off : Nat} (h : faddrOk P s f off = true) {b o : Nat} : (Instr.fieldAt s (.pointer (some ⟨b, o, none⟩)) f).run P w = .ok (.pointer (some ⟨b, o + off, none⟩)) w := by
  unfold faddrOk at h
  split at h
  · rename_i fs hfs
    split at h
    · rename_i fd hfd
      simp only [Bool.and_eq_true] at h
      obtain ⟨h1, h2⟩ := h
      have h1 := Nat.eq_of_beq_eq_true h1
      split at h2
      · rename_i i hi
        have h2 := Nat.le_of_ble_eq_true h2
        have hne : ¬ (i.size = 0) := by omega
        simp [Instr.fieldAt, run_underlying (fieldsOf_some hfs), hfd, Instr.sureAddr, fieldPlace, sizeOf, typeInfo, hi, hne, Addr.add_lit, h1]
      · simp at h2
    · simp at h
  · simp at h

theorem sim_faddr (hG : GR G w (owned pl H)) (hH : HR w pl Bd H) (hE : RE w (owned pl H) pl (hlen H) env a) {o : Oper} {s f : Nat} {X : Operand} (ho : o.op = .fieldAddr s X f) {x : AOpd} (hx : opdOk x X = true) {off : Nat} (hc : faddrOk P s f off = true)
    {r g i j : Nat} (hp : opd G env x = .ptr r g i j) : OpSim P o a w pl Bd H (.ptr r g i (j + off)) H := by
  have hu := opd_ok hx hG hE (by rw [hp]; rfl)
  rw [hp] at hu
  generalize hue : a.eval X = u at hu
  cases hu with
  | ptr _ _ _ _ b e c hlt hpl =>
    exact .pure hH (u := .pointer (some ⟨b, i * e + j + off, none⟩)) (by simp [execOp, ho, hue, run_fieldAt hc]) (rv_ptr hlt hpl (by omega))

theorem sim_faddrR (hG : GR G w (owned pl H)) (hH : HR w pl Bd H) (hE : RE w (owned pl H) pl (hlen H) env a) {o : Oper} {s f : Nat} {X : Operand} (ho : o.op = .fieldAddr s X f) {x : AOpd} (hx : opdOk x X = true) {off : Nat} (hc : faddrOk P s f off = true)
    {cs : List D} (hp : opd G env x = .d (.rptr cs)) : OpSim P o a w pl Bd H (.d (.rptr (cs.drop off))) H := by
  have hu := opd_ok hx hG hE (by rw [hp]; rfl)
  rw [hp] at hu
  have hu := hu.dd
  generalize hue : a.eval X = u at hu
  cases hu with
  | rptr _ b o2 F hO hb hcell h1 hr =>
    refine .pure hH (u := .pointer (some ⟨b, o2 + off, none⟩)) (by simp [execOp, ho, hue, run_fieldAt hc]) (.d _ _ (.rptr _ b (o2 + off) (fun j => F (off + j)) hO hb (fun j hj => ?_) (fun j hj => h1 _ (by simp at hj; omega)) (fun j hj => ?_)))
    · have := hcell (off + j) (by simp at hj; omega)
      rwa [← Nat.add_assoc] at this
    · have := hr (off + j) (by simp at hj; omega)
      simpa [List.getD_eq_getElem?_getD] using this

theorem run_part {t n off : Nat} {ag : Bool} (hag : aggIs P t ag = true) (hsz : szIs P t n = true) {cs : List V} {us : Array Value} {O : Own} {m : Nat} (hc : RCs w O pl m cs us) (hl : off + n ≤ cs.length) {v : V} (hv : mkVal ag ((cs.drop off).take n) = some v) :
    ∃ u, (part t us off).run P w = .ok u w ∧ RV w O pl m v u := by
  have hs := hc.size
  cases ag
  · have hv' : ∃ v', (cs.drop off).take n = [v'] ∧ v' = v := by
      match hcs : (cs.drop off).take n, hv with
      | [v'], hv => exact ⟨v', rfl, by simpa [mkVal] using hv⟩
      | [], hv => simp [mkVal] at hv
      | _ :: _ :: _, hv => simp [mkVal] at hv
    obtain ⟨v', hcs, rfl⟩ := hv'
    have hn1 : n = 1 := by have := congrArg List.length hcs; simp at this; omega
    subst hn1
    have h0 : off < us.size := by omega
    refine ⟨us[off], by simp [part, run_isAgg hag, h0], ?_⟩
    have := (hc.part hl).rel 0 (by simp; omega)
    rw [hcs] at this
    have h3 : (us.extract off (off + 1)).getD 0 undef = us[off] := by rw [getD_extract (by omega) (by omega)]; simp [h0]
    rw [h3] at this
    exact this
  · simp [mkVal] at hv
    subst hv
    refine ⟨.agg (us.extract off (off + n)), by simp [part, run_isAgg hag, run_sizeOf hsz], (hc.part hl).mkAgg⟩

theorem agg_of {O : Own} {m : Nat} {v : V} {u : Value} (h : RV w O pl m v u) (ha : v.isAgg = true) : ∃ us, u = .agg us ∧ RCs w O pl m v.cells us := by
  have hs : v.sto = true := by revert ha; cases v <;> simp [V.isAgg, V.sto]
  have hc := h.cells hs
  cases h with
  | d x u h =>
    cases x <;> first | (simp [V.isAgg] at ha; done) | skip
    cases h with
    | agg _ us => exact ⟨us, rfl, hc⟩
  | agg cs us => exact ⟨us, rfl, hc⟩
  | _ => simp [V.isAgg] at ha

theorem sim_field (hG : GR G w (owned pl H)) (hH : HR w pl Bd H) (hE : RE w (owned pl H) pl (hlen H) env a) {o : Oper} {t f : Nat} {X : Operand} (ho : o.op = .field t X f) {x : AOpd} (hx : opdOk x X = true) {ag : Bool} {off n : Nat}
    (hc : (match fieldsOf P t with | some fs => (match fs[f]? with | some fd => Nat.beq fd.offset off && szIs P fd.type n && aggIs P fd.type ag | none => false) | none => false) = true)
    (hl : off + n ≤ (opd G env x).cells.length) (ha : (opd G env x).isAgg = true) {v : V} (hv : mkVal ag (((opd G env x).cells.drop off).take n) = some v) : OpSim P o a w pl Bd H v H := by
  have hu := opd_ok hx hG hE (by revert ha; cases opd G env x <;> simp [V.isAgg, V.ok])
  obtain ⟨us, hue, hcs⟩ := agg_of hu ha
  split at hc
  · rename_i fs hfs
    split at hc
    · rename_i fd hfd
      simp only [Bool.and_eq_true] at hc
      obtain ⟨⟨h1, h2⟩, h3⟩ := hc
      have h1 := Nat.eq_of_beq_eq_true h1
      obtain ⟨u, hrun, hrv⟩ := run_part (P := P) h3 h2 hcs hl hv
      exact .pure hH (u := u) (by simp [execOp, ho, Instr.field, run_underlying (fieldsOf_some hfs), hfd, hue, asAgg, h1, hrun]) hrv
    · simp at hc
  · simp at hc

theorem run_indexAt {t e : Nat} (hd : elemIs P t e = true) {b off len cap : Nat} {k : IntKind} {i : Int} (h0 : 0 ≤ i) (h1 : i < (len : Int)) :
    (Instr.indexAt t (.slice (some ⟨b, off, none⟩) len cap) (.int k i)).run P w = .ok (.pointer (some ⟨b, off + i.toNat * e, none⟩)) w := by
  unfold elemIs at hd
  split at hd
  · rename_i el hel
    have hds := sliceOf_some hel
    simp [Instr.indexAt, asIntOf, run_underlying hds, h0, h1, run_sizeOf hd, Addr.add_lit]
  · simp at hd

theorem sim_iaddrD (hG : GR G w (owned pl H)) (hH : HR w pl Bd H) (hE : RE w (owned pl H) pl (hlen H) env a) {o : Oper} {t : Nat} {X I : Operand} (ho : o.op = .indexAddr t X I) {x i : AOpd} (hx : opdOk x X = true) (hi : opdOk i I = true) {e : Nat} (hd : elemIs P t e = true)
    {k : Int} (hk : asI (opd G env i) = some k) {xs : List D} (hp : opd G env x = .d (.vals e xs)) (h0 : 0 ≤ k) (h1 : k < (xs.length : Int)) : OpSim P o a w pl Bd H (.d (.rptr (xs.getD k.toNat .nilp).cells)) H := by
  obtain ⟨kk, hke⟩ := asI_some hk
  have hu := opd_ok hx hG hE (by rw [hp]; rfl)
  have hv := opd_ok hi hG hE (by rw [hke]; rfl)
  rw [hp] at hu
  rw [hke] at hv
  have hie := hv.dd.int_eq
  have hu := hu.dd
  generalize hue : a.eval X = u at hu
  cases hu with
  | vals0 => simp at h1; omega
  | vals _ _ b off cap F hcap hO hb he hc h1c hr =>
    have hkl : k.toNat < xs.length := by omega
    have hlen := he k.toNat hkl
    refine .pure hH (u := .pointer (some ⟨b, off + k.toNat * e, none⟩)) (by simp [execOp, ho, hue, hie, run_indexAt hd h0 h1]) (.d _ _ (.rptr _ b _ (fun j => F k.toNat j) hO hb (fun j hj => ?_) (fun j hj => ?_) (fun j hj => ?_)))
    · exact hc _ _ hkl (by omega)
    · exact h1c _ _ hkl (by omega)
    · exact hr _ _ hkl (by omega)

theorem sim_iaddrS (hG : GR G w (owned pl H)) (hH : HR w pl Bd H) (hE : RE w (owned pl H) pl (hlen H) env a) {o : Oper} {t : Nat} {X I : Operand} (ho : o.op = .indexAddr t X I) {x i : AOpd} (hx : opdOk x X = true) (hi : opdOk i I = true) {e : Nat} (hd : elemIs P t e = true)
    {k : Int} (hk : asI (opd G env i) = some k) {r g j n : Nat} (hp : opd G env x = .slc r g j n) (h0 : 0 ≤ k) (h1 : k < (n : Int)) {xs : List V} (hrow : rowOf H r g = some (e, xs)) : OpSim P o a w pl Bd H (.ptr r g (j + k.toNat) 0) H := by
  obtain ⟨kk, hke⟩ := asI_some hk
  have hu := opd_ok hx hG hE (by rw [hp]; rfl)
  have hv := opd_ok hi hG hE (by rw [hke]; rfl)
  rw [hp] at hu
  rw [hke] at hv
  have hie := hv.dd.int_eq
  obtain ⟨b, c, arr, ty, fr, hpl, _⟩ := row_lies hH hrow
  generalize hue : a.eval X = u at hu
  cases hu with
  | slc _ _ _ _ b' e' c' hlt hp' hkc =>
    rw [hpl] at hp'
    simp only [Option.some.injEq, Prod.mk.injEq] at hp'
    obtain ⟨rfl, rfl, rfl⟩ := hp'
    exact .pure hH (u := .pointer (some ⟨b, j * e + k.toNat * e, none⟩)) (by simp [execOp, ho, hue, hie, run_indexAt hd h0 h1]) (rv_ptr hlt hpl (by rw [Nat.add_mul]; omega))
  | slc0 => omega

/-! ### Structs that are built -/
theorem setFold (vs : List Value) : ∀ (cs : Array Value) (off k0 : Nat), off + k0 + vs.length ≤ cs.size →
    ((vs.zipIdx k0).foldl (fun (cs : Array Value) (p : Value × Nat) => cs.setIfInBounds (off + p.2) p.1) cs).size = cs.size ∧
    ∀ k, ((vs.zipIdx k0).foldl (fun (cs : Array Value) (p : Value × Nat) => cs.setIfInBounds (off + p.2) p.1) cs).getD k undef = if off + k0 ≤ k ∧ k < off + k0 + vs.length then vs.getD (k - (off + k0)) undef else cs.getD k undef := by
  induction vs with
  | nil => intro cs off k0 _; exact ⟨rfl, fun k => by rw [if_neg (by simp)]; rfl⟩
  | cons v vs ih =>
    intro cs off k0 hl
    simp only [List.length_cons] at hl
    simp only [List.zipIdx_cons, List.foldl_cons]
    obtain ⟨h1, h2⟩ := ih (cs.setIfInBounds (off + k0) v) off (k0 + 1) (by simp; omega)
    refine ⟨by simpa using h1, fun k => ?_⟩
    rw [h2 k]
    simp only [List.length_cons]
    by_cases hk : off + (k0 + 1) ≤ k ∧ k < off + (k0 + 1) + vs.length
    · rw [if_pos hk, if_pos (by omega)]
      obtain ⟨m, rfl⟩ : ∃ m, k = off + k0 + 1 + m := ⟨k - (off + k0 + 1), by omega⟩
      rw [show off + k0 + 1 + m - (off + (k0 + 1)) = m by omega, show off + k0 + 1 + m - (off + k0) = m + 1 by omega]
      rfl
    · rw [if_neg hk]
      by_cases h0 : k = off + k0
      · subst h0
        rw [if_pos (by omega)]
        simp [show off + k0 < cs.size by omega]
      · rw [if_neg (by omega)]
        simp only [Array.getD_eq_getD_getElem?]
        rw [Array.getElem?_setIfInBounds_ne (Ne.symm h0)]

theorem fold_eq (vs : Array Value) (cs : Array Value) (off : Nat) : vs.zipIdx.foldl (fun cs (c, j) => cs.setIfInBounds (off + j) c) cs = (vs.toList.zipIdx 0).foldl (fun (cs : Array Value) (p : Value × Nat) => cs.setIfInBounds (off + p.2) p.1) cs := by
  rw [← Array.foldl_toList, Array.toList_zipIdx]

theorem RCs.setAt {O : Own} {m : Nat} {cs vs : List V} {us uv : Array Value} (hc : RCs w O pl m cs us) (hv : RCs w O pl m vs uv) {off : Nat} (hl : off + vs.length ≤ cs.length) :
    RCs w O pl m (setAt cs off vs) (uv.zipIdx.foldl (fun cs (c, j) => cs.setIfInBounds (off + j) c) us) := by
  have h1 := hc.size
  have h2 := hv.size
  rw [fold_eq]
  obtain ⟨h3, h4⟩ := setFold uv.toList us off 0 (by simp; omega)
  have hsp := getD_splice cs vs off
  refine ⟨by rw [h3, Ev.setAt]; simp; omega, fun i hi => ?_, fun i hi => ?_⟩ <;> rw [h4 i] <;> simp only [Nat.add_zero, Array.length_toList, h2] <;>
    have hi' : i < cs.length := by (simp [Ev.setAt] at hi; omega)
  · rw [Ev.setAt, hsp i hl]
    split
    · rename_i hk
      have := hv.rel (i - off) (by omega)
      simpa [List.getD_eq_getElem?_getD, Array.getD_eq_getD_getElem?] using this
    · exact hc.rel i hi'
  · split
    · rename_i hk
      have := hv.one (i - off) (by omega)
      simpa [List.getD_eq_getElem?_getD, Array.getD_eq_getD_getElem?] using this
    · exact hc.one i hi'

theorem fills_ok {O : Own} {m : Nat} (hG : GR G w O) (hE : RE w O pl m env a) (hO : O = owned pl H) {fs : Array Field} {sz : Nat → Nat} : ∀ (qs : List (Nat × Nat × AOpd)) (ps : List (Nat × Operand)) (cs : List V) (us : Array Value) (cs' : List V),
    partsOk P fs qs ps = true → fills G env cs qs = some cs' → RCs w O pl m cs us → (∀ (i : Nat) f, fs[i]? = some f → szIs P f.type (sz i) = true) →
    ∃ us', Instr.fill (fun i => (fs[i]?).map fun f => (f.offset, sz i)) us (ps.map fun (i, x) => (i, a.eval x)) = some us' ∧ RCs w O pl m cs' us'
  | [], [], cs, us, cs', _, hf, hc, _ => by simp [fills] at hf; subst hf; exact ⟨us, rfl, hc⟩
  | [], _ :: _, _, _, _, hp, _, _, _ => by simp [partsOk] at hp
  | _ :: _, [], _, _, _, hp, _, _, _ => by simp [partsOk] at hp
  | (off, n, x) :: qs, (i, y) :: ps, cs, us, cs', hp, hf, hc, hs => by
    simp only [partsOk, Bool.and_eq_true] at hp
    obtain ⟨⟨h1, h2⟩, h3⟩ := hp
    split at h1
    · rename_i f hfi
      simp only [Bool.and_eq_true] at h1
      obtain ⟨e1, e2⟩ := h1
      have e1 := Nat.eq_of_beq_eq_true e1
      have hsi := hs i f hfi
      obtain ⟨i1, hi1, hi2⟩ := szIs_some hsi
      obtain ⟨i3, hi3, hi4⟩ := szIs_some e2
      rw [hi1] at hi3
      simp only [Option.some.injEq] at hi3
      subst hi3
      simp only [fills] at hf
      split at hf
      · rename_i hcond
        obtain ⟨k1, k2, k3⟩ := hcond
        have hv := (opd_ok h2 hG hE (sto_ok k1)).cells k1
        obtain ⟨us', hr1, hr2⟩ := fills_ok hG hE hO qs ps (setAt cs off (opd G env x).cells) _ cs' h3 hf (hc.setAt hv (by omega)) hs
        refine ⟨us', ?_, hr2⟩
        have hvs := hv.size
        have hcs := hc.size
        have hcond2 : ¬ (((a.eval y).cells.size ≠ sz i || off + (a.eval y).cells.size > us.size) = true) := by simp; omega
        simp only [List.map_cons, Instr.fill, hfi, Option.map_some, e1]
        rw [if_neg (by simpa using hcond2)]
        exact hr1
      · simp at hf
    · simp at h1

theorem sim_build (hG : GR G w (owned pl H)) (hH : HR w pl Bd H) (hE : RE w (owned pl H) pl (hlen H) env a) {o : Oper} {t : Nat} {ps : Array (Nat × Operand)} (ho : o.op = .build t ps) {z : List V} {qs : List (Nat × Nat × AOpd)}
    (hc : (match fieldsOf P t with | some fs => partsOk P fs qs ps.toList && fs.all (fun f => (P.info? f.type).isSome) | none => false) = true) (hz : zeroIs P t (.agg z) = true) {cs : List V} (hf : fills G env z qs = some cs) : OpSim P o a w pl Bd H (mkAgg cs) H := by
  split at hc
  · rename_i fs hfs
    simp only [Bool.and_eq_true] at hc
    obtain ⟨hp, hall⟩ := hc
    obtain ⟨iz, u, hi, hu, hcst, _⟩ := zeroIs_some hz
    have hzr := vcstOk_ok (w := w) (O := owned pl H) (pl := pl) (n := hlen H) hcst
    obtain ⟨us, rfl, hzc⟩ := agg_of hzr rfl
    have hall' : ∀ f ∈ fs, (P.info? f.type).isSome = true := Array.all_eq_true_iff_forall_mem.1 hall
    let sz : Nat → Nat := fun i => ((fs[i]?).bind fun f => (P.info? f.type).map (·.size)).getD 0
    have hsz : ∀ (i : Nat) f, fs[i]? = some f → szIs P f.type (sz i) = true := by
      intro i f hfi
      obtain ⟨inf, hinf⟩ := Option.isSome_iff_exists.1 (hall' f (Array.mem_of_getElem? hfi))
      simp [szIs, hinf, sz, hfi]
    obtain ⟨us', hr1, hr2⟩ := fills_ok hG hE rfl qs ps.toList z us cs hp hf hzc hsz
    let sz' : Field → Nat := fun f => ((P.info? f.type).map (·.size)).getD 0
    have hm : (fs.mapM fun f => do pure (f.offset, ← sizeOf f.type) : Sem (Array (Nat × Nat))).run P w = .ok (fs.map fun f => (f.offset, sz' f)) w := by
      rw [Array.mapM_eq_mapM_toList]
      have hl : ∀ (l : List Field), (∀ f ∈ l, (P.info? f.type).isSome = true) → (l.mapM fun f => do pure (f.offset, ← sizeOf f.type) : Sem (List (Nat × Nat))).run P w = .ok (l.map fun f => (f.offset, sz' f)) w := by
        intro l
        induction l with
        | nil => intro _; rfl
        | cons f l ih =>
          intro h
          obtain ⟨inf, hinf⟩ := Option.isSome_iff_exists.1 (h f (by simp))
          have := ih (fun g hg => h g (by simp [hg]))
          simp only [List.mapM_cons, Sem.run_bind, sizeOf, typeInfo, run_program, hinf, Result.andThen_ok, Sem.run_pure] at this ⊢
          rw [this]
          simp [sz', hinf]
      have := hl fs.toList (fun f hf => hall' f (by simpa using hf))
      have h5 : (fs.toList.map fun f => (f.offset, sz' f)).toArray = fs.map fun f => (f.offset, sz' f) := by apply Array.ext'; simp
      rw [← h5, Sem.run_map, this, Result.andThen_ok]
    have hplace : (fun i => (fs.map fun f => (f.offset, sz' f))[i]?) = fun i => (fs[i]?).map fun f => (f.offset, sz i) := by
      funext i
      rw [Array.getElem?_map]
      cases hfi : fs[i]? with
      | none => rfl
      | some f => simp [sz, sz', hfi]
    have hruns : (Instr.build t (ps.map fun (i, x) => (i, a.eval x))).run P w = .ok (.agg us') w := by
      have hcells : (Value.agg us).cells = us := rfl
      simp only [Instr.build, Sem.run_bind, zeroValue, typeInfo, run_program, hi, Result.andThen_ok, Sem.run_pure, hu, run_underlying (fieldsOf_some hfs), hm, hcells]
      have h4 : (ps.map fun (i, x) => (i, a.eval x)).toList = ps.toList.map fun (i, x) => (i, a.eval x) := by simp
      rw [h4, hplace, hr1]
      rfl
    exact .pure hH (u := .agg us') (by simp only [execOp, ho]; rw [Sem.run_bind, hruns]; rfl) hr2.mkAgg
  · simp at hc
end
end Go.Ev
/- Each operation of compact code does what the model's operation does: slices' elements, literals, bytes and strings, made slices. -/
namespace Go.Ev
open Go
set_option linter.unusedSimpArgs false
set_option linter.unusedVariables false

structure Lies (w : World) (O : Own) (pl : Pl) (n e : Nat) (ys : List V) (A : Option Addr) (news : List Value) : Prop where
  len : news.length = ys.length * e
  cell : ys.length = 0 ∨ ∃ b off, A = some ⟨b, off, none⟩ ∧ ∀ j u, news[j]? = some u → w.cell? ⟨b, off + j, none⟩ = some u
  el : ∀ i, i < ys.length → (ys.getD i .any).cells.length = e
  rel : ∀ i j, i < ys.length → j < e → RV w O pl n ((ys.getD i .any).cells.getD j .any) (news.getD (i * e + j) undef)
  one : ∀ i j, i < ys.length → j < e → (news.getD (i * e + j) undef).oneCell' = true

theorem div_mul_add {i j e : Nat} (hj : j < e) : (i * e + j) / e = i ∧ (i * e + j) % e = j := by
  have he : 0 < e := by omega
  rw [Nat.mul_comm]
  constructor
  · rw [Nat.mul_add_div he, Nat.div_eq_of_lt hj, Nat.add_zero]
  · rw [Nat.mul_add_mod, Nat.mod_eq_of_lt hj]

theorem div_lt_of {k n e : Nat} (h : k < n * e) : k / e < n ∧ k % e < e ∧ k / e * e + k % e = k := by
  have he : 0 < e := by
    rcases Nat.eq_zero_or_pos e with h0 | h0
    · subst h0; simp at h
    · exact h0
  refine ⟨(Nat.div_lt_iff_lt_mul he).2 h, Nat.mod_lt _ he, ?_⟩
  rw [Nat.mul_comm]; exact Nat.div_add_mod k e

section
variable {P : Program} {cl : Callf} {G : Glob} {w : World} {pl : Pl} {Bd : Nat → Prop} {H : Hp} {env : Env} {a : Act}

theorem getD_map_d (ds : List D) (i : Nat) (hi : i < ds.length) : (ds.map V.d).getD i .any = .d (ds.getD i .nilp) := by
  simp [List.getD_eq_getElem?_getD, hi]

theorem cells_d (x : D) : (V.d x).cells = x.cells.map .d := by
  cases x <;> rfl

theorem src_lies (hH : HR w pl Bd H) {v : V} {e : Nat} {ys : List V} {dat : Bool} (h : src H v = some (e, ys, dat)) {u : Value} (hu : RV w (owned pl H) pl (hlen H) v u) :
    ∃ A cap news, u = .slice A ys.length cap ∧ ys.length ≤ cap ∧ Lies w (owned pl H) pl (hlen H) e ys A news ∧ (dat = true → ∃ ds : List D, ys = ds.map .d) := by
  unfold src at h
  split at h
  · rename_i e' xs
    simp only [Option.some.injEq, Prod.mk.injEq] at h
    obtain ⟨rfl, rfl, rfl⟩ := h
    have hu := hu.dd
    cases hu with
    | vals0 _ A cap => exact ⟨A, cap, [], by simp, by simp, ⟨by simp, .inl (by simp), fun i hi => by simp at hi, fun i j hi => by simp at hi, fun i j hi => by simp at hi⟩, fun _ => ⟨[], rfl⟩⟩
    | vals _ _ b off cap F hcap hO hb he hc h1 hr =>
      have hl : (xs.map V.d).length = xs.length := by simp
      refine ⟨_, cap, (List.range (xs.length * e')).map fun k => F (k / e') (k % e'), by rw [hl], by rw [hl]; exact hcap, ⟨by simp, .inr ⟨b, off, rfl, fun j u hj => ?_⟩, fun i hi => ?_, fun i j hi hj => ?_, fun i j hi hj => ?_⟩, fun _ => ⟨xs, rfl⟩⟩
      · have hjl : j < xs.length * e' := by
          have := (List.getElem?_eq_some_iff.1 hj).1
          simpa using this
        obtain ⟨d1, d2, d3⟩ := div_lt_of hjl
        simp [List.getElem?_map, List.getElem?_range hjl] at hj
        subst hj
        have := hc (j / e') (j % e') d1 d2
        rwa [Nat.add_assoc, d3] at this
      · rw [hl] at hi
        rw [getD_map_d xs i hi, cells_d]
        simpa using he i hi
      · rw [hl] at hi
        have hk := mul_add_lt hi hj
        have hcl := he i hi
        rw [getD_map_d xs i hi, cells_d, getD_map_d _ j (by omega)]
        have h3 : ((List.range (xs.length * e')).map fun k => F (k / e') (k % e')).getD (i * e' + j) undef = F i j := by
          simp [List.getD_eq_getElem?_getD, List.getElem?_range hk, (div_mul_add hj).1, (div_mul_add hj).2]
        rw [h3]
        exact .d _ _ (hr i j hi hj)
      · rw [hl] at hi
        have hk := mul_add_lt hi hj
        have h3 : ((List.range (xs.length * e')).map fun k => F (k / e') (k % e')).getD (i * e' + j) undef = F i j := by
          simp [List.getD_eq_getElem?_getD, List.getElem?_range hk, (div_mul_add hj).1, (div_mul_add hj).2]
        rw [h3]
        exact h1 i j hi hj
  · simp only [Option.some.injEq, Prod.mk.injEq] at h
    obtain ⟨rfl, rfl, rfl⟩ := h
    cases hu with
    | nils _ A => exact ⟨A, 0, [], by simp, by simp, ⟨by simp, .inl (by simp), fun i hi => by simp at hi, fun i j hi => by simp at hi, fun i j hi => by simp at hi⟩, fun _ => ⟨[], rfl⟩⟩
  · rename_i r g i n
    split at h
    · rename_i e' xs hrow
      split at h
      · rename_i hle
        simp only [Option.some.injEq, Prod.mk.injEq] at h
        obtain ⟨rfl, rfl, rfl⟩ := h
        obtain ⟨b, c, arr, ty, fr, hpl, hh, hsa, hf, hxc, he, hr, h1, hbd⟩ := row_lies hH hrow
        have hl : ((xs.drop i).take n).length = n := by simp; omega
        have hgd : ∀ k, k < n → ((xs.drop i).take n).getD k .any = xs.getD (i + k) .any := fun k hk => getD_drop_take xs .any i n k hk
        cases hu with
        | slc _ _ _ _ b' e2 c' hlt hp' hk =>
          rw [hpl] at hp'
          simp only [Option.some.injEq, Prod.mk.injEq] at hp'
          obtain ⟨rfl, rfl, rfl⟩ := hp'
          have h3 : ∀ k j, k < n → j < e' → ((List.range (n * e')).map fun m => arr.getD (i * e' + m) undef).getD (k * e' + j) undef = arr.getD ((i + k) * e' + j) undef := by
            intro k j hk hj
            have := mul_add_lt hk hj
            simp [List.getD_eq_getElem?_getD, List.getElem?_range this, Nat.add_mul, Nat.add_assoc]
          refine ⟨_, c - i, (List.range (n * e')).map fun m => arr.getD (i * e' + m) undef, by rw [hl], by rw [hl]; omega, ⟨by rw [hl]; simp, .inr ⟨b, i * e', rfl, fun j u hj => ?_⟩, fun k hk => ?_, fun k j hk hj => ?_, fun k j hk hj => ?_⟩, fun hd => by simp at hd⟩
          · have hjl : j < n * e' := by
              have := (List.getElem?_eq_some_iff.1 hj).1
              simpa using this
            simp [List.getElem?_map, List.getElem?_range hjl] at hj
            subst hj
            obtain ⟨d1, d2, d3⟩ := div_lt_of hjl
            have := mul_add_lt (i := i + j / e') (j := j % e') (e := e') (c := c) (by omega) d2
            rw [Nat.add_mul, Nat.add_assoc, d3] at this
            rw [cell_of_block hh (by omega)]
            simp [Array.getD_eq_getD_getElem?]
          · rw [hl] at hk; rw [hgd k hk]; exact he _ (by omega)
          · rw [hl] at hk; rw [hgd k hk, h3 k j hk hj]; exact hr _ _ (by omega) hj
          · rw [hl] at hk; rw [h3 k j hk hj]; exact h1 _ _ (by omega) hj
        | slc0 _ _ _ A cap hi' hlt =>
          exact ⟨A, cap, [], by rw [hl], by rw [hl]; omega, ⟨by simp, .inl hl, fun k hk => by simp at hk, fun k j hk => by simp at hk, fun k j hk => by simp at hk⟩, fun hd => by simp at hd⟩
      · simp at h
    · simp at h
  · simp at h

/-! ### Bytes into a string, a string into bytes -/
theorem sim_cvStr (hG : GR G w (owned pl H)) (hH : HR w pl Bd H) (hE : RE w (owned pl H) pl (hlen H) env a) {o : Oper} {srcT dst : TypeId} {X : Operand} (ho : o.op = .convert srcT dst X) {x : AOpd} (hx : opdOk x X = true) (hk : (opd G env x).ok = true)
    (hd : descIs P dst isStr = true) (hs : (match sliceOf P srcT with | some e => descIs P e isU8 | none => false) = true) {vs : List V} {dat : Bool} (hsrc : src H (opd G env x) = some (1, vs, dat)) {s : List UInt8} (hst : strOf vs = some s) : OpSim P o a w pl Bd H (.d (.str s)) H := by
  have hu := opd_ok hx hG hE hk
  obtain ⟨A, cap, news, hue, hcap, hl, _⟩ := src_lies hH hsrc hu
  obtain ⟨ns, hvs, hss⟩ := strOf_nums hst
  split at hs
  · rename_i el hel
    have hds := sliceOf_some hel
    obtain ⟨de, hde, hke⟩ := descIs_some hs
    obtain ⟨dd, hdd, hkd⟩ := descIs_some hd
    have hde' : P.underlying el = some (.int .u8) := by
      cases de <;> simp [isU8] at hke
      rename_i k
      cases k <;> simp at hke
      exact hde
    have hdd' : P.underlying dst = some .string := by cases dd <;> simp [isStr] at hkd; exact hdd
    rcases hl.cell with h0 | ⟨b, off, hA, hc⟩
    · have hns : ns = [] := by rw [hvs] at h0; simpa using h0
      subst hns
      have hs0 : s = [] := by rw [hss]; rfl
      subst hs0
      rw [h0] at hue
      have hrun : (convert srcT dst (.slice A 0 cap)).run P w = .ok (.string ByteArray.empty) w := by
        cases A with
        | none => exact run_convert_bytes_nil w srcT el hds hde' 0 cap dst hdd'
        | some ad =>
          rw [run_convert_bytes_string w srcT dst el _ 0 cap hds hde' hdd']
          simp [Conv.bytesToString, loadCells, loadCellsFrom]
      exact .pure hH (u := .string ByteArray.empty) (by simp only [execOp, ho, hue]; rw [Sem.run_bind, hrun]; rfl) (.d _ _ (.str _ _ rfl))
    · subst hA
      have hlen : ns.length = vs.length := by rw [hvs]; simp
      have hrun := run_convert_bytes_arg (P := P) w srcT el hds hde' b off vs.length cap ns hlen (fun i hi => by
        have hr := hl.rel i 0 hi (by omega)
        have hlc : i < news.length := by rw [hl.len]; omega
        have hci := hc i _ (List.getElem?_eq_getElem hlc)
        have hin : i < ns.length := by omega
        have hvi : (vs.getD i .any).cells.getD 0 .any = .d (.int .u8 (ns.getD i 0)) := by
          rw [hvs]
          simp [List.getD_eq_getElem?_getD, hin, V.cells]
        rw [hvi, Nat.mul_one, Nat.add_zero] at hr
        have hni : news.getD i undef = news[i] := by simp [List.getD_eq_getElem?_getD, hlc]
        rw [hni] at hr
        rw [hci, hr.dd.int_eq]) dst hdd'
      refine .pure hH (u := .string (strOfNums ns)) (by simp only [execOp, ho, hue]; rw [Sem.run_bind, hrun]; rfl) (.d _ _ (.str _ _ ?_))
      rw [hss]; rfl
  · simp at hs

theorem fin_free (hH : HR w pl Bd H) {w' : World} {ob : Go.Obj} (hw : w'.heap = w.heap.push ob) (hs : Same w w') {v : V} {u : Value} (hv : Ext w (owned pl H) w' (owned pl H) → RV w' (owned pl H) pl (hlen H) v u) : Fin w pl Bd H v H u w' pl := by
  have hget' : ∀ b, b < w.heap.size → w'.heap[b]? = w.heap[b]? := fun b hb => by rw [hw, Array.getElem?_push_lt hb, Array.getElem?_eq_getElem hb]
  have E : Ext w (owned pl H) w' (owned pl H) := ⟨hs.os, hs.tape, hs.output, by rw [hw]; simp, fun b hb hO => ⟨hget' b hb, hO⟩⟩
  have hor : ∀ r o m, hget H r = some o → OR w (owned pl H) pl m r o → OR w' (owned pl H) pl m r o := by
    intro r o m ho h
    cases h with
    | dead => exact .dead
    | row g e xs b c arr ty fr hp hh hs hf hx he hr h1 hg =>
      exact .row g e xs b c arr ty fr hp ((hget' b (Array.getElem?_eq_some_iff.1 hh).1).trans hh) hs hf hx he (fun i j hi hj => (hr i j hi hj).mono E (PlExt.refl _ _) (Nat.le_refl _)) h1 hg
    | map ks vs b e c es clock hp hh hk hv hrk hrv =>
      exact .map ks vs b e c es clock hp ((hget' b (Array.getElem?_eq_some_iff.1 hh).1).trans hh) hk hv (fun i hi => (hrk i hi).mono E (PlExt.refl _ _) (Nat.le_refl _)) (fun i hi => (hrv i hi).mono E (PlExt.refl _ _) (Nat.le_refl _))
  exact ⟨⟨fun r o ho => hor r o _ ho (hH.obj r o ho), hH.inj, fun m hm r o hlt ho => hor r o m ho (hH.bd m hm r o hlt ho), hH.le⟩, hv E, E, PlExt.refl _ _, Nat.le_refl _⟩

theorem not_owned_new (hH : HR w pl Bd H) : ¬ owned pl H w.heap.size := fun h => by have := hH.owned_lt h; omega
end
end Go.Ev
/- Each operation of compact code does what the model's operation does: slice literals, made slices, the least and the greatest, append. -/
namespace Go.Ev
open Go
set_option linter.unusedSimpArgs false
set_option linter.unusedVariables false

section
variable {P : Program} {cl : Callf} {G : Glob} {w : World} {pl : Pl} {Bd : Nat → Prop} {H : Hp} {env : Env} {a : Act}

def LitV (w : World) (O : Own) (pl : Pl) (m : Nat) (a : Act) : Nat → List V → List (Nat × Operand) → Prop
  | _, [], [] => True
  | k, v :: vs, (i, y) :: ps => i = k ∧ RV w O pl m v (a.eval y) ∧ LitV w O pl m a (k + 1) vs ps
  | _, _, _ => False
theorem litV_of {O : Own} {m : Nat} (hG : GR G w O) (hE : RE w O pl m env a) : ∀ (qs : List AOpd) (ps : List (Nat × Operand)) (k : Nat), litOk k qs ps = true → (∀ x ∈ qs, (opd G env x).sto = true) → LitV w O pl m a k (qs.map (opd G env)) ps
  | [], [], _, _, _ => trivial
  | [], _ :: _, _, h, _ => by simp [litOk] at h
  | _ :: _, [], _, h, _ => by simp [litOk] at h
  | x :: qs, (i, y) :: ps, k, h, hx => by
    simp only [litOk, Bool.and_eq_true] at h
    obtain ⟨⟨h1, h2⟩, h3⟩ := h
    exact ⟨Nat.eq_of_beq_eq_true h1, opd_ok h2 hG hE (sto_ok (hx x (by simp))), litV_of hG hE qs ps (k + 1) h3 fun y hy => hx y (by simp [hy])⟩
theorem fillLit {O : Own} {m e : Nat} : ∀ (qs : List V) (ps : List (Nat × Operand)) (k : Nat) (us : Array Value), LitV w O pl m a k qs ps →
    (∀ x ∈ qs, x.sto = true ∧ x.cells.length = e) → (k + qs.length) * e ≤ us.size →
    ∃ us', Instr.fill (fun i => some (i * e, e)) us (ps.map fun (i, x) => (i, a.eval x)) = some us' ∧ us'.size = us.size ∧
      (∀ i j, i < qs.length → j < e → RV w O pl m ((qs.getD i .any).cells.getD j .any) (us'.getD ((k + i) * e + j) undef) ∧ (us'.getD ((k + i) * e + j) undef).oneCell' = true) ∧
      (∀ n, n < k * e → us'.getD n undef = us.getD n undef)
  | [], [], k, us, _, _, _ => ⟨us, rfl, rfl, fun i j hi => by simp at hi, fun _ _ => rfl⟩
  | [], _ :: _, _, _, h, _, _ => h.elim
  | _ :: _, [], _, _, h, _, _ => h.elim
  | x :: qs, (i, y) :: ps, k, us, h, hx, hl => by
    obtain ⟨h1, h2, h3⟩ := h
    subst h1
    obtain ⟨hs, hc⟩ := hx x (by simp)
    have hv := h2.cells hs
    have hvs := hv.size
    simp only [List.length_cons] at hl
    have hfit : i * e + e ≤ us.size := by
      have : (i + 1) * e ≤ (i + (qs.length + 1)) * e := Nat.mul_le_mul_right _ (by omega)
      rw [Nat.add_mul, Nat.one_mul] at this
      omega
    have hspec := setFold (a.eval y).cells.toList us (i * e) 0 (by simp; omega)
    rw [← fold_eq] at hspec
    obtain ⟨f1, f2⟩ := hspec
    obtain ⟨us', g1, g2, g3, g4⟩ := fillLit qs ps (i + 1) ((a.eval y).cells.zipIdx.foldl (fun cs (c, j) => cs.setIfInBounds (i * e + j) c) us) h3 (fun x hx' => hx x (by simp [hx'])) (by rw [f1]; rw [show i + 1 + qs.length = i + (qs.length + 1) by omega]; exact hl)
    have hcond : ¬ (((a.eval y).cells.size ≠ e || i * e + (a.eval y).cells.size > us.size) = true) := by simp; omega
    refine ⟨us', ?_, by rw [g2, f1], fun i' j hi hj => ?_, fun n hn => ?_⟩
    · simp only [List.map_cons, Instr.fill]
      rw [if_neg (by simpa using hcond)]
      exact g1
    · cases i' with
      | zero =>
        have hlt : i * e + j < (i + 1) * e := by rw [Nat.add_mul]; omega
        rw [Nat.add_zero, g4 _ hlt, f2, if_pos (by simp; omega)]
        have := hv.rel j (by omega)
        have h1 := hv.one j (by omega)
        simp only [List.getD_cons_zero, Nat.add_zero, Nat.add_sub_cancel_left]
        simp only [List.getD_eq_getElem?_getD, Array.getElem?_toList, Array.getD_eq_getD_getElem?] at this h1 ⊢
        exact ⟨this, h1⟩
      | succ i' =>
        have := g3 i' j (by simp at hi; omega) hj
        rw [show i + 1 + i' = i + (i' + 1) by omega] at this
        simpa using this
    · rw [g4 n (by rw [Nat.add_mul]; omega), f2, if_neg (by omega)]

theorem sim_litV (hH : HR w pl Bd H) {o : Oper} {t n : Nat} {ps : Array (Nat × Operand)} (ho : o.op = .buildSlice t n ps) {e : Nat} {qs : List V}
    (hc : (match sliceOf P t with | some el => szIs P el e && hasZero P el e | none => false) = true) (hlit : LitV w (owned pl H) pl (hlen H) a 0 qs ps.toList) (hn : n = qs.length) (hbig : n * e ≤ 16777216) (he : 0 < e)
    (hall : ∀ x ∈ qs, x.sto = true ∧ x.cells.length = e) {v : V} {H' : Hp}
    (hv : (v = .slc (hlen H) 0 0 qs.length ∧ H' = hpush H (.row 0 e qs)) ∨ ∃ xs, allD qs = some xs ∧ v = .d (.vals e xs) ∧ H' = H) : OpSim P o a w pl Bd H v H' := by
  split at hc
  · rename_i el hel
    have hds := sliceOf_some hel
    simp only [Bool.and_eq_true] at hc
    obtain ⟨hsz, hz⟩ := hc
    obtain ⟨iz, uz, hi, hu, hus, his⟩ := hasZero_some hz
    let zs : Array Value := (Array.range (n * e)).map (uz.cells[· % uz.cells.size]!)
    have hzs : zs.size = n * e := by simp [zs]
    obtain ⟨us, g1, g2, g3, _⟩ := fillLit (a := a) qs ps.toList 0 zs hlit hall (by rw [Nat.zero_add, hzs, hn]; exact Nat.le_refl _)
    have h4 : (ps.map fun (i, x) => (i, a.eval x)).toList = ps.toList.map fun (i, x) => (i, a.eval x) := by simp
    have hrun : (Instr.buildSlice t n (ps.map fun (i, x) => (i, a.eval x))).run P w = .ok (.slice (some ⟨w.heap.size, 0, none⟩) n n) { w with heap := w.heap.push (.cells us el) } := by
      have hbig' : ¬ (n * e > 2 ^ 24) := by omega
      simp only [Instr.buildSlice, Sem.run_bind, run_underlying hds, Result.andThen_ok, run_sizeOf hsz, if_neg hbig']
      by_cases h0 : n * e = 0
      · have hn0 : n = 0 := by rcases Nat.mul_eq_zero.1 h0 with h | h <;> omega
        have hz0 : zs = (Array.range (n * e)).map ((#[] : Array Value)[· % (#[] : Array Value).size]!) := by
          simp only [zs, h0, Array.range_zero']; simp
        simp only [h0, if_true]
        rw [h0] at hz0
        rw [Sem.run_bind, Sem.run_pure, Result.andThen_ok, ← hz0, h4, g1]
        simp [newRow]
      · simp only [if_neg h0, Sem.run_bind, zeroValue, typeInfo, run_program, hi, hu, Result.andThen_ok, Sem.run_pure, h4]
        have : (Array.range (n * e)).map (uz.cells[· % uz.cells.size]!) = zs := rfl
        rw [this, g1]
        simp [newRow]
    have hus2 : us.size = n * e := by rw [g2, hzs]
    have hlen : qs.length = n := by simp [hn]
    have hel' : ∀ i, i < qs.length → (qs.getD i .any).cells.length = e := by
      intro i hi'
      have := (hall _ (List.getElem_mem hi')).2
      simpa [List.getD_eq_getElem?_getD, hi'] using this
    rcases hv with ⟨rfl, rfl⟩ | ⟨xs, hxs, rfl, rfl⟩
    · obtain ⟨pl', h1, h2, h3, h5⟩ := fin_row hH (w' := { w with heap := w.heap.push (.cells us el) }) (e := e) (c := n) (xs := qs) rfl ⟨rfl, rfl, rfl⟩ hus2 (unfrozen0 _) (by omega) hel'
        (fun i j hi hj => by have := (g3 i j (by simpa using hi) hj).1; rwa [Nat.zero_add] at this)
        (fun i j hi hj => by have := (g3 i j (by simpa using hi) hj).2; rwa [Nat.zero_add] at this)
      refine .value (u := .slice (some ⟨w.heap.size, 0, none⟩) n n) (by simp only [execOp, ho]; rw [Sem.run_bind, hrun]; rfl) ⟨h2, ?_, h3, h5, by rw [hlen_hpush]; omega⟩
      rw [← hn]
      exact rv_slc (by rw [hlen_hpush]; omega) h1 (by omega) (by simp) (by omega)
    · have hxe := allD_some hxs
      have hxl : xs.length = n := by rw [← hlen, hxe]; simp
      have hf := fin_free hH (w' := { w with heap := w.heap.push (.cells us el) }) (ob := .cells us el) rfl ⟨rfl, rfl, rfl⟩ (v := .d (.vals e xs)) (u := .slice (some ⟨w.heap.size, 0, none⟩) n n) (fun E => by
        rw [← hxl]
        have hcell : ∀ k, k < us.size → World.cell? { w with heap := w.heap.push (.cells us el) } ⟨w.heap.size, k, none⟩ = some (us.getD k undef) := fun k hk => by
          simp [World.cell?, hk]
        refine .d _ _ (.vals e xs w.heap.size 0 xs.length (fun i j => us.getD (i * e + j) undef) (Nat.le_refl _) (not_owned_new hH) (by simp) (fun i hi => ?_) (fun i j hi hj => ?_) (fun i j hi hj => ?_) (fun i j hi hj => ?_))
        · have := hel' i (by omega)
          rw [hxe, getD_map_d xs i hi, cells_d] at this
          simpa using this
        · rw [Nat.zero_add]
          exact hcell _ (by rw [hus2]; exact mul_add_lt (by omega) hj)
        · have := (g3 i j (by omega) hj).2
          rwa [Nat.zero_add] at this
        · have h6 := (g3 i j (by omega) hj).1
          rw [Nat.zero_add, hxe, getD_map_d xs i hi, cells_d] at h6
          have hcl : j < (xs.getD i .nilp).cells.length := by
            have := hel' i (by omega)
            rw [hxe, getD_map_d xs i hi, cells_d] at this
            simp only [List.length_map] at this; omega
          rw [getD_map_d _ j hcl] at h6
          exact (h6.mono E (PlExt.refl _ _) (Nat.le_refl _)).dd)
      exact .value (by simp only [execOp, ho]; rw [Sem.run_bind, hrun]; rfl) hf
  · simp at hc
theorem toD1_rd {O : Own} {n : Nat} {v : V} {x : D} {u : Value} (h : toD1 v = some x) (hr : RV w O pl n v u) : RD w O x u := by
  cases v <;> simp [toD1] at h
  · subst h
    exact hr.dd
  · subst h
    cases hr
    exact .vals0 _ _ _
theorem toDs_some : ∀ {vs : List V} {xs : List D}, toDs vs = some xs → xs.length = vs.length ∧ ∀ i, i < vs.length → toD1 (vs.getD i .any) = some (xs.getD i .nilp)
  | [], xs, h => by simp only [toDs, Option.some.injEq] at h; subst h; exact ⟨rfl, fun i hi => by simp at hi⟩
  | v :: r, xs, h => by
    simp only [toDs] at h
    split at h
    · rename_i x hx
      split at h
      · rename_i ys hy
        simp only [Option.some.injEq] at h
        subst h
        obtain ⟨h1, h2⟩ := toDs_some hy
        refine ⟨by simp [h1], fun i hi => ?_⟩
        cases i with
        | zero => exact hx
        | succ i => exact h2 i (by simpa using hi)
      · simp at h
    · simp at h
theorem dat_rv {O : Own} {n : Nat} {v : V} {u : Value} (h : RV w O pl n v u) : RV w O pl n (dat v) u := by
  unfold dat
  split
  · cases h
    exact .d _ _ (.vals0 _ _ _)
  · rename_i cs
    split
    · rename_i xs hxs
      obtain ⟨h1, h2⟩ := toDs_some hxs
      cases h with
      | agg _ us hl hone hrr =>
        exact .d _ _ (.agg xs us (by omega) (fun i hi => hone i (by omega)) fun i hi => toD1_rd (h2 i (by omega)) (hrr i (by omega)))
    · exact h
  · exact h
theorem dat_sto {v : V} (h : v.sto = true) : (dat v).sto = true := by
  unfold dat
  split
  · rfl
  · split
    · rfl
    · exact h
  · exact h
theorem dat_cells (v : V) : (dat v).cells.length = v.cells.length := by
  unfold dat
  split
  · rfl
  · split
    · rename_i xs hxs
      have := (toDs_some hxs).1
      simp [V.cells, this]
    · rfl
  · rfl
theorem litV_dat {O : Own} {m : Nat} : ∀ (vs : List V) (ps : List (Nat × Operand)) (k : Nat), LitV w O pl m a k vs ps → LitV w O pl m a k (vs.map dat) ps
  | [], [], _, h => h
  | [], _ :: _, _, h => h.elim
  | _ :: _, [], _, h => h.elim
  | v :: vs, (i, y) :: ps, k, h => ⟨h.1, dat_rv h.2.1, litV_dat vs ps (k + 1) h.2.2⟩
theorem sim_lit (hG : GR G w (owned pl H)) (hH : HR w pl Bd H) (hE : RE w (owned pl H) pl (hlen H) env a) {o : Oper} {t n : Nat} {ps : Array (Nat × Operand)} (ho : o.op = .buildSlice t n ps) {e : Nat} {qs : List AOpd}
    (hc : (match sliceOf P t with | some el => szIs P el e && hasZero P el e | none => false) = true) (hlit : litOk 0 qs ps.toList = true) (hn : n = qs.length) (hbig : n * e ≤ 16777216) (he : 0 < e)
    (hall : ∀ x ∈ qs, (opd G env x).sto = true ∧ (opd G env x).cells.length = e) {v : V} {H' : Hp}
    (hv : (v = .slc (hlen H) 0 0 qs.length ∧ H' = hpush H (.row 0 e (qs.map (opd G env)))) ∨ ∃ xs, allD ((qs.map (opd G env)).map dat) = some xs ∧ v = .d (.vals e xs) ∧ H' = H) : OpSim P o a w pl Bd H v H' := by
  rcases hv with hv | ⟨xs, hxs, rfl, rfl⟩
  · refine sim_litV hH ho (qs := qs.map (opd G env)) hc (litV_of hG hE qs _ 0 hlit fun x hx => (hall x hx).1) (by simpa using hn) hbig he (fun x hx => ?_) (.inl (by simpa using hv))
    obtain ⟨y, hy, rfl⟩ := List.mem_map.1 hx
    exact hall y hy
  · refine sim_litV hH ho (qs := (qs.map (opd G env)).map dat) hc (litV_dat _ _ 0 (litV_of hG hE qs _ 0 hlit fun x hx => (hall x hx).1)) (by simpa using hn) hbig he (fun x hx => ?_) (.inr ⟨xs, hxs, rfl, rfl⟩)
    obtain ⟨z, hz, rfl⟩ := List.mem_map.1 hx
    obtain ⟨y, hy, rfl⟩ := List.mem_map.1 hz
    have := hall y hy
    exact ⟨dat_sto this.1, by rw [dat_cells]; exact this.2⟩
end
end Go.Ev
/- Each operation of compact code does what the model's operation does: made slices, the least and the greatest, append. -/
namespace Go.Ev
open Go
set_option linter.unusedSimpArgs false
set_option linter.unusedVariables false

section
variable {P : Program} {cl : Callf} {G : Glob} {w : World} {pl : Pl} {Bd : Nat → Prop} {H : Hp} {env : Env} {a : Act}

theorem getD_replicate (n i : Nat) (z : V) (hi : i < n) : (List.replicate n z).getD i .any = z := by
  simp [List.getD_eq_getElem?_getD, hi]

theorem sim_mkslice (hG : GR G w (owned pl H)) (hH : HR w pl Bd H) (hE : RE w (owned pl H) pl (hlen H) env a) {o : Oper} {t : Nat} {L C : Operand} (ho : o.op = .makeSlice t L C) {e b : Nat} {z : V} {l c : AOpd} (hl : opdOk l L = true) (hc : opdOk c C = true)
    (hck : (match sliceOf P t with | some el => szIs P el e && zeroIs P el z && (match P.info? el with | some i => Nat.beq i.bytes b | none => false) && decide (0 < e) && decide (0 < b) | none => false) = true)
    {n : Int} (hle : opd G env l = .d (.int .i64 n)) (hce : opd G env c = .d (.int .i64 n)) (h0 : 0 ≤ n) (hroom : n * b ≤ (room : Int)) (hze : z.cells.length = e) (hzs : z.sto = true) :
    OpSim P o a w pl Bd H (.slc (hlen H) 0 0 n.toNat) (hpush H (.row 0 e (List.replicate n.toNat z))) := by
  have hlv := opd_ok hl hG hE (by rw [hle]; rfl)
  have hcv := opd_ok hc hG hE (by rw [hce]; rfl)
  rw [hle] at hlv
  rw [hce] at hcv
  have hli := hlv.dd.int_eq
  have hci := hcv.dd.int_eq
  split at hck
  · rename_i el hel
    simp only [Bool.and_eq_true, decide_eq_true_eq] at hck
    obtain ⟨⟨⟨⟨k1, k2⟩, k3⟩, k4⟩, k5⟩ := hck
    have hds := sliceOf_some hel
    obtain ⟨iz, uz, hi, hu, hcst, his⟩ := zeroIs_some k2
    rw [hi] at k3
    have k3 := Nat.eq_of_beq_eq_true k3
    have hzr := (vcstOk_ok (w := w) (O := owned pl H) (pl := pl) (n := hlen H) hcst).cells hzs
    have huz := hzr.size
    have hbn : (iz.bytes : Int) * n ≤ 281474976710656 := by rw [k3, Int.mul_comm]; simp only [room] at hroom; omega
    have hn63 : n ≤ 9223372036854775807 := by
      have h1 : n * 1 ≤ n * (b : Int) := Int.mul_le_mul_of_nonneg_left (by omega) h0
      simp only [room] at hroom
      omega
    have hrun := run_make (P := P) w t el iz uz hds hi hu .i64 .i64 n n h0 (Int.le_refl _) hbn hn63
    have hsz : (madeCells uz.cells (n.toNat * iz.size)).size = n.toNat * e := by rw [size_madeCells, his, hze]
    have hget : ∀ i j, i < n.toNat → j < e → (madeCells uz.cells (n.toNat * iz.size)).getD (i * e + j) undef = uz.cells.getD j undef := by
      intro i j hi' hj
      have hlt : i * e + j < n.toNat * iz.size := by rw [his, hze]; exact mul_add_lt hi' hj
      have hju : j < uz.cells.size := by omega
      simp only [madeCells, Array.getD_eq_getD_getElem?, Array.getElem?_map, Array.getElem?_range, hlt, if_true, Option.map_some, Option.getD_some]
      rw [show uz.cells.size = e by omega, (div_mul_add hj).2]
      simp [hju]
    obtain ⟨pl', h1, h2, h3, h4⟩ := fin_row hH (w' := w.alloc (.cells (madeCells uz.cells (n.toNat * iz.size)) el)) (e := e) (c := n.toNat) (xs := List.replicate n.toNat z) rfl ⟨rfl, rfl, rfl⟩ hsz (unfrozen0 _) (by simp)
      (fun i hi' => by rw [getD_replicate _ _ _ (by simpa using hi')]; exact hze)
      (fun i j hi' hj => by
        have hi2 : i < n.toNat := by simpa using hi'
        rw [getD_replicate _ _ _ hi2, hget i j hi2 hj]
        exact hzr.rel j (by omega))
      (fun i j hi' hj => by
        have hi2 : i < n.toNat := by simpa using hi'
        rw [hget i j hi2 hj]
        exact hzr.one j (by omega))
    exact .value (by simp only [execOp, ho, hli, hci]; rw [Sem.run_bind, hrun]; rfl) ⟨h2, rv_slc (by rw [hlen_hpush]; omega) h1 (by omega) (by simp) (by omega), h3, h4, by rw [hlen_hpush]; omega⟩
  · simp at hck

theorem mnmx2_int {mx : Bool} {x y z : V} (h : mnmx2 mx x y = some z) : ∃ k p q, x = .d (.int k p) ∧ y = .d (.int k q) ∧ z = .d (.int k (bif mx then (if q > p then q else p) else (if q < p then q else p))) := by
  unfold mnmx2 at h
  split at h
  · split at h
    · rename_i hk
      subst hk
      simp at h
      exact ⟨_, _, _, rfl, rfl, by simpa using h.symm⟩
    · simp at h
  · simp at h

theorem run_mnmxL {mx : Bool} {O : Own} {m : Nat} : ∀ (ys : List V) (x z : V) (u : Value) (us : List Value), mnmxL mx x ys = some z → RV w O pl m x u → us.length = ys.length → (∀ i, i < ys.length → RV w O pl m (ys.getD i .any) (us.getD i undef)) →
    ∃ r, (us.foldlM (bif mx then Builtin.max2 else Builtin.min2) u).run P w = .ok r w ∧ RV w O pl m z r
  | [], x, z, u, us, h, hx, hl, _ => by
    simp [mnmxL] at h; subst h
    have : us = [] := List.eq_nil_of_length_eq_zero (by simpa using hl)
    subst this
    exact ⟨u, rfl, hx⟩
  | y :: ys, x, z, u, us, h, hx, hl, hy => by
    match us, hl with
    | v :: us, hl =>
      simp only [mnmxL] at h
      split at h
      · rename_i z1 hz1
        obtain ⟨k, p, q, rfl, rfl, rfl⟩ := mnmx2_int hz1
        have hyv := hy 0 (by simp)
        simp only [List.getD_cons_zero] at hyv
        have e1 := hx.dd.int_eq
        have e2 := hyv.dd.int_eq
        subst e1 e2
        obtain ⟨r, hr1, hr2⟩ := run_mnmxL ys _ z (.int k (bif mx then (if q > p then q else p) else (if q < p then q else p))) us h (.d _ _ (.int _ _)) (by simpa using hl) (fun i hi => by have := hy (i + 1) (by simpa using hi); simpa using this)
        refine ⟨r, ?_, hr2⟩
        rw [List.foldlM_cons, Sem.run_bind]
        cases mx
        · have : (Builtin.min2 (.int k p) (.int k q)).run P w = .ok (.int k (if q < p then q else p)) w := rfl
          simp only [cond_false, this, Result.andThen_ok] at hr1 ⊢
          exact hr1
        · have : (Builtin.max2 (.int k p) (.int k q)).run P w = .ok (.int k (if q > p then q else p)) w := rfl
          simp only [cond_true, this, Result.andThen_ok] at hr1 ⊢
          exact hr1
      · simp at h

theorem opds_ok {O : Own} {m : Nat} (hG : GR G w O) (hE : RE w O pl m env a) : ∀ (xs : List AOpd) (ys : List Operand), opdsOk xs ys = true → ys.length = xs.length ∧ ∀ i, i < xs.length → ((xs.map (opd G env)).getD i .any).ok = true → RV w O pl m ((xs.map (opd G env)).getD i .any) ((ys.map a.eval).getD i undef)
  | [], [], _ => ⟨rfl, fun i hi => by simp at hi⟩
  | [], _ :: _, h => by simp [opdsOk] at h
  | _ :: _, [], h => by simp [opdsOk] at h
  | x :: xs, y :: ys, h => by
    simp only [opdsOk, Bool.and_eq_true] at h
    obtain ⟨h1, h2⟩ := opds_ok hG hE xs ys h.2
    refine ⟨by simp [h1], fun i hi hk => ?_⟩
    cases i with
    | zero => exact opd_ok h.1 hG hE hk
    | succ i => exact h2 i (by simpa using hi) hk

theorem mnmxL_ok {mx : Bool} : ∀ (ys : List V) (x z : V), mnmxL mx x ys = some z → (ys ≠ [] → x.ok = true) ∧ ∀ i, i < ys.length → (ys.getD i .any).ok = true
  | [], _, _, _ => ⟨fun h => absurd rfl h, fun i hi => by simp at hi⟩
  | y :: ys, x, z, h => by
    simp only [mnmxL] at h
    split at h
    · rename_i z1 hz1
      obtain ⟨k, p, q, rfl, rfl, rfl⟩ := mnmx2_int hz1
      refine ⟨fun _ => rfl, fun i hi => ?_⟩
      cases i with
      | zero => rfl
      | succ i => exact (mnmxL_ok ys _ z h).2 i (by simpa using hi)
    · simp at h

theorem sim_mnmx (hG : GR G w (owned pl H)) (hH : HR w pl Bd H) (hE : RE w (owned pl H) pl (hlen H) env a) {o : Oper} {ags : Array Operand} {ts : Array TypeId} {mx : Bool} (ho : o.op = .call { callee := .builtin (bif mx then .max else .min), args := ags, argTypes := ts }) {x : AOpd} {xs : List AOpd} (hc : opdsOk (x :: xs) ags.toList = true)
    {z : V} (hz : mnmxL mx (opd G env x) (xs.map (opd G env)) = some z) (hne : (opd G env x).ok = true) : OpSim P o a w pl Bd H z H := by
  obtain ⟨h1, h2⟩ := opds_ok hG hE (x :: xs) ags.toList hc
  obtain ⟨_, k2⟩ := mnmxL_ok _ _ _ hz
  cases has : ags.toList with
  | nil => rw [has] at h1; simp at h1
  | cons y ys =>
    rw [has] at h1 h2
    have hx := h2 0 (by simp) hne
    simp only [List.map_cons, List.getD_cons_zero] at hx
    obtain ⟨r, hr1, hr2⟩ := run_mnmxL (P := P) (xs.map (opd G env)) _ z _ (ys.map a.eval) hz hx (by simpa using h1) (fun i hi => by
      have := h2 (i + 1) (by simpa using hi) (by simpa using k2 i hi)
      simpa using this)
    have hmap : (ags.map a.eval).toList = a.eval y :: ys.map a.eval := by rw [Array.toList_map, has]; rfl
    refine .pure hH (u := r) ?_ hr2
    simp only [execOp, ho, resolve]
    cases mx
    · simp only [cond_false, Sem.run_bind, Sem.run_pure, Result.andThen_ok, invoke, builtin, Builtin.min_, hmap] at hr1 ⊢
      rw [hr1]; rfl
    · simp only [cond_true, Sem.run_bind, Sem.run_pure, Result.andThen_ok, invoke, builtin, Builtin.max_, hmap] at hr1 ⊢
      rw [hr1]; rfl
end
end Go.Ev
/- Each operation of compact code does what the model's operation does: append. -/
namespace Go.Ev
open Go
set_option linter.unusedSimpArgs false
set_option linter.unusedVariables false

section
variable {P : Program} {cl : Callf} {G : Glob} {w : World} {pl : Pl} {Bd : Nat → Prop} {H : Hp} {env : Env} {a : Act}

theorem lowIn_cells {r : Nat} {v : V} (h : lowIn r v = true) {j : Nat} (hj : j < v.cells.length) : lowIn1 r (v.cells.getD j .any) = true := by
  cases v with
  | d x =>
    rw [cells_d] at hj ⊢
    rw [getD_map_d _ j (by simpa using hj)]
    rfl
  | agg cs =>
    simp only [lowIn, List.all_eq_true] at h
    simp only [V.cells] at hj ⊢
    have : cs.getD j .any = cs[j] := by simp [List.getD_eq_getElem?_getD, hj]
    rw [this]
    exact h _ (List.getElem_mem hj)
  | slc r' g i n => simp [V.cells] at hj; subst hj; simpa [lowIn, V.cells] using h
  | ptr r' g i k => simp [V.cells] at hj; subst hj; simpa [lowIn, V.cells] using h
  | nils e => simp [V.cells] at hj; subst hj; rfl
  | _ => simp [lowIn, lowIn1] at h

theorem okIn_cells {O : Own} {n r m j : Nat} {B : Bn} {v : V} {u : Value} (h : RV w O pl n (v.cells.getD j .any) u) (hj : j < v.cells.length) (hb : okIn B r v = true) (hn : BdOk Bd B) (hm : m = n ∨ (Bd m ∧ r < m)) : RV w O pl m (v.cells.getD j .any) u := by
  rcases hm with rfl | ⟨hm, hlt⟩
  · exact h
  · simp only [okIn, Bool.or_eq_true, Bool.and_eq_true, List.all_eq_true] at hb
    rcases hb with hb | ⟨hb, ht⟩
    · exact h.lower1 (lowIn_cells hb hj) (by omega)
    · have h1 := Nat.le_of_ble_eq_true hb
      rcases hn m hm with h2 | h2
      · omega
      · rcases ht m h2 with h3 | h3
        · have := Nat.le_of_ble_eq_true h3
          omega
        · exact h.lower1 (lowIn_cells h3 hj) (Nat.le_refl _)

theorem lies_lower {r e : Nat} {B : Bn} {ys : List V} {A : Option Addr} {news : List Value} {dat : Bool} (hl : Lies w (owned pl H) pl (hlen H) e ys A news) (hd : dat = true → ∃ ds : List D, ys = ds.map .d) (hok : (dat || ys.all (okIn B r)) = true) (hn : BdOk Bd B) :
    ∀ m, (m = hlen H ∨ (Bd m ∧ r < m)) → ∀ i j, i < ys.length → j < e → RV w (owned pl H) pl m ((ys.getD i .any).cells.getD j .any) (news.getD (i * e + j) undef) := by
  intro m hm i j hi hj
  have h := hl.rel i j hi hj
  have hc := hl.el i hi
  cases hdat : dat
  · rw [hdat] at hok
    simp only [Bool.false_or, List.all_eq_true] at hok
    have hg : ys.getD i .any = ys[i] := by simp [List.getD_eq_getElem?_getD, hi]
    refine okIn_cells h (by omega) ?_ hn hm
    rw [hg]; exact hok _ (List.getElem_mem hi)
  · obtain ⟨ds, rfl⟩ := hd hdat
    have hi' : i < ds.length := by simpa using hi
    rw [getD_map_d ds i hi', cells_d] at h hc ⊢
    rw [getD_map_d _ j (by simp only [List.length_map] at hc; omega)] at h ⊢
    exact .d _ _ h.dd

theorem run_firstLies {e : Nat} {ys : List V} {A : Option Addr} {cap : Nat} {news : List Value} {O : Own} {n : Nat} (hl : Lies w O pl n e ys A news) {w' : World} (hw : ∀ a, w'.cell? a = w.cell? a) : (Builtin.firstCells e ys.length (.slice A ys.length cap)).run P w' = .ok news.toArray w' := by
  rcases hl.cell with h0 | ⟨b, off, rfl, hc⟩
  · have hn : news = [] := List.eq_nil_of_length_eq_zero (by rw [hl.len, h0, Nat.zero_mul])
    subst hn
    rw [h0]
    cases A with
    | none => exact run_firstCells_none w' _ _ _ _
    | some ad => simp [Builtin.firstCells, loadCells, loadCellsFrom]
  · exact run_firstCells_some (P := P) w' e ys.length ⟨b, off, none⟩ ys.length cap news hl.len (fun j u hj => by rw [Addr.add_lit, hw]; exact hc j u hj)

theorem run_room {t ty el e bytes : Nat} {iz : TypeInfo} (hds : P.underlying t = some (.slice el)) (hi : P.info? el = some iz) (hse : iz.size = e) {b n c m cap : Nat} {A : Option Addr} {news : List Value} (hroom : n + m ≤ c)
    (hfc : (Builtin.firstCells e m (.slice A m cap)).run P w = .ok news.toArray w) (hnl : news.length = m * e) (h1 : ∀ u ∈ news, u.oneCell' = true) {arr : Array Value} {ety : TypeId} {fr : Nat × Nat} (hh : w.heap[b]? = some (.cells arr ety fr)) (hs : arr.size = c * e) (hf : Unfrozen fr arr.size) :
    (Builtin.append_ #[t, t] ty #[.slice (some ⟨b, 0, none⟩) n c, .slice A m cap]).run P w = .ok (.slice (some ⟨b, 0, none⟩) (n + m) c) (w.setCells b (n * e) news) := by
  subst hse
  have hfit : n * iz.size + news.length ≤ arr.size := by
    rw [hnl, hs, ← Nat.add_mul]
    exact Nat.mul_le_mul_right _ hroom
  have hst := run_storeCells_cells (P := P) b (0 + n * iz.size) news 0 w (fun j hj => by rw [Nat.add_zero, Nat.zero_add, cell_of_block hh (by omega)]; rfl)
    (fun j hj => by
      have := hf (0 + n * iz.size + 0 + j) (by omega)
      simp only [World.frozen?, hh]
      simp only [Bool.and_eq_false_iff, decide_eq_false_iff_not]
      omega) h1
  simp only [Nat.add_zero, Nat.zero_add] at hst
  simp [Builtin.append_, run_underlying hds, sizeOf, typeInfo, hi, Builtin.lenOf, hroom, hfc, Addr.add_lit, hst]

theorem run_grow {t ty el e bytes : Nat} {iz : TypeInfo} {z : Value} (hds : P.underlying t = some (.slice el)) (hi : P.info? el = some iz) (hz : iz.zero = some z) (hse : iz.size = e) (hby : iz.bytes = bytes) {S : Option Addr} {n c m cap : Nat} {A : Option Addr} {olds news : List Value} (hg : c < n + m)
    (hfo : (Builtin.firstCells e n (.slice S n c)).run P w.drew = .ok olds.toArray w.drew) (hfc : (Builtin.firstCells e m (.slice A m cap)).run P w.drew = .ok news.toArray w.drew) (hroom : (n + m) * bytes ≤ 140737488355328) (hb0 : 0 < bytes) :
    (Builtin.append_ #[t, t] ty #[.slice S n c, .slice A m cap]).run P w = .ok (.slice (some ⟨w.heap.size, 0, none⟩) (n + m) (grownCap w (n + m) c el)) (w.drew.alloc (.cells (olds.toArray ++ news.toArray ++ Builtin.zeroCells z.cells (grownCap w (n + m) c el - (n + m))) el)) := by
  subst hse
  subst hby
  have h63 : n + m ≤ 140737488355328 := by
    have := Nat.mul_le_mul_left (n + m) hb0
    omega
  have hn : ¬ (n + m ≤ c) := by omega
  have h63' : ¬ (9223372036854775807 < ((n : Int) + (m : Int))) := by omega
  have hfit := growslice_fits hg hroom
  have h48' : ¬ (281474976710656 < Builtin.nextslicecap (n + m) c * iz.bytes) := by omega
  simp [Builtin.append_, run_underlying hds, sizeOf, typeInfo, zeroValue, hi, hz, Builtin.lenOf, hn, h63', h48', Question.forced, hfc, hfo, newRow, grownCap]
  congr 2
  apply Array.ext'
  simp [List.append_assoc]

theorem mem_one {e : Nat} {ys : List V} {A : Option Addr} {news : List Value} {O : Own} {n : Nat} (hl : Lies w O pl n e ys A news) : ∀ u ∈ news, u.oneCell' = true := by
  intro u hu
  obtain ⟨k, hk, rfl⟩ := List.mem_iff_getElem.1 hu
  have hk' : k < ys.length * e := by rw [← hl.len]; exact hk
  obtain ⟨d1, d2, d3⟩ := div_lt_of hk'
  have := hl.one _ _ d1 d2
  rw [d3] at this
  simpa [List.getD_eq_getElem?_getD, hk] using this

theorem ge_of_index {i n j e : Nat} (h : n ≤ i) : n * e ≤ i * e + j := by
  have := Nat.mul_le_mul_right e h
  omega

theorem sim_append {B : Bn} (hn0 : BdOk Bd B) (hG : GR G w (owned pl H)) (hH : HR w pl Bd H) (hE : RE w (owned pl H) pl (hlen H) env a) {o : Oper} {ags : Array Operand} {ts : Array TypeId} (ho : o.op = .call { callee := .builtin .append, args := ags, argTypes := ts }) {S X : Operand} {t : Nat} (has : ags.toList = [S, X]) (hts : ts.toList = [t, t])
    {s x : AOpd} (hs : opdOk s S = true) (hx : opdOk x X = true) {e b : Nat} (hck : (match sliceOf P t with | some el => hasZero P el e && (match P.info? el with | some i => Nat.beq i.bytes b | none => false) | none => false) = true) (hb : 0 < b)
    {r g n : Nat} (hse : opd G env s = .slc r g 0 n) {xs : List V} (hrow : rowOf H r g = some (e, xs)) (hxk : (opd G env x).ok = true) {ys : List V} {dat : Bool} (hsrc : src H (opd G env x) = some (e, ys, dat)) (hok : (dat || ys.all (okIn B r)) = true)
    {v : V} {H' : Hp} (hv : (n ≤ xs.length ∧ xs.length ≤ n + ys.length ∧ (n + ys.length) * b ≤ room ∧ v = .slc r (g + 1) 0 (n + ys.length) ∧ H' = hset H r (.row (g + 1) e (xs.take n ++ ys))) ∨ (n + ys.length ≤ xs.length ∧ v = .slc r g 0 (n + ys.length) ∧ H' = hset H r (.row g e (xs.take n ++ ys ++ xs.drop (n + ys.length))))) :
    OpSim P o a w pl Bd H v H' := by
  have hsv := opd_ok hs hG hE (by rw [hse]; rfl)
  have hxv := opd_ok hx hG hE hxk
  rw [hse] at hsv
  obtain ⟨A, cap, news, hxe, hcap, hl, hdat⟩ := src_lies hH hsrc hxv
  have hlow := lies_lower hl hdat hok hn0
  obtain ⟨bl, c, arr, ty, fr, hpl, hh, hsa, hf, hxc, he, hr, h1, hbd⟩ := row_lies hH hrow
  have has' : ags = #[S, X] := by apply Array.ext'; rw [has]
  have hts' : ts = #[t, t] := by apply Array.ext'; rw [hts]
  generalize hue : a.eval S = u at hsv
  cases hsv with
  | slc0 _ _ _ A cap hi' hlt => omega
  | slc _ _ _ _ b' e' c' hlt hp' hk =>
    rw [hpl] at hp'
    simp only [Option.some.injEq, Prod.mk.injEq] at hp'
    obtain ⟨rfl, rfl, rfl⟩ := hp'
    rw [Nat.zero_mul, Nat.sub_zero] at hue
    split at hck
    · rename_i el hel
      have hds := sliceOf_some hel
      simp only [Bool.and_eq_true] at hck
      obtain ⟨k1, k2⟩ := hck
      obtain ⟨iz, uz, hi, hu, hus, his⟩ := hasZero_some k1
      rw [hi] at k2
      have k2 := Nat.eq_of_beq_eq_true k2
      have hexec : ∀ (r : Value) (w' : World), (Builtin.append_ #[t, t] o.type #[.slice (some ⟨bl, 0, none⟩) n c, .slice A ys.length cap]).run P w = .ok r w' → (execOp a.eval o).run P w = .ok (.value r) w' := by
        intro r w' h
        simp only [execOp, ho, resolve, has', hts', Sem.run_bind, Sem.run_pure, Result.andThen_ok, invoke, builtin, List.map_toArray, List.map_cons, List.map_nil, hue, hxe]
        rw [h]; rfl
      have hold : ∀ m, (m = hlen H ∨ (Bd m ∧ r < m)) → ∀ i j, i < xs.length → j < e → RV w (owned pl H) pl m ((xs.getD i .any).cells.getD j .any) (arr.getD (i * e + j) undef) := by
        intro m hm
        rcases hm with rfl | ⟨hm, hlt'⟩
        · exact hr
        · exact hbd m hm hlt'
      by_cases hroom : n + ys.length ≤ c
      · have hfc := run_firstLies (P := P) (cap := cap) hl (w' := w) (fun _ => rfl)
        have hrun := run_room (P := P) (ty := o.type) (bytes := b) hds hi his hroom hfc hl.len (mem_one hl) hh hsa hf
        have hfit : n * e + news.length ≤ arr.size := by rw [hl.len, hsa, ← Nat.add_mul]; exact Nat.mul_le_mul_right _ hroom
        obtain ⟨s1, s2, s3, arr', s4, s5, s6⟩ := setCells_spec news (n * e) w hh hfit
        rw [hl.len] at s6
        -- what lies in the new row
        have hnew : ∀ (zs : List V), (∀ i, i < zs.length → (zs.getD i .any = if n ≤ i ∧ i < n + ys.length then ys.getD (i - n) .any else xs.getD i .any) ∧ (¬ (n ≤ i ∧ i < n + ys.length) → i < xs.length)) →
            ∀ (R : V → Value → Prop), (∀ i j, i < ys.length → j < e → R ((ys.getD i .any).cells.getD j .any) (news.getD (i * e + j) undef)) → (∀ i j, i < xs.length → j < e → R ((xs.getD i .any).cells.getD j .any) (arr.getD (i * e + j) undef)) →
            ∀ i j, i < zs.length → j < e → R ((zs.getD i .any).cells.getD j .any) (arr'.getD (i * e + j) undef) := by
          intro zs hz R h1 h2 i j hi hj
          obtain ⟨z1, z2⟩ := hz i hi
          rw [z1, s6]
          by_cases hin : n ≤ i ∧ i < n + ys.length
          · have hge := ge_of_index (j := j) (e := e) hin.1
            have hlt2 : i * e + j < n * e + ys.length * e := by rw [← Nat.add_mul]; exact mul_add_lt hin.2 hj
            rw [if_pos hin, if_pos ⟨hge, hlt2⟩]
            have hsub : i * e + j - n * e = (i - n) * e + j := by rw [Nat.sub_mul]; have := Nat.mul_le_mul_right e hin.1; omega
            rw [hsub]
            exact h1 _ _ (by omega) hj
          · rw [if_neg hin, if_neg (by
              intro hcon
              apply hin
              constructor
              · rcases Nat.lt_or_ge i n with h | h
                · have := mul_add_lt h hj; omega
                · exact h
              · rcases Nat.lt_or_ge i (n + ys.length) with h | h
                · exact h
                · have := ge_of_index (j := j) (e := e) h
                  rw [Nat.add_mul] at this
                  omega)]
            exact h2 i j (z2 hin) hj
        have hfin : ∀ (g' : Nat) (zs : List V), (g' = g ∨ g' = g + 1) → zs.length ≤ c → (∀ i, i < zs.length → (zs.getD i .any = if n ≤ i ∧ i < n + ys.length then ys.getD (i - n) .any else xs.getD i .any) ∧ (¬ (n ≤ i ∧ i < n + ys.length) → i < xs.length)) →
            OpSim P o a w pl Bd H (.slc r g' 0 (n + ys.length)) (hset H r (.row g' e zs)) := by
          intro g' zs hg' hzl hz
          obtain ⟨q1, q2, q3⟩ := hH.setRow (w' := w.setCells bl (n * e) news) (g' := g') (b' := bl) (c' := c) (xs' := zs) (arr' := arr') (hget_row hrow) hpl (by omega) (fun _ => rfl) s1 (by omega) (fun b'' _ hne => s3 b'' hne) (.inl rfl) s4 (by omega) (by rw [s5]; exact hf) hzl
            (fun i hi => by
              obtain ⟨z1, z2⟩ := hz i hi
              rw [z1]
              split
              · rename_i hin; exact hl.el _ (by omega)
              · rename_i hin; exact he _ (z2 hin))
            (fun i j hi hj => hnew zs hz (fun _ u => u.oneCell' = true) (fun i j hi hj => hl.one i j hi hj) h1 i j hi hj)
            (fun m hm i j hi hj => hnew zs hz (fun v u => RV w (owned pl H) pl m v u) (hlow m hm) (hold m hm) i j hi hj)
          exact .value (hexec _ _ hrun) ⟨q1, rv_slc (by rw [hlen_hset]; exact hlt) (plSet_self ..) (by omega) (by simp) (by omega), q2, q3, by rw [hlen_hset]; omega⟩
        rcases hv with ⟨hn, hn2, _, rfl, rfl⟩ | ⟨hn, rfl, rfl⟩
        · have tl : (xs.take n).length = n := by simp; omega
          refine hfin (g + 1) (xs.take n ++ ys) (.inr rfl) (by simp; omega) (fun i hi => ⟨?_, fun hin => ?_⟩)
          · simp only [List.getD_eq_getElem?_getD, List.getElem?_append, tl]
            simp only [List.length_append, tl] at hi
            by_cases h : i < n
            · rw [if_pos h, if_neg (by omega), List.getElem?_take, if_pos h]
            · rw [if_neg h, if_pos (by omega)]
          · simp only [List.length_append, tl] at hi
            omega
        · refine hfin g _ (.inl rfl) (by simp; omega) (fun i hi => ⟨getD_splice xs ys n i hn, fun hin => ?_⟩)
          simp at hi
          omega
      · rcases hv with ⟨hn, hn2, hrm, rfl, rfl⟩ | ⟨hn, rfl, rfl⟩
        · have tl : (xs.take n).length = n := by simp; omega
          have hcell : ∀ ad, w.drew.cell? ad = w.cell? ad := fun _ => rfl
          have hfc := run_firstLies (P := P) (cap := cap) hl (w' := w.drew) hcell
          let olds : List Value := (List.range (n * e)).map fun k => arr.getD k undef
          have hol : olds.length = n * e := by simp [olds]
          have hog : ∀ i j, i < n → j < e → olds.getD (i * e + j) undef = arr.getD (i * e + j) undef := by
            intro i j hi hj
            have := mul_add_lt hi hj
            simp [olds, List.getD_eq_getElem?_getD, List.getElem?_range this]
          have hfo : (Builtin.firstCells e n (.slice (some ⟨bl, 0, none⟩) n c)).run P w.drew = .ok olds.toArray w.drew :=
            run_firstCells_some (P := P) w.drew e n ⟨bl, 0, none⟩ n c olds hol (fun j u hj => by
              have hjl : j < n * e := by have := (List.getElem?_eq_some_iff.1 hj).1; omega
              simp [olds, List.getElem?_map, List.getElem?_range hjl] at hj
              subst hj
              rw [Addr.add_lit, hcell]
              have : n * e ≤ c * e := Nat.mul_le_mul_right _ (by omega)
              rw [Nat.zero_add, cell_of_block hh (by omega)]
              simp [Array.getD_eq_getD_getElem?])
          have hrun := run_grow (P := P) (ty := o.type) hds hi hu his k2 (by omega) hfo hfc hrm hb
          have hge := grownCap_ge w (n + ys.length) c el
          generalize hcap' : grownCap w (n + ys.length) c el = c2 at hrun hge
          let arr2 : Array Value := olds.toArray ++ news.toArray ++ Builtin.zeroCells uz.cells (c2 - (n + ys.length))
          have hsz2 : arr2.size = c2 * e := by
            simp only [arr2, Array.size_append, List.size_toArray, size_zeroCells, hus, hol, hl.len, ← Nat.add_mul]
            congr 1; omega
          have hg1 : ∀ i j, i < n → j < e → arr2.getD (i * e + j) undef = arr.getD (i * e + j) undef := by
            intro i j hi hj
            have h3 := mul_add_lt hi hj
            rw [← hog i j hi hj]
            simp only [arr2, Array.getD_eq_getD_getElem?, List.getD_eq_getElem?_getD]
            rw [Array.getElem?_append_left (by simp [hol]; omega), Array.getElem?_append_left (by simp [hol]; omega)]
            simp
          have hg2 : ∀ i j, i < ys.length → j < e → arr2.getD ((n + i) * e + j) undef = news.getD (i * e + j) undef := by
            intro i j hi hj
            have h3 := mul_add_lt hi hj
            simp only [arr2, Array.getD_eq_getD_getElem?, List.getD_eq_getElem?_getD]
            rw [Nat.add_mul, Array.getElem?_append_left (by simp [hol, hl.len]; omega), Array.getElem?_append_right (by simp [hol]; omega)]
            simp only [List.size_toArray, hol]
            rw [show n * e + i * e + j - n * e = i * e + j by omega]
            simp
          have hnew : ∀ (R : V → Value → Prop), (∀ i j, i < ys.length → j < e → R ((ys.getD i .any).cells.getD j .any) (news.getD (i * e + j) undef)) → (∀ i j, i < xs.length → j < e → R ((xs.getD i .any).cells.getD j .any) (arr.getD (i * e + j) undef)) →
              ∀ i j, i < (xs.take n ++ ys).length → j < e → R (((xs.take n ++ ys).getD i .any).cells.getD j .any) (arr2.getD (i * e + j) undef) := by
            intro R h1 h2 i j hi hj
            simp only [List.length_append, tl] at hi
            simp only [List.getD_eq_getElem?_getD (l := xs.take n ++ ys), List.getElem?_append, tl]
            by_cases h : i < n
            · rw [if_pos h, hg1 i j (by omega) hj, List.getElem?_take, if_pos h, ← List.getD_eq_getElem?_getD]
              exact h2 i j (by omega) hj
            · rw [if_neg h]
              obtain ⟨k, rfl⟩ : ∃ k, i = n + k := ⟨i - n, by omega⟩
              rw [hg2 k j (by omega) hj, Nat.add_sub_cancel_left, ← List.getD_eq_getElem?_getD]
              exact h1 k j (by omega) hj
          obtain ⟨q1, q2, q3⟩ := hH.setRow (w' := w.drew.alloc (.cells arr2 el)) (g' := g + 1) (b' := w.heap.size) (c' := c2) (xs' := xs.take n ++ ys) (arr' := arr2) (ty := el) (fr := (0, 0)) (hget_row hrow) hpl (by omega) (fun h => by omega) ⟨rfl, rfl, rfl⟩ (by simp)
            (fun b'' hlt2 _ => heap_alloc_old w.drew _ b'' hlt2) (.inr (Nat.le_refl _)) (heap_alloc_new w.drew _) hsz2 (unfrozen0 _) (by simp; omega)
            (fun i hi => by
              simp only [List.length_append, tl] at hi
              simp only [List.getD_eq_getElem?_getD (l := xs.take n ++ ys), List.getElem?_append, tl]
              by_cases h : i < n
              · rw [if_pos h, List.getElem?_take, if_pos h, ← List.getD_eq_getElem?_getD]; exact he i (by omega)
              · rw [if_neg h, ← List.getD_eq_getElem?_getD]; exact hl.el _ (by omega))
            (fun i j hi hj => hnew (fun _ u => u.oneCell' = true) (fun i j hi hj => hl.one i j hi hj) h1 i j hi hj)
            (fun m hm i j hi hj => hnew (fun v u => RV w (owned pl H) pl m v u) (hlow m hm) (hold m hm) i j hi hj)
          exact .value (hexec _ _ hrun) ⟨q1, rv_slc (by rw [hlen_hset]; exact hlt) (plSet_self ..) (by omega) (by simp) (by omega), q2, q3, by rw [hlen_hset]; omega⟩
        · omega
    · simp at hck
end
end Go.Ev
/- Each operation of compact code does what the model's operation does: append onto nil, maps. -/
namespace Go.Ev
open Go
set_option linter.unusedSimpArgs false
set_option linter.unusedVariables false

section
variable {P : Program} {cl : Callf} {G : Glob} {w : World} {pl : Pl} {Bd : Nat → Prop} {H : Hp} {env : Env} {a : Act}

theorem run_firstNone {e : Nat} {S : Option Addr} {c : Nat} {w' : World} : (Builtin.firstCells e 0 (.slice S 0 c)).run P w' = .ok #[] w' := by
  cases S with
  | none => exact run_firstCells_none w' _ _ _ _
  | some ad => simp [Builtin.firstCells, loadCells, loadCellsFrom]

theorem sim_appendNil (hG : GR G w (owned pl H)) (hH : HR w pl Bd H) (hE : RE w (owned pl H) pl (hlen H) env a) {o : Oper} {ags : Array Operand} {ts : Array TypeId} (ho : o.op = .call { callee := .builtin .append, args := ags, argTypes := ts }) {S X : Operand} {t : Nat} (has : ags.toList = [S, X]) (hts : ts.toList = [t, t])
    {s x : AOpd} (hs : opdOk s S = true) (hx : opdOk x X = true) {e b : Nat} (hck : (match sliceOf P t with | some el => hasZero P el e && (match P.info? el with | some i => Nat.beq i.bytes b | none => false) | none => false) = true) (hb : 0 < b)
    (hse : opd G env s = .nils e) (hxk : (opd G env x).ok = true) {ys : List V} {dat : Bool} {e' : Nat} (hsrc : src H (opd G env x) = some (e', ys, dat)) {v : V} {H' : Hp}
    (hv : (ys = [] ∧ v = .nils e ∧ H' = H) ∨ (e' = e ∧ 0 < ys.length ∧ ys.length * b ≤ room ∧ v = .slc (hlen H) 0 0 ys.length ∧ H' = hpush H (.row 0 e ys))) : OpSim P o a w pl Bd H v H' := by
  have hsv := opd_ok hs hG hE (by rw [hse]; rfl)
  have hxv := opd_ok hx hG hE hxk
  rw [hse] at hsv
  obtain ⟨A, cap, news, hxe, hcap, hl, hdat⟩ := src_lies hH hsrc hxv
  have has' : ags = #[S, X] := by apply Array.ext'; rw [has]
  have hts' : ts = #[t, t] := by apply Array.ext'; rw [hts]
  generalize hue : a.eval S = u at hsv
  cases hsv with
  | nils _ B =>
    split at hck
    · rename_i el hel
      have hds := sliceOf_some hel
      simp only [Bool.and_eq_true] at hck
      obtain ⟨k1, k2⟩ := hck
      obtain ⟨iz, uz, hi, hu, hus, his⟩ := hasZero_some k1
      rw [hi] at k2
      have k2 := Nat.eq_of_beq_eq_true k2
      have hexec : ∀ (r : Value) (w' : World), (Builtin.append_ #[t, t] o.type #[.slice B 0 0, .slice A ys.length cap]).run P w = .ok r w' → (execOp a.eval o).run P w = .ok (.value r) w' := by
        intro r w' h
        simp only [execOp, ho, resolve, has', hts', Sem.run_bind, Sem.run_pure, Result.andThen_ok, invoke, builtin, List.map_toArray, List.map_cons, List.map_nil, hue, hxe]
        rw [h]; rfl
      rcases hv with ⟨hy, rfl, rfl⟩ | ⟨rfl, hy, hrm, rfl, rfl⟩
      · subst hy
        refine .pure hH (u := .slice B 0 0) (hexec _ _ ?_) (.nils _ _)
        have hfc := run_firstNone (P := P) (e := iz.size) (S := A) (c := cap) (w' := w)
        cases B with
        | none => simp [Builtin.append_, run_underlying hds, sizeOf, typeInfo, hi, Builtin.lenOf, hfc]
        | some ad => simp [Builtin.append_, run_underlying hds, sizeOf, typeInfo, hi, Builtin.lenOf, hfc, storeCells]
      · have hcell : ∀ ad, w.drew.cell? ad = w.cell? ad := fun _ => rfl
        have hfc := run_firstLies (P := P) (cap := cap) hl (w' := w.drew) hcell
        have hfo := run_firstNone (P := P) (e := e') (S := B) (c := 0) (w' := w.drew)
        have hrun := run_grow (P := P) (ty := o.type) (olds := []) hds hi hu his k2 (n := 0) (c := 0) (by omega) hfo hfc (by rw [Nat.zero_add]; exact hrm) hb
        rw [Nat.zero_add] at hrun
        have hge := grownCap_ge w ys.length 0 el
        generalize hcap' : grownCap w ys.length 0 el = c2 at hrun hge
        let arr2 : Array Value := #[] ++ news.toArray ++ Builtin.zeroCells uz.cells (c2 - ys.length)
        have hsz2 : arr2.size = c2 * e' := by
          have h5 : c2 * e' = ys.length * e' + (c2 - ys.length) * e' := by rw [← Nat.add_mul]; congr 1; omega
          rw [h5]
          simp only [arr2, Array.empty_append, Array.size_append, List.size_toArray, size_zeroCells, hus, hl.len]
        have hg2 : ∀ i j, i < ys.length → j < e' → arr2.getD (i * e' + j) undef = news.getD (i * e' + j) undef := by
          intro i j hi hj
          have h3 := mul_add_lt hi hj
          simp only [arr2, Array.getD_eq_getD_getElem?, List.getD_eq_getElem?_getD, Array.empty_append]
          rw [Array.getElem?_append_left (by simp [hl.len]; omega)]
          simp
        obtain ⟨pl', h1, h2, h3, h4⟩ := fin_row hH (w' := w.drew.alloc (.cells arr2 el)) (e := e') (c := c2) (xs := ys) rfl ⟨rfl, rfl, rfl⟩ hsz2 (unfrozen0 _) hge hl.el
          (fun i j hi hj => by rw [hg2 i j hi hj]; exact hl.rel i j hi hj)
          (fun i j hi hj => by rw [hg2 i j hi hj]; exact hl.one i j hi hj)
        exact .value (hexec _ _ hrun) ⟨h2, rv_slc (by rw [hlen_hpush]; omega) h1 (by omega) (by simp) (by omega), h3, h4, by rw [hlen_hpush]; omega⟩
    · simp at hck

/-! ### Maps -/
theorem sim_mkmap (hH : HR w pl Bd H) {o : Oper} {t : Nat} {r : Option Operand} (hc : (match r with | none => true | some (.const (.int _ _)) => descIs P t (fun | .map _ _ => true | _ => false) | _ => false) = true) (ho : o.op = .makeMap t r) :
    OpSim P o a w pl Bd H (.mref (hlen H)) (hpush H (.map [] [])) := by
  have hpl : PlExt (hlen H) pl (plNew pl (hlen H) (w.heap.size, 0, 0)) := fun r hr g p hp => by rw [plNew_ne (by omega)]; exact hp
  obtain ⟨h2, h3, h4⟩ := hH.push (w' := { w with heap := w.heap.push (.map #[] 0) }) (.map [] []) (.map #[] 0) 0 0 rfl ⟨rfl, rfl, rfl⟩ (by simp [blk, hget_hpush_self, plNew_self]) (fun O' E =>
    .map [] [] w.heap.size 0 0 #[] 0 (plNew_self ..) (by simp) rfl rfl (fun i hi => by simp at hi) (fun i hi => by simp at hi))
  have hrun : (execOp a.eval o).run P w = .ok (.value (.map (some w.heap.size))) { w with heap := w.heap.push (.map #[] 0) } := by
    simp only [execOp, ho]
    split at hc
    · simp [Instr.makeMap]
    · rename_i k n
      obtain ⟨ds, hds, hk⟩ := descIs_some hc
      cases ds <;> simp at hk
      simp [Instr.makeMap, run_underlying hds, asInt, asIntOf, Act.eval]
    · simp at hc
  exact .value hrun ⟨h2, .mref _ _ _ _ (by rw [hlen_hpush]; omega) (plNew_self ..), h3, h4, by rw [hlen_hpush]; omega⟩

theorem run_checkKey {t : Nat} (hk : descIs P t isKey = true) (b : Bool) (n : Nat) (v : Value) : (Instr.checkKey b (n + 1) t v).run P w = .ok () w := by
  obtain ⟨ds, hds, hk⟩ := descIs_some hk
  cases ds <;> simp [isKey] at hk <;> simp [Instr.checkKey, run_underlying hds]

theorem beq_str {s : ByteArray} {l : List UInt8} {t : ByteArray} {l' : List UInt8} (h : s.toList = l) (h' : t.toList = l') : (s == t) = decide (l = l') := by
  rw [beq_toListBytes, h, h', Bool.eq_iff_iff]; simp

theorem findNow_look {kd : D} {u : Value} {O : Own} (hu : RD w O kd u) {α : Type} : ∀ (ks : List D) (vs : List α) (es : List MapEntry) (i : Nat) (r : Option α), look kd ks vs = some r → es.length = ks.length → (∀ j, j < ks.length → RD w O (ks.getD j .nilp) (es.getD j default).key) →
    ∃ res, Instr.findNow .string u es i = some res ∧ ((r = none ∧ res = none) ∨ ∃ j x, r = some x ∧ vs[j]? = some x ∧ j < es.length ∧ res = some (i + j, (es.getD j default).val))
  | [], vs, es, i, r, h, hl, _ => by
    have : es = [] := List.eq_nil_of_length_eq_zero (by simpa using hl)
    subst this
    simp [look] at h; subst h
    exact ⟨none, rfl, .inl ⟨rfl, rfl⟩⟩
  | k :: ks, [], es, i, r, h, _, _ => by simp [look] at h
  | k :: ks, v :: vs, es, i, r, h, hl, hk => by
    match es, hl with
    | e :: es, hl =>
      have hk0 := hk 0 (by simp)
      simp only [List.getD_cons_zero] at hk0
      simp only [look] at h
      split at h
      · rename_i heq
        simp at h; subst h
        unfold keyEq at heq
        split at heq
        · rename_i p q
          simp at heq; subst heq
          obtain ⟨t1, rfl, e1, _⟩ := hu.str_eq
          obtain ⟨t2, h2, e2, _⟩ := hk0.str_eq
          refine ⟨some (i, e.val), ?_, .inr ⟨0, v, rfl, rfl, by simp, rfl⟩⟩
          simp only [Instr.findNow, h2, Instr.sameNow, beq_str e1 e2]
          simp
        · simp at heq
      · rename_i heq
        unfold keyEq at heq
        split at heq
        · rename_i p q
          simp at heq
          obtain ⟨t1, rfl, e1, _⟩ := hu.str_eq
          obtain ⟨t2, h2, e2, _⟩ := hk0.str_eq
          obtain ⟨res, r1, r2⟩ := findNow_look hu ks vs es (i + 1) r h (by simpa using hl) (fun j hj => by have := hk (j + 1) (by simpa using hj); simpa using this)
          refine ⟨res, ?_, ?_⟩
          · simp only [Instr.findNow, h2, Instr.sameNow, beq_str e1 e2]
            simp only [heq, decide_false]
            exact r1
          · rcases r2 with r2 | ⟨j, x, h1, h2, h3, h4⟩
            · exact .inl r2
            · exact .inr ⟨j + 1, x, h1, by simpa using h2, by simpa using h3, by rw [h4, show i + 1 + j = i + (j + 1) by omega]; rfl⟩
        · simp at heq
      · simp at h

theorem mapOf_some {t : Nat} {f : Nat → Nat → Bool} (h : (match P.underlying t with | some (.map kt et) => f kt et | _ => false) = true) : ∃ kt et, P.underlying t = some (.map kt et) ∧ f kt et = true := by
  split at h
  · rename_i kt et hd; exact ⟨kt, et, hd, h⟩
  · simp at h

theorem sim_lookup (hG : GR G w (owned pl H)) (hH : HR w pl Bd H) (hE : RE w (owned pl H) pl (hlen H) env a) {o : Oper} {t : Nat} {M K : Operand} {ok : Bool} (ho : o.op = .lookup t M K ok) {z : D} {m k : AOpd} (hm : opdOk m M = true) (hk : opdOk k K = true)
    (hc : (match P.underlying t with | some (.map kt et) => descIs P kt isKey && zeroIs P et (.d z) | _ => false) = true) {ks vs : List D} (hme : opd G env m = .d (.mval ks vs)) {kd : D} (hke : opd G env k = .d kd) {r : Option D} (hl : look kd ks vs = some r) {v : V}
    (hv : (∃ x, r = some x ∧ v = (bif ok then .tup [.d x, .d (.bool true)] else .d x)) ∨ (r = none ∧ v = (bif ok then .tup [.d z, .d (.bool false)] else .d z))) : OpSim P o a w pl Bd H v H := by
  have hmv := opd_ok hm hG hE (by rw [hme]; rfl)
  have hkv := opd_ok hk hG hE (by rw [hke]; rfl)
  rw [hme] at hmv
  rw [hke] at hkv
  obtain ⟨kt, et, hund, hf⟩ := mapOf_some hc
  simp only [Bool.and_eq_true] at hf
  obtain ⟨f1, f2⟩ := hf
  obtain ⟨iz, uz, hi, hu, hcst, _⟩ := zeroIs_some f2
  have hzr := (vcstOk_ok (w := w) (O := owned pl H) (pl := pl) (n := hlen H) hcst).dd
  obtain ⟨dk, hdk, hdk2⟩ := descIs_some f1
  have hdk3 : P.underlying kt = some .string := by cases dk <;> simp [isKey] at hdk2; exact hdk
  have hmd := hmv.dd
  have hkd := hkv.dd
  suffices hs : ∃ x u, (Instr.lookup t (a.eval M) (a.eval K) ok).run P w = .ok (if ok then .tuple #[u, .bool x] else u) w ∧ ((∃ y, r = some y ∧ x = true ∧ RD w (owned pl H) y u) ∨ (r = none ∧ x = false ∧ u = uz)) by
    obtain ⟨x, u, hrun, hcase⟩ := hs
    have htup : ∀ (y : D) (b : Bool), RD w (owned pl H) y u → RV w (owned pl H) pl (hlen H) (bif ok then .tup [.d y, .d (.bool b)] else .d y) (if ok then .tuple #[u, .bool b] else u) := by
      intro y b hy
      cases ok
      · exact .d _ _ hy
      · refine .tup _ _ rfl fun i hi => ?_
        match i, hi with
        | 0, _ => exact .d _ _ hy
        | 1, _ => exact .d _ _ (.bool _)
        | n + 2, hi => simp at hi; omega
    refine .pure hH (u := if ok then .tuple #[u, .bool x] else u) (by simp only [execOp, ho]; rw [Sem.run_bind, hrun]; rfl) ?_
    rcases hv with ⟨y, hy, rfl⟩ | ⟨hn, rfl⟩
    · rcases hcase with ⟨y', hy', rfl, hrd⟩ | ⟨hn, _⟩
      · rw [hy] at hy'
        simp only [Option.some.injEq] at hy'
        subst hy'
        exact htup _ _ hrd
      · rw [hy] at hn; simp at hn
    · rcases hcase with ⟨y', hy', _⟩ | ⟨_, rfl, rfl⟩
      · rw [hn] at hy'; simp at hy'
      · exact htup _ _ hzr
  generalize a.eval M = um at *
  generalize a.eval K = uk at *
  cases hmd with
  | mval0 =>
    simp [look] at hl; subst hl
    refine ⟨false, uz, ?_, .inr ⟨rfl, rfl, rfl⟩⟩
    have hfk : (Instr.findKey kt uk []).run P w = .ok none w := by simp [Instr.findKey, run_underlying hdk3, Instr.findNow]
    cases ok <;> simp [Instr.lookup, run_underlying hund, run_checkKey f1, hfk, zeroValue, typeInfo, hi, hu]
  | mval _ _ b es clock hO hb hheap hk1 hv1 hrk hrv =>
    obtain ⟨res, r1, r2⟩ := findNow_look hkd ks vs es.toList 0 r hl (by simpa using hk1) (fun j hj => by have := hrk j (by omega); simpa [List.getD_eq_getElem?_getD, Array.getD_eq_getD_getElem?] using this)
    have hfk : (Instr.findKey kt uk es.toList).run P w = .ok res w := by simp [Instr.findKey, run_underlying hdk3, r1]
    rcases r2 with ⟨rfl, rfl⟩ | ⟨j, x, rfl, hj1, hj2, rfl⟩
    · refine ⟨false, uz, ?_, .inr ⟨rfl, rfl, rfl⟩⟩
      cases ok <;> simp [Instr.lookup, run_underlying hund, run_checkKey f1, hfk, zeroValue, typeInfo, hi, hu, getObj, Sem.run, hheap]
    · have hj3 : j < es.size := by simpa using hj2
      have hx : vs.getD j .nilp = x := by simp [List.getD_eq_getElem?_getD, hj1]
      have hrd := hrv j hj3
      rw [hx] at hrd
      refine ⟨true, (es.getD j default).val, ?_, .inl ⟨x, rfl, rfl, hrd⟩⟩
      have hgd : es.toList.getD j default = es.getD j default := by simp [List.getD_eq_getElem?_getD, Array.getD_eq_getD_getElem?]
      cases ok <;> simp [Instr.lookup, run_underlying hund, run_checkKey f1, hfk, zeroValue, typeInfo, hi, hu, getObj, Sem.run, hheap, hgd, hj3]
end
end Go.Ev

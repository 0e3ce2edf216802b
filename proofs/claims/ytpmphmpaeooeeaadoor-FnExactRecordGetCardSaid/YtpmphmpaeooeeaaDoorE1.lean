/- An abstract evaluator for the model's code: values without addresses (D), values with references into an abstract heap (V), compact code (ACode), and its meaning as partial functions. -/
import Derived.Calls
import Derived.Orders
namespace Go.Ev
open Go
set_option linter.unusedSimpArgs false
set_option linter.unusedVariables false

/-- Data without references: what it stands for never changes. -/
inductive D where
  | bool (b : Bool)
  | int (k : IntKind) (n : Int)
  | str (s : List UInt8)
  | agg (cs : List D)
  | vals (e : Nat) (xs : List D)
  | nilp
  | rptr (cs : List D)
  | fn (f : Fn) (caps : List D)
  | nilfn
  | iface (t : Nat) (x : D)
  | niface
  | mval (ks vs : List D)
  deriving Inhabited

/-- Values of a walk: data, or references into the abstract heap. -/
inductive V where
  | d (x : D)
  | agg (cs : List V)
  | tup (vs : List V)
  | slc (r g i n : Nat)
  | ptr (r g i j : Nat)
  | fn (f : Fn) (caps : List V)
  | mref (r : Nat)
  | nils (e : Nat)
  | und
  | any
  deriving Inhabited

inductive Obj where
  | dead
  | row (g e : Nat) (xs : List V)
  | map (ks vs : List V)
  deriving Inhabited

abbrev Hp := List Obj
abbrev Env := List (Nat × V)

def Env.get : Env → Nat → V
  | [], _ => .any
  | (k, v) :: r, t => bif Nat.beq k t then v else Env.get r t

def D.cells : D → List D
  | .agg cs => cs
  | x => [x]

def V.cells : V → List V
  | .agg cs => cs
  | .d (.agg cs) => cs.map .d
  | v => [v]

/-- Can be laid into memory. -/
def V.sto : V → Bool
  | .any => false
  | .und => false
  | .tup _ => false
  | _ => true
/-- Is known. -/
def V.ok : V → Bool
  | .any => false
  | _ => true

def V.isAgg : V → Bool
  | .agg _ => true
  | .d (.agg _) => true
  | _ => false

def allD : List V → Option (List D)
  | [] => some []
  | .d x :: r =>
    match allD r with
    | some xs => some (x :: xs)
    | none => none
  | _ :: _ => none

def mkAgg (cs : List V) : V :=
  match allD cs with
  | some ds => .d (.agg ds)
  | none => .agg cs

/-- A value of cells, by its type's being an aggregate or not. -/
def mkVal (ag : Bool) (cs : List V) : Option V :=
  match ag, cs with
  | true, cs => some (mkAgg cs)
  | false, [v] => some v
  | false, _ => none

def reCell (x : V) (cs : List V) : Option V :=
  match x.isAgg, cs with
  | true, cs => some (mkAgg cs)
  | false, [v] => (match v.isAgg with | true => none | false => some v)
  | false, _ => none

/-! ### The heap -/
def hget : Hp → Nat → Option Obj
  | [], _ => none
  | o :: _, 0 => some o
  | _ :: h, r + 1 => hget h r

def hset : Hp → Nat → Obj → Hp
  | [], _, _ => []
  | _ :: h, 0, o => o :: h
  | x :: h, r + 1, o => x :: hset h r o

def hpush (H : Hp) (o : Obj) : Hp := H ++ [o]
def hlen (H : Hp) : Nat := H.length
def htake (H : Hp) (n : Nat) : Hp := H.take n

def rowOf (H : Hp) (r g : Nat) : Option (Nat × List V) :=
  match hget H r with
  | some (.row g' e xs) => bif Nat.beq g' g then some (e, xs) else none
  | _ => none

def hload (H : Hp) (r g i j n : Nat) : Option (List V) :=
  match rowOf H r g with
  | some (_, xs) =>
    match xs[i]? with
    | some x => if j + n ≤ x.cells.length then some ((x.cells.drop j).take n) else none
    | none => none
  | none => none

def hstore (H : Hp) (r g i j : Nat) (vs : List V) : Option Hp :=
  match rowOf H r g with
  | some (e, xs) =>
    match xs[i]? with
    | some x =>
      if j + vs.length ≤ x.cells.length then
        match reCell x (x.cells.take j ++ vs ++ x.cells.drop (j + vs.length)) with
        | some y => some (hset H r (.row g e (xs.set i y)))
        | none => none
      else none
    | none => none
  | none => none

/-! ### Freezing: references turned into data -/
def mapO {α β : Type} (f : α → Option β) : List α → Option (List β)
  | [] => some []
  | a :: r =>
    match f a with
    | some b =>
      match mapO f r with
      | some bs => some (b :: bs)
      | none => none
    | none => none

/-- References to objects from number n on become data. -/
def fz (n : Nat) : Nat → Hp → V → Option D
  | 0, _, v =>
    match v with
    | .d x => some x
    | _ => none
  | d + 1, H, v =>
    match v with
    | .d x => some x
    | .nils e => some (.vals e [])
    | .agg cs =>
      match mapO (fz n d H) cs with
      | some xs => some (.agg xs)
      | none => none
    | .slc r g i k =>
      if r < n then none else
      match rowOf H r g with
      | some (e, xs) =>
        if i + k ≤ xs.length then
          match mapO (fz n d H) ((xs.drop i).take k) with
          | some ys => some (.vals e ys)
          | none => none
        else none
      | none => none
    | .ptr r g i j =>
      if r < n then none else
      match rowOf H r g with
      | some (_, xs) =>
        match xs[i]? with
        | some x =>
          match mapO (fz n d H) (x.cells.drop j) with
          | some ys => some (.rptr ys)
          | none => none
        | none => none
      | none => none
    | .fn f caps =>
      match mapO (fz n d H) caps with
      | some xs => some (.fn f xs)
      | none => none
    | .mref r =>
      if r < n then none else
      match hget H r with
      | some (.map ks vs) =>
        match mapO (fz n d H) ks, mapO (fz n d H) vs with
        | some a, some b => some (.mval a b)
        | _, _ => none
      | _ => none
    | _ => none

/-- How deep data may lie. -/
def deep : Nat := 8

/-- What a function hands back: references to objects of its own (numbers from n on) become data; those to elder objects stay. -/
def fzC (n : Nat) (H : Hp) (v : V) : Option V :=
  match v with
  | .d x => some (.d x)
  | .slc r g i k => if r < n then some (.slc r g i k) else (match fz n deep H v with | some x => some (.d x) | none => none)
  | .ptr r g i j => if r < n then some (.ptr r g i j) else (match fz n deep H v with | some x => some (.d x) | none => none)
  | v => (match fz n deep H v with | some x => some (.d x) | none => none)

def fzV (n : Nat) (H : Hp) (v : V) : Option V :=
  match v with
  | .d x => some (.d x)
  | .agg cs => match mapO (fzC n H) cs with
    | some xs => some (mkAgg xs)
    | none => none
  | v => fzC n H v

/-- Only data, and references to objects ahead of r. -/
def lowIn1 (r : Nat) : V → Bool
  | .d _ => true
  | .nils _ => true
  | .slc r' _ _ _ => Nat.blt r' r
  | .ptr r' _ _ _ => Nat.blt r' r
  | _ => false
def lowIn (r : Nat) : V → Bool
  | .d _ => true
  | .agg cs => cs.all (lowIn1 r)
  | v => lowIn1 r v
/-- May v be laid into object r, in a call that n0 objects lay before? -/
def okIn (n0 r : Nat) (v : V) : Bool := lowIn r v || Nat.ble n0 r

/-- One cell of what a function hands back whose slices come back as rows of its caller's: they are laid behind base. -/
def own1 (n : Nat) (H base : Hp) : V → Option (V × Hp × Hp)
  | .d x => some (.d x, H, base)
  | .nils e => some (.nils e, H, base)
  | .slc r g i k =>
    if r < n then some (.slc r g i k, H, base) else
    match rowOf H r g with
    | some (e, xs) =>
      match i, allD xs with
      | 0, some _ => some (.slc (hlen base) 0 0 k, hset H r .dead, hpush base (.row 0 e xs))
      | _, _ => none
    | none => none
  | .ptr r g i j =>
    if r < n then some (.ptr r g i j, H, base) else
    match rowOf H r g with
    | some (e, xs) =>
      match allD xs with
      | some _ => some (.ptr (hlen base) 0 i j, hset H r .dead, hpush base (.row 0 e xs))
      | none => none
    | none => none
  | _ => none

def ownCs (f : Hp → Hp → V → Option (V × Hp × Hp)) : Hp → Hp → List V → Option (List V × Hp × Hp)
  | H, base, [] => some ([], H, base)
  | H, base, v :: r =>
    match f H base v with
    | some (x, H, base) =>
      match ownCs f H base r with
      | some (xs, H, base) => some (x :: xs, H, base)
      | none => none
    | none => none

def ownEl (f : Hp → Hp → V → Option (V × Hp × Hp)) (H base : Hp) : V → Option (V × Hp × Hp)
  | .agg cs => (match ownCs f H base cs with | some (ys, H, base) => some (mkAgg ys, H, base) | none => none)
  | v => f H base v

def ownEs (f : Hp → Hp → V → Option (V × Hp × Hp)) : Hp → Hp → List V → Option (List V × Hp × Hp)
  | H, base, [] => some ([], H, base)
  | H, base, v :: r =>
    match ownEl f H base v with
    | some (x, H, base) =>
      match ownEs f H base r with
      | some (xs, H, base) => some (x :: xs, H, base)
      | none => none
    | none => none

/-- A row whose elements are rows themselves: these go first. -/
def layer (n : Nat) (f : Hp → Hp → V → Option (V × Hp × Hp)) (H base : Hp) (v : V) : Option (V × Hp × Hp) :=
  match own1 n H base v with
  | some r => some r
  | none =>
    match v with
    | .slc r g 0 k =>
      if r < n then none else
      match rowOf H r g with
      | some (e, xs) =>
        match ownEs f H base xs with
        | some (ys, H1, base1) =>
          match rowOf H1 r g with
          | some _ => some (.slc (hlen base1) 0 0 k, hset H1 r .dead, hpush base1 (.row 0 e ys))
          | none => none
        | none => none
      | none => none
    | _ => none

def ownL (n : Nat) (H base : Hp) (vs : List V) : Option (List V × Hp × Hp) := ownEs (layer n (layer n (layer n (own1 n)))) H base vs

/-! ### Code -/
inductive AOpd where
  | t (n : Nat)
  | c (x : D)
  | f (k : Nat)
  | g (n : Nat)
  | nil (e : Nat)
  | u
  deriving Inhabited

/-- Operands' kinds at == and !=. -/
inductive SK where
  | i | s | b
  deriving DecidableEq, Inhabited
inductive BTy where
  | val | bool | iface
  | agg (ks : List SK)
  deriving DecidableEq, Inhabited

inductive AOp where
  | mv (x : AOpd)
  | pick (c a b : AOpd)
  | alloc (z : V)
  | box (x : AOpd)
  | build (z : List V) (parts : List (Nat × Nat × AOpd))
  | lit (own : Bool) (e : Nat) (parts : List AOpd)
  | load (ag : Bool) (n : Nat) (a : AOpd)
  | store (n : Nat) (a x : AOpd)
  | nilck (x : AOpd)
  | bin (op : BinOp) (ty : BTy) (x y : AOpd)
  | un (op : UnOp) (x : AOpd)
  | cvInt (k : IntKind) (x : AOpd)
  | cvId (x : AOpd)
  | cvStr (x : AOpd)
  | mkfn (f : Fn) (caps : List AOpd)
  | mkmap
  | insert (m k v : AOpd)
  | lookup (z : D) (m k : AOpd) (ok : Bool)
  | mkslice (e bytes : Nat) (z : V) (len cap : AOpd)
  | slice (e : Option Nat) (x : AOpd) (lo hi : Option AOpd)
  | faddr (off : Nat) (x : AOpd)
  | field (ag : Bool) (off n : Nat) (x : AOpd)
  | iaddr (e : Nat) (x i : AOpd)
  | idx (x i : AOpd)
  | extract (x : AOpd) (i : Nat)
  | mkiface (t : Nat) (x : AOpd)
  | call (f : AOpd) (args : List (Bool × AOpd)) (fr : Bool)
  | pcall (f : AOpd) (args : List AOpd)
  | len (str : Bool) (x : AOpd)
  | append (e bytes : Nat) (s x : AOpd)
  | mnmx (mx : Bool) (xs : List AOpd)
  deriving Inhabited

structure AOper where
  dst : Option Nat
  guard : Option (Nat × Bool)
  op : AOp
  deriving Inhabited

inductive ACode where
  | skip
  | reg (draw : Bool) (ops : List AOper)
  | seq (a : ACode) (lv : List Nat) (b : ACode)
  | cond (c : AOpd) (a b : ACode)
  | block (id : Nat) (b : ACode)
  | loop (lv : List Nat) (b : ACode)
  | scope (b : ACode)
  | exit (id : Nat)
  | ret
  deriving Inhabited

inductive ARes where
  | tmp (t : Nat)
  | cell (t : Nat) (ag : Bool) (n : Nat)
  deriving Inhabited

structure AFunc where
  np : Nat
  nt : Nat
  res : List ARes
  own : Bool
  body : ACode
  deriving Inhabited

structure St where
  env : Env
  hp : Hp

inductive Out where
  | normal
  | exit (id : Nat)
  | ret
  deriving DecidableEq

abbrev Callf := Nat → List V → Hp → Option (V × Hp)
abbrev Glob := Nat → Option (List D)

/-! ### What an operation gives -/
def opd (G : Glob) (env : Env) : AOpd → V
  | .t n => env.get n
  | .c x => .d x
  | .f k => .d (.fn (.func k) [])
  | .g n => match G n with | some cs => .d (.rptr cs) | none => .any
  | .nil e => .nils e
  | .u => .und

def bitsOp (op : BinOp) (k : IntKind) (x y : Int) : Option Int :=
  match op with
  | .and => some (k.wrap ((BitVec.ofInt k.bits x &&& BitVec.ofInt k.bits y).toNat : Int))
  | .or => some (k.wrap ((BitVec.ofInt k.bits x ||| BitVec.ofInt k.bits y).toNat : Int))
  | .xor => some (k.wrap ((BitVec.ofInt k.bits x ^^^ BitVec.ofInt k.bits y).toNat : Int))
  | .andNot => some (k.wrap ((BitVec.ofInt k.bits x &&& ~~~(BitVec.ofInt k.bits y)).toNat : Int))
  | _ => none

def binInt (op : BinOp) (k : IntKind) (x y : Int) : Option D :=
  match op with
  | .add => some (.int k (k.wrap (x + y)))
  | .sub => some (.int k (k.wrap (x - y)))
  | .mul => some (.int k (k.wrap (x * y)))
  | .quo => if y = 0 then none else some (.int k (k.wrap (x.tdiv y)))
  | .rem => if y = 0 then none else some (.int k (x.tmod y))
  | .eql => some (.bool (decide (x = y)))
  | .neq => some (.bool (!decide (x = y)))
  | .lss => some (.bool (decide (x < y)))
  | .leq => some (.bool (decide (x ≤ y)))
  | .gtr => some (.bool (decide (x > y)))
  | .geq => some (.bool (decide (x ≥ y)))
  | op =>
    match bitsOp op k x y with
    | some n => some (.int k n)
    | none => none

def shInt (op : BinOp) (k : IntKind) (x y : Int) : Option D :=
  if y < 0 then none else
  match op with
  | .shl => some (.int k (k.wrap (x * 2 ^ (min y.toNat k.bits))))
  | .shr => some (.int k (x.fdiv (2 ^ (min y.toNat k.bits))))
  | _ => none

/-- How long a string may grow in one step. -/
def strRoom : Nat := 9223372036854775807

def binStr (op : BinOp) (x y : List UInt8) : Option D :=
  match op with
  | .add => if x.length + y.length ≤ strRoom then some (.str (x ++ y)) else none
  | .eql => some (.bool (decide (x = y)))
  | .neq => some (.bool (!decide (x = y)))
  | .lss => some (.bool (Op.bytesLess x y))
  | .leq => some (.bool (Op.bytesLess x y || decide (x = y)))
  | .gtr => some (.bool (!(Op.bytesLess x y || decide (x = y))))
  | .geq => some (.bool (!Op.bytesLess x y))
  | _ => none

/-- Two values of one scalar kind. -/
def scalEq : SK → D → D → Option Bool
  | .i, .int k a, .int k' b => if k = k' then some (decide (a = b)) else none
  | .s, .str a, .str b => some (decide (a = b))
  | .b, .bool a, .bool b => some (a == b)
  | _, _, _ => none

def scalEqs : List SK → List D → List D → Option Bool
  | [], [], [] => some true
  | k :: ks, a :: as, b :: bs =>
    match scalEq k a b, scalEqs ks as bs with
    | some x, some y => some (x && y)
    | _, _ => none
  | _, _, _ => none

def eqOf (ty : BTy) (x y : D) : Option Bool :=
  match ty, x, y with
  | .bool, .bool a, .bool b => some (a == b)
  | .agg ks, .agg a, .agg b => scalEqs ks a b
  | .iface, .niface, .niface => some true
  | .iface, .niface, .iface _ _ => some false
  | .iface, .iface _ _, .niface => some false
  | _, _, _ => none

def binD (op : BinOp) (ty : BTy) (x y : D) : Option D :=
  match ty with
  | .val =>
    match op, x, y with
    | .shl, .int k a, .int _ b => shInt .shl k a b
    | .shr, .int k a, .int _ b => shInt .shr k a b
    | op, .int k a, .int k' b => if k = k' then binInt op k a b else none
    | op, .str a, .str b => binStr op a b
    | _, _, _ => none
  | ty =>
    match op with
    | .eql => match eqOf ty x y with | some b => some (.bool b) | none => none
    | .neq => match eqOf ty x y with | some b => some (.bool !b) | none => none
    | _ => none

def unD (op : UnOp) (x : D) : Option D :=
  match op, x with
  | .neg, .int k n => some (.int k (k.wrap (-n)))
  | .not, .bool b => some (.bool !b)
  | _, _ => none

/-- A slice's elements, as values; cells an element; and whether they are data. -/
def src (H : Hp) : V → Option (Nat × List V × Bool)
  | .d (.vals e xs) => some (e, xs.map .d, true)
  | .nils e => some (e, [], true)
  | .slc r g i n =>
    match rowOf H r g with
    | some (e, xs) => if i + n ≤ xs.length then some (e, (xs.drop i).take n, false) else none
    | none => none
  | _ => none

def strOf : List V → Option (List UInt8)
  | [] => some []
  | .d (.int .u8 n) :: r =>
    match strOf r with
    | some s => some (UInt8.ofNat n.toNat :: s)
    | none => none
  | _ :: _ => none

def setAt (cs : List V) (off : Nat) (vs : List V) : List V := cs.take off ++ vs ++ cs.drop (off + vs.length)

def fills (G : Glob) (env : Env) : List V → List (Nat × Nat × AOpd) → Option (List V)
  | cs, [] => some cs
  | cs, (off, n, x) :: r =>
    if (opd G env x).sto = true ∧ (opd G env x).cells.length = n ∧ off + n ≤ cs.length then fills G env (setAt cs off (opd G env x).cells) r else none

def asI : V → Option Int
  | .d (.int _ n) => some n
  | _ => none

def bound (G : Glob) (env : Env) (dflt : Nat) (lim : Nat) : Option AOpd → Option Nat
  | none => some dflt
  | some x =>
    match asI (opd G env x) with
    | some n => if 0 ≤ n ∧ n ≤ (lim : Int) then some n.toNat else none
    | none => none

def keyEq : D → D → Option Bool
  | .str a, .str b => some (decide (a = b))
  | _, _ => none

def look {α : Type} (k : D) : List D → List α → Option (Option α)
  | [], _ => some none
  | x :: xs, v :: vs =>
    match keyEq k x with
    | some true => some (some v)
    | some false => look k xs vs
    | none => none
  | _ :: _, [] => none

def mnmx2 (mx : Bool) : V → V → Option V
  | .d (.int k x), .d (.int k' y) => if k = k' then some (.d (.int k (bif mx then (if y > x then y else x) else (if y < x then y else x)))) else none
  | _, _ => none

def mnmxL (mx : Bool) : V → List V → Option V
  | x, [] => some x
  | x, y :: r => match mnmx2 mx x y with | some z => mnmxL mx z r | none => none

open Classical in
/-- A call that leaves every heap as it is. -/
noncomputable def pureCall (cl : Callf) (f : Nat) (args : List V) : Option V :=
  if h : ∃ v, ∀ H, cl f args H = some (v, H) then some h.choose else none

theorem pureCall_eq {cl : Callf} {f : Nat} {args : List V} {v : V} (h : ∀ H, cl f args H = some (v, H)) : pureCall cl f args = some v := by
  unfold pureCall
  have hx : ∃ v, ∀ H, cl f args H = some (v, H) := ⟨v, h⟩
  rw [dif_pos hx]
  have h1 := hx.choose_spec []
  rw [h []] at h1
  simp only [Option.some.injEq, Prod.mk.injEq, and_true] at h1
  rw [← h1]

def isData : V → Bool
  | .d _ => true
  | _ => false

def flatD : D → Bool
  | .bool _ => true
  | .int _ _ => true
  | .str _ => true
  | _ => false

def flatV : V → Bool
  | .d x => flatD x
  | .tup vs => vs.all fun v => match v with | .d x => flatD x | _ => false
  | _ => false

/-- A value looked at as data, its own references alone. -/
def view1 (H : Hp) : V → Option D
  | .d x => some x
  | .nils e => some (.vals e [])
  | .slc r g i k =>
    match rowOf H r g with
    | some (e, xs) =>
      if i + k ≤ xs.length then
        match allD xs with
        | some ds => some (.vals e ((ds.drop i).take k))
        | none => none
      else none
    | none => none
  | .ptr r g i j =>
    match rowOf H r g with
    | some (_, xs) =>
      match allD xs with
      | some ds =>
        if i < ds.length then some (.rptr ((ds.getD i .nilp).cells.drop j)) else none
      | none => none
    | none => none
  | _ => none
def view (H : Hp) : V → Option D
  | .fn f caps => match mapO (view1 H) caps with | some xs => some (.fn f xs) | none => none
  | .agg cs => match mapO (view1 H) cs with | some xs => some (.agg xs) | none => none
  | v => match view1 H v with | some x => some x | none => fz 0 deep H v

/-- Arguments that are handed over: with true a slice becomes data, its row being given up. -/
def hand (G : Glob) (env : Env) : Hp → List (Bool × AOpd) → Option (List V × Hp)
  | H, [] => some ([], H)
  | H, (k, x) :: r =>
    let v := opd G env x
    match (match k, v with
      | true, .slc r g i n => (match view1 H (.slc r g i n) with | some x => some (.d x, hset H r .dead) | none => none)
      | _, v => if v.ok = true then some (v, H) else none) with
    | some (v, H) =>
      match hand G env H r with
      | some (vs, H) => some (v :: vs, H)
      | none => none
    | none => none

/-- Most bytes of a slice that grows. -/
def room : Nat := 140737488355328

noncomputable def evOp (cl : Callf) (G : Glob) (n0 : Nat) (env : Env) (H : Hp) : AOp → Option (V × Hp)
  | .mv x => if (opd G env x).ok = true then some (opd G env x, H) else none
  | .pick c a b =>
    match opd G env c with
    | .d (.bool t) => if (bif t then opd G env a else opd G env b).ok = true then some ((bif t then opd G env a else opd G env b), H) else none
    | _ => none
  | .alloc z => if z.sto = true then some (.ptr (hlen H) 0 0 0, hpush H (.row 0 z.cells.length [z])) else none
  | .box x => if (opd G env x).sto = true then some (.ptr (hlen H) 0 0 0, hpush H (.row 0 (opd G env x).cells.length [opd G env x])) else none
  | .build z parts =>
    match fills G env z parts with
    | some cs => some (mkAgg cs, H)
    | none => none
  | .lit own e parts =>
    let vs := parts.map (opd G env)
    if vs.all (fun v => Nat.beq v.cells.length e && v.sto) = true then
      match own with
      | true => some (.slc (hlen H) 0 0 vs.length, hpush H (.row 0 e vs))
      | false => match allD vs with | some xs => some (.d (.vals e xs), H) | none => none
    else none
  | .load ag n a =>
    match opd G env a with
    | .ptr r g i j =>
      match hload H r g i j n with
      | some cs => match mkVal ag cs with | some v => some (v, H) | none => none
      | none => none
    | .d (.rptr cs) =>
      if n ≤ cs.length then match mkVal ag ((cs.take n).map .d) with | some v => some (v, H) | none => none else none
    | _ => none
  | .store n a x =>
    match opd G env a with
    | .ptr r g i j =>
      let vs := (opd G env x).cells
      if vs.length = n ∧ (opd G env x).sto = true ∧ okIn n0 r (opd G env x) = true then
        match hstore H r g i j vs with
        | some H' => some (.und, H')
        | none => none
      else none
    | _ => none
  | .nilck x =>
    match opd G env x with
    | .ptr r g i j => some (.ptr r g i j, H)
    | .d (.rptr cs) => some (.d (.rptr cs), H)
    | .fn (.func k) caps => some (.fn (.func k) caps, H)
    | .d (.fn (.func k) caps) => some (.d (.fn (.func k) caps), H)
    | _ => none
  | .bin op ty x y =>
    match opd G env x, opd G env y with
    | .d a, .d b => match binD op ty a b with | some z => some (.d z, H) | none => none
    | _, _ => none
  | .un op x =>
    match opd G env x with
    | .d a => match unD op a with | some z => some (.d z, H) | none => none
    | _ => none
  | .cvInt k x =>
    match opd G env x with
    | .d (.int _ n) => some (.d (.int k (k.wrap n)), H)
    | _ => none
  | .cvId x =>
    match opd G env x with
    | .d (.str s) => some (.d (.str s), H)
    | _ => none
  | .cvStr x =>
    match src H (opd G env x) with
    | some (e, vs, _) => match strOf vs with | some s => if e = 1 then some (.d (.str s), H) else none | none => none
    | none => none
  | .mkfn f caps =>
    match allD (caps.map (opd G env)) with
    | some xs => some (.d (.fn f xs), H)
    | none => if (caps.map (opd G env)).all V.ok = true then some (.fn f (caps.map (opd G env)), H) else none
  | .mkmap => some (.mref (hlen H), hpush H (.map [] []))
  | .insert m k v =>
    match opd G env m, opd G env k with
    | .mref r, .d kd =>
      match hget H r with
      | some (.map ks vs) =>
        match allD ks with
        | some kds =>
          match look kd kds vs with
          | some none => if (opd G env v).ok = true ∧ okIn n0 r (opd G env v) = true then some (.und, hset H r (.map (ks ++ [.d kd]) (vs ++ [opd G env v]))) else none
          | _ => none
        | none => none
      | _ => none
    | _, _ => none
  | .lookup z m k ok =>
    match opd G env m, opd G env k with
    | .d (.mval ks vs), .d kd =>
      match look kd ks vs with
      | some (some v) => some ((bif ok then .tup [.d v, .d (.bool true)] else .d v), H)
      | some none => some ((bif ok then .tup [.d z, .d (.bool false)] else .d z), H)
      | none => none
    | _, _ => none
  | .mkslice e bytes z len cap =>
    match opd G env len, opd G env cap with
    | .d (.int .i64 n), .d (.int .i64 c) =>
      if 0 ≤ n ∧ n = c ∧ n * bytes ≤ (room : Int) ∧ z.cells.length = e ∧ z.sto = true then
        some (.slc (hlen H) 0 0 n.toNat, hpush H (.row 0 e (List.replicate n.toNat z)))
      else none
    | _, _ => none
  | .slice oe x lo hi =>
    match oe, opd G env x with
    | none, .d (.str s) =>
      match bound G env s.length s.length hi with
      | some h => match bound G env 0 h lo with
        | some l => some (.d (.str ((s.take h).drop l)), H)
        | none => none
      | none => none
    | some e, .d (.vals e' xs) =>
      match bound G env xs.length xs.length hi with
      | some h => match bound G env 0 h lo with
        | some l => if e' = e then some (.d (.vals e ((xs.take h).drop l)), H) else none
        | none => none
      | none => none
    | some e, .slc r g i n =>
      match rowOf H r g with
      | some (e', _) =>
        match bound G env n n hi with
        | some h => match bound G env 0 h lo with
          | some l => if e' = e then some (.slc r g (i + l) (h - l), H) else none
          | none => none
        | none => none
      | none => none
    | _, _ => none
  | .faddr off x =>
    match opd G env x with
    | .ptr r g i j => some (.ptr r g i (j + off), H)
    | .d (.rptr cs) => if off < cs.length then some (.d (.rptr (cs.drop off)), H) else none
    | _ => none
  | .field ag off n x =>
    if off + n ≤ (opd G env x).cells.length ∧ (opd G env x).isAgg = true then
      match mkVal ag (((opd G env x).cells.drop off).take n) with
      | some v => some (v, H)
      | none => none
    else none
  | .iaddr e x i =>
    match asI (opd G env i) with
    | some k =>
      match opd G env x with
      | .d (.vals e' xs) => if 0 ≤ k ∧ k < (xs.length : Int) ∧ e' = e then some (.d (.rptr (xs.getD k.toNat .nilp).cells), H) else none
      | .slc r g j n => if 0 ≤ k ∧ k < (n : Int) then (match rowOf H r g with | some (e', _) => if e' = e then some (.ptr r g (j + k.toNat) 0, H) else none | none => none) else none
      | _ => none
    | none => none
  | .idx x i =>
    match opd G env x, asI (opd G env i) with
    | .d (.str s), some k => if 0 ≤ k ∧ k < (s.length : Int) then some (.d (.int .u8 ((s.getD k.toNat 0).toNat : Int)), H) else none
    | _, _ => none
  | .extract x i =>
    match opd G env x with
    | .tup vs => match vs[i]? with | some v => some (v, H) | none => none
    | _ => none
  | .mkiface t x =>
    match opd G env x with
    | .d a => some (.d (.iface t a), H)
    | _ => none
  | .call f args fr =>
    match (match opd G env f with | .d (.fn (.func k) caps) => some (k, caps.map V.d) | .fn (.func k) caps => some (k, caps) | _ => none) with
    | some (k, caps) =>
      match hand G env H args with
      | some (vs, H1) =>
        match cl k (vs ++ caps) H1 with
        | some (v, H2) =>
          match fr with
          | false => some (v, H2)
          | true => match fzV (hlen H1) H2 v with | some v' => some (v', htake H2 (hlen H1)) | none => none
        | none => none
      | none => none
    | none => none
  | .pcall f args =>
    match (match opd G env f with | .d (.fn (.func k) caps) => some (k, caps.map V.d) | _ => none) with
    | some (k, caps) =>
      let vs := args.map (opd G env)
      match mapO (view H) vs with
      | some ws =>
        match pureCall cl k (ws.map .d ++ caps) with
        | some v => if vs.all isData || flatV v then some (v, H) else none
        | none => none
      | none => none
    | none => none
  | .len str x =>
    match str, opd G env x with
    | true, .d (.str s) => some (.d (.int .i64 (s.length : Int)), H)
    | false, .d (.vals _ xs) => some (.d (.int .i64 (xs.length : Int)), H)
    | false, .nils _ => some (.d (.int .i64 0), H)
    | false, .slc _ _ _ n => some (.d (.int .i64 (n : Int)), H)
    | _, _ => none
  | .append e bytes s x =>
    match src H (opd G env x) with
    | some (ey, ys, dat) =>
      match opd G env s with
      | .nils e1 =>
        match ys with
        | [] => if e1 = e then some (.nils e, H) else none
        | y :: ys => if ey = e ∧ e1 = e ∧ (y :: ys).length * bytes ≤ room then some (.slc (hlen H) 0 0 (y :: ys).length, hpush H (.row 0 e (y :: ys))) else none
      | .slc r g i n =>
        match i, rowOf H r g with
        | 0, some (e', xs) =>
          if ey = e ∧ e' = e ∧ n ≤ xs.length ∧ (dat || ys.all (okIn n0 r)) = true then
            if n = xs.length then
              if (n + ys.length) * bytes ≤ room then some (.slc r (g + 1) 0 (n + ys.length), hset H r (.row (g + 1) e (xs ++ ys))) else none
            else if n + ys.length ≤ xs.length then some (.slc r g 0 (n + ys.length), hset H r (.row g e (xs.take n ++ ys ++ xs.drop (n + ys.length))))
            else if (n + ys.length) * bytes ≤ room then some (.slc r (g + 1) 0 (n + ys.length), hset H r (.row (g + 1) e (xs.take n ++ ys)))
            else none
          else none
        | _, _ => none
      | _ => none
    | none => none
  | .mnmx mx xs =>
    match xs.map (opd G env) with
    | v :: v2 :: vs => match mnmxL mx v (v2 :: vs) with | some z => some (z, H) | none => none
    | _ => none

def Env.put (env : Env) : Option Nat → V → Env
  | some d, v => (d, v) :: env
  | none, _ => env

noncomputable def evOper (cl : Callf) (G : Glob) (n0 : Nat) (o : AOper) (st : St) : Option St :=
  match o.guard with
  | none => (match evOp cl G n0 st.env st.hp o.op with | some (v, H) => some ⟨st.env.put o.dst v, H⟩ | none => none)
  | some (t, want) =>
    match st.env.get t with
    | .d (.bool b) =>
      (bif b == want then (match evOp cl G n0 st.env st.hp o.op with | some (v, H) => some ⟨st.env.put o.dst v, H⟩ | none => none)
      else some ⟨st.env.put o.dst .und, st.hp⟩)
    | .und => some ⟨st.env.put o.dst .und, st.hp⟩
    | _ => none

noncomputable def evOps (cl : Callf) (G : Glob) (n0 : Nat) : List AOper → St → Option St
  | [], st => some st
  | o :: os, st =>
    match evOper cl G n0 o st with
    | some st' => evOps cl G n0 os st'
    | none => none

def Env.keep (env : Env) : List Nat → Env
  | [] => []
  | t :: r => (t, env.get t) :: Env.keep env r

/-- Rounds of a loop, at most n of them. -/
def rounds (f : St → Option (Out × St)) (lv : List Nat) : Nat → St → Option (Out × St)
  | 0, _ => none
  | n + 1, st =>
    match f ⟨st.env.keep lv, st.hp⟩ with
    | some (.normal, st') => rounds f lv n st'
    | r => r

noncomputable def evCode (cl : Callf) (G : Glob) (n0 : Nat) (lp : (St → Option (Out × St)) → List Nat → St → Option (Out × St)) : ACode → St → Option (Out × St)
  | .skip, st => some (.normal, st)
  | .reg _ ops, st => (match evOps cl G n0 ops st with | some st' => some (.normal, st') | none => none)
  | .seq a lv b, st =>
    match evCode cl G n0 lp a st with
    | some (.normal, st') => evCode cl G n0 lp b ⟨st'.env.keep lv, st'.hp⟩
    | r => r
  | .cond c a b, st =>
    match opd G st.env c with
    | .d (.bool t) => bif t then evCode cl G n0 lp a st else evCode cl G n0 lp b st
    | _ => none
  | .block id b, st =>
    match evCode cl G n0 lp b st with
    | some (.exit id', st') => bif Nat.beq id' id then some (.normal, st') else some (.exit id', st')
    | r => r
  | .loop lv b, st => lp (evCode cl G n0 lp b) lv st
  | .scope b, st => evCode cl G n0 lp b st
  | .exit id, st => some (.exit id, st)
  | .ret, st => some (.ret, st)

def zipEnv : Nat → List V → Env
  | _, [] => []
  | i, v :: r => (i, v) :: zipEnv (i + 1) r

def resOf (env : Env) (H : Hp) : List ARes → Option (List V)
  | [] => some []
  | .tmp t :: r => (match resOf env H r with | some vs => some (env.get t :: vs) | none => none)
  | .cell t ag n :: r =>
    match env.get t with
    | .ptr p g i j =>
      match hload H p g i j n with
      | some cs =>
        match mkVal ag cs, resOf env H r with
        | some v, some vs => some (v :: vs)
        | _, _ => none
      | none => none
    | _ => none

def tupOf : List V → V
  | [v] => v
  | vs => .tup vs

/-- How a function's end is told to its caller: n objects lay before it. -/
def leave (fn : AFunc) (n : Nat) (st : St) : Option (V × Hp) :=
  match resOf st.env st.hp fn.res with
  | some vs =>
    match fn.own with
    | true =>
      match ownL n st.hp (htake st.hp n) vs with
      | some (ws, _, H) => some (tupOf ws, H)
      | none => none
    | false =>
      match mapO (fzV n st.hp) vs with
      | some ws => some (tupOf ws, htake st.hp n)
      | none => none
  | none => none

noncomputable def evBody (cl : Callf) (G : Glob) (lp : (St → Option (Out × St)) → List Nat → St → Option (Out × St)) (fn : AFunc) (args : List V) (H : Hp) : Option (V × Hp) :=
  if args.length = fn.np then
    match evCode cl G (hlen H) lp fn.body ⟨zipEnv 0 args, H⟩ with
    | some (.normal, st) => leave fn (hlen H) st
    | some (.ret, st) => leave fn (hlen H) st
    | _ => none
  else none

/-- What a program is to the evaluator: its functions, what its variables hold, and functions whose meaning is given. -/
structure Prg where
  fns : Nat → Option AFunc
  glob : Glob
  prim : Nat → Option (List V → Hp → Option (V × Hp))

noncomputable def evN (P : Prg) : Nat → Callf
  | 0, _, _, _ => none
  | n + 1, f, args, H =>
    match P.prim f with
    | some p => p args H
    | none =>
      match P.fns f with
      | some fn => evBody (evN P n) P.glob (fun b lv st => rounds b lv n st) fn args H
      | none => none
end Go.Ev

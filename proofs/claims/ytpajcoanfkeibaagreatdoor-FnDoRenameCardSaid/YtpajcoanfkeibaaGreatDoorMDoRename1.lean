/- Lemmas (several texts in one). -/
import Derived.Calls
import Derived.Orders
import Derived.OwnWalk
import Derived.Laws.IdiomCopy
import Derived.ArgAppend
import Derived.Laws.StructEq
import Derived.Laws.Strings
import Derived.Laws.Slices
import Derived.Laws.BytesArg
import Derived.Laws.MakeOwn
set_option linter.unusedSimpArgs false
set_option linter.unusedVariables false
namespace Go.Ev
open Go
inductive D where
 |bool (b:Bool)
 |int (k:IntKind) (n:Int)
 |str (s:List UInt8)
 |agg (cs:List D)
 |vals (e:Nat) (xs:List D)
 |nilp
 |rptr (cs:List D)
 |fn (f:Fn) (caps:List D)
 |nilfn
 |iface (t:Nat) (x:D)
 |niface
 |mval (ks vs:List D)
 deriving Inhabited
inductive V where
 |d (x:D)
 |agg (cs:List V)
 |tup (vs:List V)
 |slc (r g i n:Nat)
 |ptr (r g i j:Nat)
 |fn (f:Fn) (caps:List V)
 |mref (r:Nat)
 |nils (e:Nat)
 |und
 |any
 deriving Inhabited
inductive Obj where
 |dead
 |row (g e:Nat) (xs:List V)
 |map (ks vs:List V)
 deriving Inhabited
abbrev Hp:=List Obj
abbrev Env:=List (Nat×V)
def Env.get:Env→Nat→V
 | [],_=> .any
 | (k,v)::r,t=>bif Nat.beq k t then v else Env.get r t
def D.cells:D→List D
 | .agg cs=>cs
 |x=> [x]
def V.cells:V→List V
 | .agg cs=>cs
 | .d (.agg cs)=>cs.map .d
 |v=> [v]
def V.sto:V→Bool
 | .any=>false
 | .und=>false
 | .tup _=>false
 |_=>true
def V.ok:V→Bool
 | .any=>false
 |_=>true
def V.isAgg:V→Bool
 | .agg _=>true
 | .d (.agg _)=>true
 |_=>false
def Gt:List V→Option (List D)
 | []=>some []
 | .d x::r=>
  match Gt r with
  |some xs=>some (x::xs)
  |none=>none
 |_::_=>none
def Ni (cs:List V):V:=
 match Gt cs with
 |some ds=> .d (.agg ds)
 |none=> .agg cs
def K8 (ag:Bool) (cs:List V):Option V:=
 match ag,cs with
 |true,cs=>some (Ni cs)
 |false,[v]=>some v
 |false,_=>none
def Lt (x:V) (cs:List V):Option V:=
 match x.isAgg,cs with
 |true,cs=>some (Ni cs)
 |false,[v]=> (match v.isAgg with|true=>none|false=>some v)
 |false,_=>none
def Cf:Hp→Nat→Option Obj
 | [],_=>none
 |o::_,0=>some o
 |_::h,r+1=>Cf h r
def Bz:Hp→Nat→Obj→Hp
 | [],_,_=> []
 |_::h,0,o=>o::h
 |x::h,r+1,o=>x::Bz h r o
def Bt (H:Hp) (o:Obj):Hp:=H++[o]
def Bc (H:Hp):Nat:=H.length
def Cx (H:Hp) (n:Nat):Hp:=H.take n
def Cw (H:Hp) (r g:Nat):Option (Nat×List V):=
 match Cf H r with
 |some (.row g' e xs)=>bif Nat.beq g' g then some (e,xs) else none
 |_=>none
def Dn (H:Hp) (r g i j n:Nat):Option (List V):=
 match Cw H r g with
 |some (_,xs)=>
  match xs[i]? with
  |some x=>if j+n≤x.cells.length then some ((x.cells.drop j).take n) else none
  |none=>none
 |none=>none
def Na (H:Hp) (r g i j:Nat) (vs:List V):Option Hp:=
 match Cw H r g with
 |some (e,xs)=>
  match xs[i]? with
  |some x=>
   if j+vs.length≤x.cells.length then
    match Lt x (x.cells.take j++vs++x.cells.drop (j+vs.length)) with
    |some y=>some (Bz H r (.row g e (xs.set i y)))
    |none=>none
   else none
  |none=>none
 |none=>none
def Gq {α β:Type} (f:α→Option β):List α→Option (List β)
 | []=>some []
 |a::r=>
  match f a with
  |some b=>
   match Gq f r with
   |some bs=>some (b::bs)
   |none=>none
  |none=>none
def fz (n:Nat):Nat→Hp→V→Option D
 |0,_,v=>
  match v with
  | .d x=>some x
  |_=>none
 |d+1,H,v=>
  match v with
  | .d x=>some x
  | .nils e=>some (.vals e [])
  | .agg cs=>
   match Gq (fz n d H) cs with
   |some xs=>some (.agg xs)
   |none=>none
  | .slc r g i k=>
   if r<n then none else
   match Cw H r g with
   |some (e,xs)=>
    if i+k≤xs.length then
     match Gq (fz n d H) ((xs.drop i).take k) with
     |some ys=>some (.vals e ys)
     |none=>none
    else none
   |none=>none
  | .ptr r g i j=>
   if r<n then none else
   match Cw H r g with
   |some (_,xs)=>
    match xs[i]? with
    |some x=>
     match Gq (fz n d H) (x.cells.drop j) with
     |some ys=>some (.rptr ys)
     |none=>none
    |none=>none
   |none=>none
  | .fn f caps=>
   match Gq (fz n d H) caps with
   |some xs=>some (.fn f xs)
   |none=>none
  | .mref r=>
   if r<n then none else
   match Cf H r with
   |some (.map ks vs)=>
    match Gq (fz n d H) ks,Gq (fz n d H) vs with
    |some a,some b=>some (.mval a b)
    |_,_=>none
   |_=>none
  |_=>none
def M7:Nat:=8
def Ws (n:Nat) (H:Hp) (v:V):Option V:=
 match v with
 | .d x=>some (.d x)
 | .slc r g i k=>if r<n then some (.slc r g i k) else(match fz n M7 H v with|some x=>some (.d x) |none=>none)
 | .ptr r g i j=>if r<n then some (.ptr r g i j) else(match fz n M7 H v with|some x=>some (.d x) |none=>none)
 |v=> (match fz n M7 H v with|some x=>some (.d x) |none=>none)
def fzA (n:Nat) (H:Hp) (v:V):Option V:=
 match v with
 | .d x=>some (.d x)
 | .agg cs=>match Gq (Ws n H) cs with
  |some xs=>some (Ni xs)
  |none=>none
 |v=>Ws n H v
def fzV (n:Nat) (H:Hp) (v:V):Option V:=
 match v with
 | .tup vs=>match Gq (fzA n H) vs with
  |some xs=>some (.tup xs)
  |none=>none
 |v=>fzA n H v
def Fz (r:Nat):V→Bool
 | .d _=>true
 | .nils _=>true
 | .slc r' _ _ _=>Nat.blt r' r
 | .ptr r' _ _ _=>Nat.blt r' r
 |_=>false
def Ke (r:Nat):V→Bool
 | .d _=>true
 | .agg cs=>cs.all (Fz r)
 |v=>Fz r v
structure Bn where
 n:Nat
 ts:List Nat
instance:Coe Nat Bn:=⟨fun n=> ⟨n,[]⟩⟩
def Rt (B:Bn) (r:Nat) (v:V):Bool:=Ke r v|| (Nat.ble B.n r&&B.ts.all fun m=>Nat.ble m r||Ke m v)
def Xl (n:Nat):V→Bool
 | .any=>true
 | .und=>true
 | .fn _ caps=>caps.all (Fz n)
 | .mref r=>Nat.blt r n
 |v=>Ke n v
def Wh (n:Nat) (H base:Hp):V→Option (V×Hp×Hp)
 | .d x=>some (.d x,H,base)
 | .nils e=>some (.nils e,H,base)
 | .slc r g i k=>
  if r<n then some (.slc r g i k,H,base) else
  match Cw H r g with
  |some (e,xs)=>
   match i,Gt xs with
   |0,some _=>some (.slc (Bc base) 0 0 k,Bz H r .dead,Bt base (.row 0 e xs))
   |_,_=>none
  |none=>none
 | .ptr r g i j=>
  if r<n then some (.ptr r g i j,H,base) else
  match Cw H r g with
  |some (e,xs)=>
   match Gt xs with
   |some _=>some (.ptr (Bc base) 0 i j,Bz H r .dead,Bt base (.row 0 e xs))
   |none=>none
  |none=>none
 |_=>none
def Bb0 (f:Hp→Hp→V→Option (V×Hp×Hp)):Hp→Hp→List V→Option (List V×Hp×Hp)
 |H,base,[]=>some ([],H,base)
 |H,base,v::r=>
  match f H base v with
  |some (x,H,base)=>
   match Bb0 f H base r with
   |some (xs,H,base)=>some (x::xs,H,base)
   |none=>none
  |none=>none
def Zk (f:Hp→Hp→V→Option (V×Hp×Hp)) (H base:Hp):V→Option (V×Hp×Hp)
 | .agg cs=> (match Bb0 f H base cs with|some (ys,H,base)=>some (Ni ys,H,base) |none=>none)
 |v=>f H base v
def Zl (f:Hp→Hp→V→Option (V×Hp×Hp)):Hp→Hp→List V→Option (List V×Hp×Hp)
 |H,base,[]=>some ([],H,base)
 |H,base,v::r=>
  match Zk f H base v with
  |some (x,H,base)=>
   match Zl f H base r with
   |some (xs,H,base)=>some (x::xs,H,base)
   |none=>none
  |none=>none
def Ut (n:Nat) (f:Hp→Hp→V→Option (V×Hp×Hp)) (H base:Hp) (v:V):Option (V×Hp×Hp):=
 match Wh n H base v with
 |some r=>some r
 |none=>
  match v with
  | .slc r g 0 k=>
   if r<n then none else
   match Cw H r g with
   |some (e,xs)=>
    match Zl f H base xs with
    |some (ys,H1,base1)=>
     match Cw H1 r g with
     |some _=>some (.slc (Bc base1) 0 0 k,Bz H1 r .dead,Bt base1 (.row 0 e ys))
     |none=>none
    |none=>none
   |none=>none
  |_=>none
def Bzx (n:Nat) (H base:Hp) (vs:List V):Option (List V×Hp×Hp):=Zl (Ut n (Ut n (Ut n (Wh n)))) H base vs
inductive AOpd where
 |t (n:Nat)
 |c (x:D)
 |f (k:Nat)
 |g (n:Nat)
 |nil (e:Nat)
 |u
 deriving Inhabited
inductive SK where
 |i|s|b
 deriving DecidableEq,Inhabited
inductive BTy where
 |val|bool|iface
 |agg (ks:List SK)
 deriving DecidableEq,Inhabited
inductive AOp where
 |mv (x:AOpd)
 |pick (c a b:AOpd)
 |alloc (z:V)
 |box (x:AOpd)
 |build (z:List V) (parts:List (Nat×Nat×AOpd))
 |lit (own:Bool) (e:Nat) (parts:List AOpd)
 |litf (e:Nat) (parts:List AOpd)
 |load (ag:Bool) (n:Nat) (a:AOpd)
 |store (n:Nat) (a x:AOpd)
 |nilck (x:AOpd)
 |bin (op:BinOp) (ty:BTy) (x y:AOpd)
 |un (op:UnOp) (x:AOpd)
 |cvInt (k:IntKind) (x:AOpd)
 |cvId (x:AOpd)
 |cvStr (x:AOpd)
 |mkfn (f:Fn) (caps:List AOpd)
 |mkmap
 |insert (m k v:AOpd)
 |lookup (z:D) (m k:AOpd) (ok:Bool)
 |mkslice (e bytes:Nat) (z:V) (len cap:AOpd)
 |slice (e:Option Nat) (x:AOpd) (lo hi:Option AOpd)
 |slice3 (e:Nat) (x:AOpd) (lo:Option AOpd) (hi mx:AOpd)
 |slicec (e:Nat) (x:AOpd) (lo:Option AOpd) (hi:AOpd)
 |clear (e:Nat) (z:V) (x:AOpd)
 |faddr (off:Nat) (x:AOpd)
 |field (ag:Bool) (off n:Nat) (x:AOpd)
 |iaddr (e:Nat) (x i:AOpd)
 |idx (x i:AOpd)
 |extract (x:AOpd) (i:Nat)
 |mkiface (t:Nat) (x:AOpd)
 |call (f:AOpd) (args:List (Bool×AOpd)) (fr:Bool)
 |pcall (f:AOpd) (args:List AOpd)
 |len (str:Bool) (x:AOpd)
 |append (e bytes:Nat) (s x:AOpd)
 |mnmx (mx:Bool) (xs:List AOpd)
 deriving Inhabited
structure AOper where
 dst:Option Nat
 guard:Option (Nat×Bool)
 op:AOp
 deriving Inhabited
def mV (d s:Nat):AOper:=⟨some d,none, .mv (.t s)⟩
def oP (d:Nat) (x:AOp):AOper:=⟨some d,none,x⟩
def oG (d g:Nat) (b:Bool) (x:AOp):AOper:=⟨some d,some (g,b),x⟩
def oN (x:AOp):AOper:=⟨none,none,x⟩
def oL (d s:Nat):AOper:=⟨some d,none, .load false 1 (.t s)⟩
def oF (d o s:Nat):AOper:=⟨some d,none, .faddr o (.t s)⟩
inductive ACode where
 |skip
 |reg (draw:Bool) (ops:List AOper)
 |regx (ops:List (Bool×AOper))
 |seq (a:ACode) (lv:List Nat) (b:ACode)
 |cond (c:AOpd) (a b:ACode)
 |block (id:Nat) (b:ACode)
 |loop (lv:List Nat) (b:ACode)
 |scope (b:ACode)
 |trim (lv:List Nat) (b:ACode)
 |frz (ts:List Nat) (b:ACode)
 |exit (id:Nat)
 |ret
 deriving Inhabited
inductive ARes where
 |tmp (t:Nat)
 |cell (t:Nat) (ag:Bool) (n:Nat)
 deriving Inhabited
structure AFunc where
 np:Nat
 nt:Nat
 res:List ARes
 own:Bool
 body:ACode
 deriving Inhabited
structure St where
 env:Env
 hp:Hp
inductive Out where
 |normal
 |exit (id:Nat)
 |ret
 deriving DecidableEq
abbrev Fe:=Nat→List V→Hp→Option (V×Hp)
abbrev Gx:=Nat→Option (List D)
def C9 (G:Gx) (env:Env):AOpd→V
 | .t n=>env.get n
 | .c x=> .d x
 | .f k=> .d (.fn (.func k) [])
 | .g n=>match G n with|some cs=> .d (.rptr cs) |none=> .any
 | .nil e=> .nils e
 | .u=> .und
def U3 (op:BinOp) (k:IntKind) (x y:Int):Option Int:=
 match op with
 | .and=>some (k.wrap ((BitVec.ofInt k.bits x&&&BitVec.ofInt k.bits y).toNat:Int))
 | .or=>some (k.wrap ((BitVec.ofInt k.bits x|||BitVec.ofInt k.bits y).toNat:Int))
 | .xor=>some (k.wrap ((BitVec.ofInt k.bits x ^^^ BitVec.ofInt k.bits y).toNat:Int))
 | .andNot=>some (k.wrap ((BitVec.ofInt k.bits x&&& ~~~(BitVec.ofInt k.bits y)).toNat:Int))
 |_=>none
def Gy (op:BinOp) (k:IntKind) (x y:Int):Option D:=
 match op with
 | .add=>some (.int k (k.wrap (x+y)))
 | .sub=>some (.int k (k.wrap (x - y)))
 | .mul=>some (.int k (k.wrap (x*y)))
 | .quo=>if y=0 then none else some (.int k (k.wrap (x.tdiv y)))
 | .rem=>if y=0 then none else some (.int k (x.tmod y))
 | .eql=>some (.bool (decide (x=y)))
 | .neq=>some (.bool (!decide (x=y)))
 | .lss=>some (.bool (decide (x<y)))
 | .leq=>some (.bool (decide (x≤y)))
 | .gtr=>some (.bool (decide (x>y)))
 | .geq=>some (.bool (decide (x≥y)))
 |op=>
  match U3 op k x y with
  |some n=>some (.int k n)
  |none=>none
def Zt (op:BinOp) (k:IntKind) (x y:Int):Option D:=
 if y<0 then none else
 match op with
 | .shl=>some (.int k (k.wrap (x*2 ^ (min y.toNat k.bits))))
 | .shr=>some (.int k (x.fdiv (2 ^ (min y.toNat k.bits))))
 |_=>none
def Kn:Nat:=9223372036854775807
def M6 (op:BinOp) (x y:List UInt8):Option D:=
 match op with
 | .add=>if x.length+y.length≤Kn then some (.str (x++y)) else none
 | .eql=>some (.bool (decide (x=y)))
 | .neq=>some (.bool (!decide (x=y)))
 | .lss=>some (.bool (Op.bytesLess x y))
 | .leq=>some (.bool (Op.bytesLess x y||decide (x=y)))
 | .gtr=>some (.bool (!(Op.bytesLess x y||decide (x=y))))
 | .geq=>some (.bool (!Op.bytesLess x y))
 |_=>none
def Bcn:SK→D→D→Option Bool
 | .i, .int k a, .int k' b=>if k=k' then some (decide (a=b)) else none
 | .s, .str a, .str b=>some (decide (a=b))
 | .b, .bool a, .bool b=>some (a==b)
 |_,_,_=>none
def Jm:List SK→List D→List D→Option Bool
 | [],[],[]=>some true
 |k::ks,a::ags,b::bs=>
  match Bcn k a b,Jm ks ags bs with
  |some x,some y=>some (x&&y)
  |_,_=>none
 |_,_,_=>none
def Ba0 (ty:BTy) (x y:D):Option Bool:=
 match ty,x,y with
 | .bool, .bool a, .bool b=>some (a==b)
 | .agg ks, .agg a, .agg b=>Jm ks a b
 | .iface, .niface, .niface=>some true
 | .iface, .niface, .iface _ _=>some false
 | .iface, .iface _ _, .niface=>some false
 |_,_,_=>none
def Zz (op:BinOp) (ty:BTy) (x y:D):Option D:=
 match ty with
 | .val=>
  match op,x,y with
  | .shl, .int k a, .int _ b=>Zt .shl k a b
  | .shr, .int k a, .int _ b=>Zt .shr k a b
  |op, .int k a, .int k' b=>if k=k' then Gy op k a b else none
  |op, .str a, .str b=>M6 op a b
  |_,_,_=>none
 |ty=>
  match op with
  | .eql=>match Ba0 ty x y with|some b=>some (.bool b) |none=>none
  | .neq=>match Ba0 ty x y with|some b=>some (.bool !b) |none=>none
  |_=>none
def unD (op:UnOp) (x:D):Option D:=
 match op,x with
 | .neg, .int k n=>some (.int k (k.wrap (-n)))
 | .not, .bool b=>some (.bool !b)
 |_,_=>none
def Ry (H:Hp):V→Option (Nat×List V×Bool)
 | .d (.vals e xs)=>some (e,xs.map .d,true)
 | .nils e=>some (e,[],true)
 | .slc r g i n=>
  match Cw H r g with
  |some (e,xs)=>if i+n≤xs.length then some (e,(xs.drop i).take n,false) else none
  |none=>none
 |_=>none
def Zv:List V→Option (List UInt8)
 | []=>some []
 | .d (.int .u8 n)::r=>
  match Zv r with
  |some s=>some (UInt8.ofNat n.toNat::s)
  |none=>none
 |_::_=>none
def Bej (cs:List V) (off:Nat) (vs:List V):List V:=cs.take off++vs++cs.drop (off+vs.length)
def Qw (G:Gx) (env:Env):List V→List (Nat×Nat×AOpd)→Option (List V)
 |cs,[]=>some cs
 |cs,(off,n,x)::r=>
  if(C9 G env x).sto=true∧(C9 G env x).cells.length=n∧off+n≤cs.length then Qw G env (Bej cs off (C9 G env x).cells) r else none
def asI:V→Option Int
 | .d (.int _ n)=>some n
 |_=>none
def Bdv:V→Option Nat
 | .d (.vals _ xs)=>some xs.length
 | .slc _ _ _ n=>some n
 |_=>none
def Da (G:Gx) (env:Env) (dflt:Nat) (lim:Nat):Option AOpd→Option Nat
 |none=>some dflt
 |some x=>
  match asI (C9 G env x) with
  |some n=>if 0≤n∧n≤(lim:Int) then some n.toNat else none
  |none=>none
def Bms:D→D→Option Bool
 | .str a, .str b=>some (decide (a=b))
 |_,_=>none
def Bcy {α:Type} (k:D):List D→List α→Option (Option α)
 | [],_=>some none
 |x::xs,v::vs=>
  match Bms k x with
  |some true=>some (some v)
  |some false=>Bcy k xs vs
  |none=>none
 |_::_,[]=>none
def Bhe (mx:Bool):V→V→Option V
 | .d (.int k x), .d (.int k' y)=>if k=k' then some (.d (.int k (bif mx then(if y>x then y else x) else(if y<x then y else x)))) else none
 |_,_=>none
def Uu (mx:Bool):V→List V→Option V
 |x,[]=>some x
 |x,y::r=>match Bhe mx x y with|some z=>Uu mx z r|none=>none
open Classical in
noncomputable def Be (cl:Fe) (f:Nat) (args:List V):Option V:=
 if h: ∃v,∀H,cl f args H=some (v,H) then some h.choose else none
theorem Bb {cl:Fe} {f:Nat} {args:List V} {v:V} (h: ∀H,cl f args H=some (v,H)):Be cl f args=some v:=by
 unfold Be
 have hx: ∃v,∀H,cl f args H=some (v,H):=⟨v,h⟩
 rw[dif_pos hx]
 have h1:=hx.choose_spec []
 rw[h []] at h1
 simp only[Option.some.injEq,Prod.mk.injEq,and_true] at h1
 rw[←h1]
open Classical in
noncomputable def Gf (cl:Fe) (f:Nat) (args:List V):Option V:=
 if h: ∃x,∀H,∃v H2,cl f args H=some (v,H2)∧fzV (Bc H) H2 v=some x∧Cx H2 (Bc H)=H then some h.choose else none
theorem Jk {cl:Fe} {f:Nat} {args:List V} {x:V} (h: ∀H,∃v H2,cl f args H=some (v,H2)∧fzV (Bc H) H2 v=some x∧Cx H2 (Bc H)=H):Gf cl f args=some x:=by
 unfold Gf
 have hx: ∃x,∀H,∃v H2,cl f args H=some (v,H2)∧fzV (Bc H) H2 v=some x∧Cx H2 (Bc H)=H:=⟨x,h⟩
 rw[dif_pos hx]
 obtain⟨v,H2,h1,h2,_⟩:=hx.choose_spec []
 obtain⟨v',H2',h1',h2',_⟩:=h []
 rw[h1] at h1'
 simp only[Option.some.injEq,Prod.mk.injEq] at h1'
 obtain⟨rfl,rfl⟩:=h1'
 rw[h2] at h2'
 exact h2'
theorem Po {cl:Fe} {f:Nat} {args:List V} {x:V} (h:Gf cl f args=some x): ∀H,∃v H2,cl f args H=some (v,H2)∧fzV (Bc H) H2 v=some x∧Cx H2 (Bc H)=H:=by
 unfold Gf at h
 split at h
 ·rename_i hx
  simp only[Option.some.injEq] at h
  subst h
  exact hx.choose_spec
 ·simp at h
def Ml:V→Bool
 | .d _=>true
 | .nils _=>true
 |_=>false
def J7:V→Bool
 | .d _=>true
 | .nils _=>true
 | .agg cs=>cs.all Ml
 |_=>false
def Xg:D→Bool
 | .bool _=>true
 | .int _ _=>true
 | .str _=>true
 |_=>false
def Zg:V→Bool
 | .d x=>Xg x
 | .tup vs=>vs.all fun v=>match v with| .d x=>Xg x|_=>false
 |_=>false
def Bip:V→Option D
 | .d x=>some x
 | .nils e=>some (.vals e [])
 |_=>none
def Bln:List V→Option (List D)
 | []=>some []
 |v::r=>
  match Bip v with
  |some x=>
   match Bln r with
   |some xs=>some (x::xs)
   |none=>none
  |none=>none
def Uo:V→V
 | .nils e=> .d (.vals e [])
 | .agg cs=> (match Bln cs with|some xs=> .d (.agg xs) |none=> .agg cs)
 |v=>v
def Kh (H:Hp):V→Option D
 | .d x=>some x
 | .nils e=>some (.vals e [])
 | .slc r g i k=>
  match Cw H r g with
  |some (e,xs)=>
   if i+k≤xs.length then
    match Gt xs with
    |some ds=>some (.vals e ((ds.drop i).take k))
    |none=>none
   else none
  |none=>none
 | .ptr r g i j=>
  match Cw H r g with
  |some (_,xs)=>
   match Gt xs with
   |some ds=>
    if i<ds.length then some (.rptr ((ds.getD i .nilp).cells.drop j)) else none
   |none=>none
  |none=>none
 |_=>none
def R9 (H:Hp):V→Option D
 | .fn f caps=>match Gq (Kh H) caps with|some xs=>some (.fn f xs) |none=>none
 | .agg cs=>match Gq (Kh H) cs with|some xs=>some (.agg xs) |none=>none
 |v=>match Kh H v with|some x=>some x|none=>fz 0 M7 H v
def Zh (H:Hp) (k:Bool) (v:V):Option (V×Hp):=
 match k,v with
 |true, .slc r g i n=> (match Kh H (.slc r g i n) with|some x=>some (.d x,Bz H r .dead) |none=>none)
 |_,v=>if v.ok=true then some (v,H) else none
def Be6:List Nat→Env→Hp→Option (Env×Hp)
 | [],e,H=>some (e,H)
 |t::ts,e,H=>
  match Zh H true (e.get t) with
  |some (v,H)=>Be6 ts ((t,v)::e) H
  |none=>none
def Ul (G:Gx) (env:Env):Hp→List (Bool×AOpd)→Option (List V×Hp)
 |H,[]=>some ([],H)
 |H,(k,x)::r=>
  let v:=C9 G env x
  match (match k,v with
   |true, .slc r g i n=> (match Kh H (.slc r g i n) with|some x=>some (.d x,Bz H r .dead) |none=>none)
   |_,v=>if v.ok=true then some (v,H) else none) with
  |some (v,H)=>
   match Ul G env H r with
   |some (vs,H)=>some (v::vs,H)
   |none=>none
  |none=>none
def Cq:Nat:=140737488355328
noncomputable def Cg (cl:Fe) (G:Gx) (n0:Bn) (env:Env) (H:Hp):AOp→Option (V×Hp)
 | .mv x=>if(C9 G env x).ok=true then some (C9 G env x,H) else none
 | .pick c a b=>
  match C9 G env c with
  | .d (.bool t)=>if(bif t then C9 G env a else C9 G env b).ok=true then some ((bif t then C9 G env a else C9 G env b),H) else none
  |_=>none
 | .alloc z=>if z.sto=true then some (.ptr (Bc H) 0 0 0,Bt H (.row 0 z.cells.length [z])) else none
 | .box x=>if(C9 G env x).sto=true then some (.ptr (Bc H) 0 0 0,Bt H (.row 0 (C9 G env x).cells.length [C9 G env x])) else none
 | .build z parts=>
  match Qw G env z parts with
  |some cs=>some (Ni cs,H)
  |none=>none
 | .lit own e parts=>
  let vs:=parts.map (C9 G env)
  if vs.all (fun v=>Nat.beq v.cells.length e&&v.sto)=true then
   match own with
   |true=>some (.slc (Bc H) 0 0 vs.length,Bt H (.row 0 e vs))
   |false=>match Gt (vs.map Uo) with|some xs=>some (.d (.vals e xs),H) |none=>none
  else none
 | .litf e parts=>
  match Ul G env H (parts.map fun x=> (true,x)) with
  |some (vs,H1)=>
   if vs.all (fun v=>Nat.beq v.cells.length e&&v.sto)=true then
    match Gt vs with|some xs=>some (.d (.vals e xs),H1) |none=>none
   else none
  |none=>none
 | .load ag n a=>
  match C9 G env a with
  | .ptr r g i j=>
   match Dn H r g i j n with
   |some cs=>match K8 ag cs with|some v=>some (v,H) |none=>none
   |none=>none
  | .d (.rptr cs)=>
   if n≤cs.length then match K8 ag ((cs.take n).map .d) with|some v=>some (v,H) |none=>none else none
  |_=>none
 | .store n a x=>
  match C9 G env a with
  | .ptr r g i j=>
   let vs:=(C9 G env x).cells
   if vs.length=n∧(C9 G env x).sto=true∧Rt n0 r (C9 G env x)=true then
    match Na H r g i j vs with
    |some H'=>some (.und,H')
    |none=>none
   else none
  |_=>none
 | .nilck x=>
  match C9 G env x with
  | .ptr r g i j=>some (.ptr r g i j,H)
  | .d (.rptr cs)=>some (.d (.rptr cs),H)
  | .fn (.func k) caps=>some (.fn (.func k) caps,H)
  | .d (.fn (.func k) caps)=>some (.d (.fn (.func k) caps),H)
  |_=>none
 | .bin op ty x y=>
  match C9 G env x,C9 G env y with
  | .d a, .d b=>match Zz op ty a b with|some z=>some (.d z,H) |none=>none
  |_,_=>none
 | .un op x=>
  match C9 G env x with
  | .d a=>match unD op a with|some z=>some (.d z,H) |none=>none
  |_=>none
 | .cvInt k x=>
  match C9 G env x with
  | .d (.int _ n)=>some (.d (.int k (k.wrap n)),H)
  |_=>none
 | .cvId x=>
  match C9 G env x with
  | .d (.str s)=>some (.d (.str s),H)
  |_=>none
 | .cvStr x=>
  match Ry H (C9 G env x) with
  |some (e,vs,_)=>match Zv vs with|some s=>if e=1 then some (.d (.str s),H) else none|none=>none
  |none=>none
 | .mkfn f caps=>
  match Gt (caps.map (C9 G env)) with
  |some xs=>some (.d (.fn f xs),H)
  |none=>if(caps.map (C9 G env)).all V.ok=true then some (.fn f (caps.map (C9 G env)),H) else none
 | .mkmap=>some (.mref (Bc H),Bt H (.map [] []))
 | .insert m k v=>
  match C9 G env m,C9 G env k with
  | .mref r, .d kd=>
   match Cf H r with
   |some (.map ks vs)=>
    match Gt ks with
    |some kds=>
     match Bcy kd kds vs with
     |some none=>if(C9 G env v).ok=true∧Rt n0 r (C9 G env v)=true then some (.und,Bz H r (.map (ks++[.d kd]) (vs++[C9 G env v]))) else none
     |_=>none
    |none=>none
   |_=>none
  |_,_=>none
 | .lookup z m k ok=>
  match C9 G env m,C9 G env k with
  | .d (.mval ks vs), .d kd=>
   match Bcy kd ks vs with
   |some (some v)=>some ((bif ok then .tup [.d v, .d (.bool true)] else .d v),H)
   |some none=>some ((bif ok then .tup [.d z, .d (.bool false)] else .d z),H)
   |none=>none
  |_,_=>none
 | .mkslice e bytes z len cap=>
  match C9 G env len,C9 G env cap with
  | .d (.int .i64 n), .d (.int .i64 c)=>
   if 0≤n∧n=c∧n*bytes≤(Cq:Int)∧z.cells.length=e∧z.sto=true then
    some (.slc (Bc H) 0 0 n.toNat,Bt H (.row 0 e (List.replicate n.toNat z)))
   else none
  |_,_=>none
 | .slice oe x lo hi=>
  match oe,C9 G env x with
  |none, .d (.str s)=>
   match Da G env s.length s.length hi with
   |some h=>match Da G env 0 h lo with
    |some l=>some (.d (.str ((s.take h).drop l)),H)
    |none=>none
   |none=>none
  |some e, .d (.vals e' xs)=>
   match Da G env xs.length xs.length hi with
   |some h=>match Da G env 0 h lo with
    |some l=>if e'=e then some (.d (.vals e ((xs.take h).drop l)),H) else none
    |none=>none
   |none=>none
  |some e, .slc r g i n=>
   match Cw H r g with
   |some (e',_)=>
    match Da G env n n hi with
    |some h=>match Da G env 0 h lo with
     |some l=>if e'=e then some (.slc r g (i+l) (h - l),H) else none
     |none=>none
    |none=>none
   |none=>none
  |_,_=>none
 | .slicec e x lo hi=>
  match C9 G env x with
  | .slc r g i _=>
   match Cw H r g with
   |some (e',xs)=>
    match Da G env xs.length xs.length (some hi) with
    |some h=>match Da G env 0 h lo with
     |some l=>if e'=e∧i=0 then some (.slc r g l (h - l),H) else none
     |none=>none
    |none=>none
   |none=>none
  |_=>none
 | .slice3 _ x lo hi mx=>
  match Bdv (C9 G env x) with
  |some n=>
   match Da G env n n (some mx) with
   |some m=>
    match Da G env m m (some hi) with
    |some h=>
     match Da G env 0 h lo with
     |some _=>some (.any,H)
     |none=>none
    |none=>none
   |none=>none
  |none=>none
 | .clear e z x=>
  match C9 G env x with
  | .slc r g i n=>
   match Cw H r g with
   |some (e',xs)=>
    if e'=e∧0<n∧i+n≤xs.length∧z.sto=true∧z.cells.length=e∧Rt n0 r z=true then some (.tup [],Bz H r (.row g e (xs.take i++List.replicate n z++xs.drop (i+n)))) else none
   |none=>none
  |_=>none
 | .faddr off x=>
  match C9 G env x with
  | .ptr r g i j=>some (.ptr r g i (j+off),H)
  | .d (.rptr cs)=>if off<cs.length then some (.d (.rptr (cs.drop off)),H) else none
  |_=>none
 | .field ag off n x=>
  if off+n≤(C9 G env x).cells.length∧(C9 G env x).isAgg=true then
   match K8 ag (((C9 G env x).cells.drop off).take n) with
   |some v=>some (v,H)
   |none=>none
  else none
 | .iaddr e x i=>
  match asI (C9 G env i) with
  |some k=>
   match C9 G env x with
   | .d (.vals e' xs)=>if 0≤k∧k< (xs.length:Int)∧e'=e then some (.d (.rptr (xs.getD k.toNat .nilp).cells),H) else none
   | .slc r g j n=>if 0≤k∧k< (n:Int) then(match Cw H r g with|some (e',_)=>if e'=e then some (.ptr r g (j+k.toNat) 0,H) else none|none=>none) else none
   |_=>none
  |none=>none
 | .idx x i=>
  match C9 G env x,asI (C9 G env i) with
  | .d (.str s),some k=>if 0≤k∧k< (s.length:Int) then some (.d (.int .u8 ((s.getD k.toNat 0).toNat:Int)),H) else none
  |_,_=>none
 | .extract x i=>
  match C9 G env x with
  | .tup vs=>match vs[i]? with|some v=>some (v,H) |none=>none
  |_=>none
 | .mkiface t x=>
  match C9 G env x with
  | .d a=>some (.d (.iface t a),H)
  |_=>none
 | .call f args fr=>
  match (match C9 G env f with| .d (.fn (.func k) caps)=>some (k,caps.map V.d) | .fn (.func k) caps=>some (k,caps) |_=>none) with
  |some (k,caps)=>
   match Ul G env H args with
   |some (vs,H1)=>
    match cl k (vs++caps) H1 with
    |some (v,H2)=>
     match fr with
     |false=>some (v,H2)
     |true=>match fzV (Bc H1) H2 v with|some v'=>some (v',Cx H2 (Bc H1)) |none=>none
    |none=>none
   |none=>none
  |none=>none
 | .pcall f args=>
  match (match C9 G env f with| .d (.fn (.func k) caps)=>some (k,caps.map V.d) |_=>none) with
  |some (k,caps)=>
   let vs:=args.map (C9 G env)
   match Gq (R9 H) vs with
   |some ws=>
    match Be cl k (ws.map .d++caps) with
    |some v=>if vs.all J7||Zg v then some (v,H) else none
    |none=>
     match Gf cl k (ws.map .d++caps) with
     |some v=>if vs.all J7 then some (v,H) else none
     |none=>none
   |none=>none
  |none=>none
 | .len str x=>
  match str,C9 G env x with
  |true, .d (.str s)=>some (.d (.int .i64 (s.length:Int)),H)
  |false, .d (.vals _ xs)=>some (.d (.int .i64 (xs.length:Int)),H)
  |false, .nils _=>some (.d (.int .i64 0),H)
  |false, .slc _ _ _ n=>some (.d (.int .i64 (n:Int)),H)
  |_,_=>none
 | .append e bytes s x=>
  match Ry H (C9 G env x) with
  |some (ey,ys,Uo)=>
   match C9 G env s with
   | .nils e1=>
    match ys with
    | []=>if e1=e then some (.nils e,H) else none
    |y::ys=>if ey=e∧e1=e∧(y::ys).length*bytes≤Cq then some (.slc (Bc H) 0 0 (y::ys).length,Bt H (.row 0 e (y::ys))) else none
   | .slc r g i n=>
    match i,Cw H r g with
    |0,some (e',xs)=>
     if ey=e∧e'=e∧n≤xs.length∧(Uo||ys.all (Rt n0 r))=true then
      if n=xs.length then
       if(n+ys.length)*bytes≤Cq then some (.slc r (g+1) 0 (n+ys.length),Bz H r (.row (g+1) e (xs++ys))) else none
      else if n+ys.length≤xs.length then some (.slc r g 0 (n+ys.length),Bz H r (.row g e (xs.take n++ys++xs.drop (n+ys.length))))
      else if(n+ys.length)*bytes≤Cq then some (.slc r (g+1) 0 (n+ys.length),Bz H r (.row (g+1) e (xs.take n++ys)))
      else none
     else none
    |_,_=>none
   |_=>none
  |none=>none
 | .mnmx mx xs=>
  match xs.map (C9 G env) with
  |v::v2::vs=>match Uu mx v (v2::vs) with|some z=>some (z,H) |none=>none
  |_=>none
def Env.put (env:Env):Option Nat→V→Env
 |some d,v=> (d,v)::env
 |none,_=>env
noncomputable def Fw (cl:Fe) (G:Gx) (n0:Bn) (o:AOper) (st:St):Option St:=
 match o.guard with
 |none=> (match Cg cl G n0 st.env st.hp o.op with|some (v,H)=>some ⟨st.env.put o.dst v,H⟩ |none=>none)
 |some (t,want)=>
  match st.env.get t with
  | .d (.bool b)=>
   (bif b==want then(match Cg cl G n0 st.env st.hp o.op with|some (v,H)=>some ⟨st.env.put o.dst v,H⟩ |none=>none)
   else some ⟨st.env.put o.dst .und,st.hp⟩)
  | .und=>some ⟨st.env.put o.dst .und,st.hp⟩
  |_=>none
noncomputable def Pw (cl:Fe) (G:Gx) (n0:Bn):List AOper→St→Option St
 | [],st=>some st
 |o::os,st=>
  match Fw cl G n0 o st with
  |some st'=>Pw cl G n0 os st'
  |none=>none
def Bly (o:AOper) (st st':St):Prop:=
 match o.dst with
 |some d=>st'.hp=st.hp∧st'.env.get d=st.env.get d
 |none=>False
open Classical in
noncomputable def evX (cl:Fe) (G:Gx) (n0:Bn):List (Bool×AOper)→St→Option St
 | [],st=>some st
 | (true,o)::r,st=>
  match Fw cl G n0 o st with
  |some st'=>evX cl G n0 r st'
  |none=>none
 | (false,o)::r,st=>
  match Fw cl G n0 o st with
  |some st'=>if Bly o st st' then evX cl G n0 r st else none
  |none=>none
def Env.keep (env:Env):List Nat→Env
 | []=> []
 |t::r=> (t,env.get t)::Env.keep env r
def Jd (f:St→Option (Out×St)) (lv:List Nat):Nat→St→Option (Out×St)
 |0,_=>none
 |n+1,st=>
  match f ⟨st.env.keep lv,st.hp⟩ with
  |some (.normal,st')=>Jd f lv n st'
  |r=>r
noncomputable def Bp (cl:Fe) (G:Gx) (n0:Bn) (lp: (St→Option (Out×St))→List Nat→St→Option (Out×St)):ACode→St→Option (Out×St)
 | .skip,st=>some (.normal,st)
 | .reg _ ops,st=> (match Pw cl G n0 ops st with|some st'=>some (.normal,st') |none=>none)
 | .regx ops,st=> (match evX cl G n0 ops st with|some st'=>some (.normal,st') |none=>none)
 | .seq a lv b,st=>
  match Bp cl G n0 lp a st with
  |some (.normal,st')=>Bp cl G n0 lp b ⟨st'.env.keep lv,st'.hp⟩
  |r=>r
 | .cond c a b,st=>
  match C9 G st.env c with
  | .d (.bool t)=>bif t then Bp cl G n0 lp a st else Bp cl G n0 lp b st
  |_=>none
 | .block id b,st=>
  match Bp cl G n0 lp b st with
  |some (.exit id',st')=>bif Nat.beq id' id then some (.normal,st') else some (.exit id',st')
  |r=>r
 | .loop lv b,st=>lp (Bp cl G n0 lp b) lv st
 | .scope b,st=>Bp cl G n0 lp b st
 | .frz ts b,st=>
  match Be6 ts st.env st.hp with
  |some (e,H)=>Bp cl G n0 lp b ⟨e,H⟩
  |none=>none
 | .trim lv b,st=>
  match Bp cl G ⟨n0.n,Bc st.hp::n0.ts⟩ lp b st with
  |some (.normal,st')=>if(lv.all fun t=>Xl (Bc st.hp) (st'.env.get t))=true then some (.normal,⟨st'.env.keep lv,Cx st'.hp (Bc st.hp)⟩) else none
  |r=>r
 | .exit id,st=>some (.exit id,st)
 | .ret,st=>some (.ret,st)
def Qs:Nat→List V→Env
 |_,[]=> []
 |i,v::r=> (i,v)::Qs (i+1) r
def Tf (env:Env) (H:Hp):List ARes→Option (List V)
 | []=>some []
 | .tmp t::r=> (match Tf env H r with|some vs=>some (env.get t::vs) |none=>none)
 | .cell t ag n::r=>
  match env.get t with
  | .ptr p g i j=>
   match Dn H p g i j n with
   |some cs=>
    match K8 ag cs,Tf env H r with
    |some v,some vs=>some (v::vs)
    |_,_=>none
   |none=>none
  |_=>none
def Bcu:List V→V
 | [v]=>v
 |vs=> .tup vs
def Bg8 (fn:AFunc) (n:Nat) (st:St):Option (V×Hp):=
 match Tf st.env st.hp fn.res with
 |some vs=>
  match fn.own with
  |true=>
   match Bzx n st.hp (Cx st.hp n) vs with
   |some (ws,_,H)=>some (Bcu ws,H)
   |none=>none
  |false=>
   match Gq (fzV n st.hp) vs with
   |some ws=>some (Bcu ws,Cx st.hp n)
   |none=>none
 |none=>none
noncomputable def Cs (cl:Fe) (G:Gx) (lp: (St→Option (Out×St))→List Nat→St→Option (Out×St)) (fn:AFunc) (args:List V) (H:Hp):Option (V×Hp):=
 if args.length=fn.np then
  match Bp cl G (Bc H) lp fn.body ⟨Qs 0 args,H⟩ with
  |some (.normal,st)=>Bg8 fn (Bc H) st
  |some (.ret,st)=>Bg8 fn (Bc H) st
  |_=>none
 else none
structure Prg where
 fns:Nat→Option AFunc
 glob:Gx
 prim:Nat→Option (List V→Hp→Option (V×Hp))
abbrev Jn:=Nat→Prop
abbrev Pl:=Nat→Nat→Option (Nat×Nat×Nat)
inductive RD (w:World) (O:Jn):D→Value→Prop where
 |bool (b:Bool):RD w O (.bool b) (.bool b)
 |int (k:IntKind) (n:Int):RD w O (.int k n) (.int k n)
 |str (s:List UInt8) (t:ByteArray) (h:t.data.toList=s):RD w O (.str s) (.string t)
 |agg (cs:List D) (us:Array Value) (hl:us.size=cs.length) (h1: ∀i,i<cs.length→(us.getD i undef).oneCell'=true) (h: ∀i,i<cs.length→RD w O (cs.getD i .nilp) (us.getD i undef)):RD w O (.agg cs) (.agg us)
 |vals0 (e:Nat) (a:Option Addr) (cap:Nat):RD w O (.vals e []) (.slice a 0 cap)
 |vals (e:Nat) (xs:List D) (b o cap:Nat) (F:Nat→Nat→Value) (hcap:xs.length≤cap) (hO: ¬O b) (hb:b<w.heap.size)
   (he: ∀i,i<xs.length→(xs.getD i .nilp).cells.length=e)
   (hc: ∀i j,i<xs.length→j<e→w.cell? ⟨b,o+i*e+j,none⟩=some (F i j)) (h1: ∀i j,i<xs.length→j<e→(F i j).oneCell'=true)
   (hr: ∀i j,i<xs.length→j<e→RD w O ((xs.getD i .nilp).cells.getD j .nilp) (F i j)):RD w O (.vals e xs) (.slice (some ⟨b,o,none⟩) xs.length cap)
 |nilp:RD w O .nilp (.pointer none)
 |rptr (cs:List D) (b o:Nat) (F:Nat→Value) (hO: ¬O b) (hb:b<w.heap.size)
   (hc: ∀j,j<cs.length→w.cell? ⟨b,o+j,none⟩=some (F j)) (h1: ∀j,j<cs.length→(F j).oneCell'=true)
   (hr: ∀j,j<cs.length→RD w O (cs.getD j .nilp) (F j)):RD w O (.rptr cs) (.pointer (some ⟨b,o,none⟩))
 |fn (f:Fn) (caps:List D) (us:Array Value) (hl:us.size=caps.length) (h: ∀i,i<caps.length→RD w O (caps.getD i .nilp) (us.getD i undef)):RD w O (.fn f caps) (.func f #[] us)
 |nilfn:RD w O .nilfn .nilFunc
 |iface (t:Nat) (x:D) (u:Value) (h:RD w O x u):RD w O (.iface t x) (.iface t u)
 |niface:RD w O .niface .nilIface
 |mval0:RD w O (.mval [] []) (.map none)
 |mval (ks vs:List D) (b:Nat) (es:Array MapEntry) (clock:Nat) (hO: ¬O b) (hb:b<w.heap.size) (hm:w.heap[b]? =some (.map es clock))
   (hk:es.size=ks.length) (hv:es.size=vs.length)
   (hrk: ∀i,i<es.size→RD w O (ks.getD i .nilp) (es.getD i default).key)
   (hrv: ∀i,i<es.size→RD w O (vs.getD i .nilp) (es.getD i default).val):RD w O (.mval ks vs) (.map (some b))
inductive RV (w:World) (O:Jn) (pl:Pl) (n:Nat):V→Value→Prop where
 |d (x:D) (u:Value) (h:RD w O x u):RV w O pl n (.d x) u
 |agg (cs:List V) (us:Array Value) (hl:us.size=cs.length) (h1: ∀i,i<cs.length→(us.getD i undef).oneCell'=true) (h: ∀i,i<cs.length→RV w O pl n (cs.getD i .any) (us.getD i undef)):RV w O pl n (.agg cs) (.agg us)
 |tup (cs:List V) (us:Array Value) (hl:us.size=cs.length) (h: ∀i,i<cs.length→RV w O pl n (cs.getD i .any) (us.getD i undef)):RV w O pl n (.tup cs) (.tuple us)
 |slc (r g i k b e c:Nat) (hr:r<n) (hp:pl r g=some (b,e,c)) (hk:i+k≤c):RV w O pl n (.slc r g i k) (.slice (some ⟨b,i*e,none⟩) k (c - i))
 |slc0 (r g i:Nat) (a:Option Addr) (cap:Nat) (hi:0<i) (hr:r<n):RV w O pl n (.slc r g i 0) (.slice a 0 cap)
 |ptr (r g i j b e c:Nat) (hr:r<n) (hp:pl r g=some (b,e,c)):RV w O pl n (.ptr r g i j) (.pointer (some ⟨b,i*e+j,none⟩))
 |fn (f:Fn) (cs:List V) (us:Array Value) (hl:us.size=cs.length) (h: ∀i,i<cs.length→RV w O pl n (cs.getD i .any) (us.getD i undef)):RV w O pl n (.fn f cs) (.func f #[] us)
 |mref (r b e c:Nat) (hr:r<n) (hp:pl r 0=some (b,e,c)):RV w O pl n (.mref r) (.map (some b))
 |nils (e:Nat) (a:Option Addr):RV w O pl n (.nils e) (.slice a 0 0)
 |und:RV w O pl n .und undef
 |any (u:Value):RV w O pl n .any u
structure Ext (w:World) (O:Jn) (w':World) (O':Jn):Prop where
 os:w'.os=w.os
 tape:w'.tape=w.tape
 output:w'.output=w.output
 size:w.heap.size≤w'.heap.size
 keep: ∀b,b<w.heap.size→¬O b→w'.heap[b]? =w.heap[b]? ∧¬O' b
theorem Ext.refl (w:World) (O:Jn):Ext w O w O:=⟨rfl,rfl,rfl,Nat.le_refl _,fun _ _ h=> ⟨rfl,h⟩⟩
theorem Ext.trans {w w1 w2:World} {O O1 O2:Jn} (h:Ext w O w1 O1) (k:Ext w1 O1 w2 O2):Ext w O w2 O2:=
 ⟨k.os.trans h.os,k.tape.trans h.tape,k.output.trans h.output,Nat.le_trans h.size k.size,fun b hb hO=>by
  obtain⟨h1,h2⟩:=h.keep b hb hO
  obtain⟨k1,k2⟩:=k.keep b (Nat.lt_of_lt_of_le hb h.size) h2
  exact⟨k1.trans h1,k2⟩⟩
theorem Wx {w w':World} {b o:Nat} (h:w'.heap[b]? =w.heap[b]?):w'.cell? ⟨b,o,none⟩=w.cell? ⟨b,o,none⟩:=by
 simp only[World.cell?,h]
theorem RD.mono {w w':World} {O O':Jn} (E:Ext w O w' O') {x:D} {u:Value} (h:RD w O x u):RD w' O' x u:=by
 induction h with
 |bool b=>exact .bool b
 |int k n=>exact .int k n
 |str s t h=>exact .str s t h
 |agg cs us hl h1 _ ih=>exact .agg cs us hl h1 ih
 |vals0 e a cap=>exact .vals0 e a cap
 |vals e xs b o cap F hcap hO hb he hc h1c _ ih=>
  obtain⟨h1,h2⟩:=E.keep b hb hO
  exact .vals e xs b o cap F hcap h2 (Nat.lt_of_lt_of_le hb E.size) he (fun i j hi hj=> (Wx h1).trans (hc i j hi hj)) h1c ih
 |nilp=>exact .nilp
 |rptr cs b o F hO hb hc h1c _ ih=>
  obtain⟨h1,h2⟩:=E.keep b hb hO
  exact .rptr cs b o F h2 (Nat.lt_of_lt_of_le hb E.size) (fun j hj=> (Wx h1).trans (hc j hj)) h1c ih
 |fn f caps us hl _ ih=>exact .fn f caps us hl ih
 |nilfn=>exact .nilfn
 |iface t x u _ ih=>exact .iface t x u ih
 |niface=>exact .niface
 |mval0=>exact .mval0
 |mval ks vs b es clock hO hb hm hk hv _ _ ihk ihv=>
  obtain⟨h1,h2⟩:=E.keep b hb hO
  exact .mval ks vs b es clock h2 (Nat.lt_of_lt_of_le hb E.size) (h1.trans hm) hk hv ihk ihv
def PlExt (n:Nat) (pl pl':Pl):Prop:=∀r,r<n→∀g p,pl r g=some p→pl' r g=some p
theorem PlExt.refl (n:Nat) (pl:Pl):PlExt n pl pl:=fun _ _ _ _ h=>h
theorem PlExt.trans {n:Nat} {pl pl1 pl2:Pl} (h:PlExt n pl pl1) (k:PlExt n pl1 pl2):PlExt n pl pl2:=fun r hr g p hp=>k r hr g p (h r hr g p hp)
theorem PlExt.le {m n:Nat} {pl pl':Pl} (h:PlExt n pl pl') (hm:m≤n):PlExt m pl pl':=fun r hr=>h r (Nat.lt_of_lt_of_le hr hm)
theorem RV.mono {w w':World} {O O':Jn} {pl pl':Pl} {n n':Nat} (E:Ext w O w' O') (hp:PlExt n pl pl') (hn:n≤n') {x:V} {u:Value}
  (h:RV w O pl n x u):RV w' O' pl' n' x u:=by
 induction h with
 |d x u h=>exact .d x u (h.mono E)
 |agg cs us hl h1 _ ih=>exact .agg cs us hl h1 ih
 |tup cs us hl _ ih=>exact .tup cs us hl ih
 |slc r g i k b e c hr h hk=>exact .slc r g i k b e c (Nat.lt_of_lt_of_le hr hn) (hp r hr g _ h) hk
 |slc0 r g i a cap hi hr=>exact .slc0 r g i a cap hi (Nat.lt_of_lt_of_le hr hn)
 |ptr r g i j b e c hr h=>exact .ptr r g i j b e c (Nat.lt_of_lt_of_le hr hn) (hp r hr g _ h)
 |fn f cs us hl _ ih=>exact .fn f cs us hl ih
 |mref r b e c hr h=>exact .mref r b e c (Nat.lt_of_lt_of_le hr hn) (hp r hr 0 _ h)
 |nils e a=>exact .nils e a
 |any u=>exact .any u
 |und=>exact .und
def Gu (pl:Pl) (H:Hp) (r:Nat):Option Nat:=
 match Cf H r with
 |some (.row g _ _)=> (pl r g).map (·.1)
 |some (.map _ _)=> (pl r 0).map (·.1)
 |_=>none
def Bj (pl:Pl) (H:Hp):Jn:=fun b=> ∃r,Gu pl H r=some b
def Mr (fr:Nat×Nat) (n:Nat):Prop:=∀o,o<n→¬ (fr.1≤o∧o<fr.2)
inductive OR (w:World) (O:Jn) (pl:Pl) (n:Nat) (r:Nat):Obj→Prop where
 |dead:OR w O pl n r .dead
 |row (g e:Nat) (xs:List V) (b c:Nat) (arr:Array Value) (ty:TypeId) (fr:Nat×Nat) (hp:pl r g=some (b,e,c)) (hh:w.heap[b]? =some (.cells arr ty fr))
   (hs:arr.size=c*e) (hf:Mr fr arr.size) (hx:xs.length≤c) (he: ∀i,i<xs.length→(xs.getD i .any).cells.length=e)
   (hr: ∀i j,i<xs.length→j<e→RV w O pl n ((xs.getD i .any).cells.getD j .any) (arr.getD (i*e+j) undef))
   (h1: ∀i j,i<xs.length→j<e→(arr.getD (i*e+j) undef).oneCell'=true) (hg: ∀g',g<g'→pl r g'=none):OR w O pl n r (.row g e xs)
 |map (ks vs:List V) (b e c:Nat) (es:Array MapEntry) (clock:Nat) (hp:pl r 0=some (b,e,c)) (hh:w.heap[b]? =some (.map es clock))
   (hk:es.size=ks.length) (hv:es.size=vs.length)
   (hrk: ∀i,i<es.size→RV w O pl n (ks.getD i .any) (es.getD i default).key)
   (hrv: ∀i,i<es.size→RV w O pl n (vs.getD i .any) (es.getD i default).val):OR w O pl n r (.map ks vs)
structure HR (w:World) (pl:Pl) (Bd:Nat→Prop) (H:Hp):Prop where
 obj: ∀r o,Cf H r=some o→OR w (Bj pl H) pl (Bc H) r o
 inj: ∀r r' b,Gu pl H r=some b→Gu pl H r'=some b→r=r'
 bd: ∀m,Bd m→∀r o,r<m→Cf H r=some o→OR w (Bj pl H) pl m r o
 le: ∀m,Bd m→m≤Bc H
theorem OR.mono {w w':World} {O O':Jn} {pl pl':Pl} {n n' r:Nat} (E:Ext w O w' O') (hp:PlExt n pl pl') (hn:n≤n') {o:Obj}
  (hpr:pl' r=pl r) (hb: ∀g b e c,pl r g=some (b,e,c)→w'.heap[b]? =w.heap[b]?) (h:OR w O pl n r o):OR w' O' pl' n' r o:=by
 cases h with
 |dead=>exact .dead
 |row g e xs b c arr ty fr hp' hh hs hf hx he hr h1 hg=>
  exact .row g e xs b c arr ty fr (by rw[hpr];exact hp') ((hb g b e c hp').trans hh) hs hf hx he (fun i j hi hj=> (hr i j hi hj).mono E hp hn) h1 (by rw[hpr];exact hg)
 |map ks vs b e c es clock hp' hh hk hv hrk hrv=>
  exact .map ks vs b e c es clock (by rw[hpr];exact hp') ((hb 0 b e c hp').trans hh) hk hv (fun i hi=> (hrk i hi).mono E hp hn) (fun i hi=> (hrv i hi).mono E hp hn)
theorem Qc {pl:Pl} {H:Hp} {r b:Nat} (h:Gu pl H r=some b): ∃o,Cf H r=some o:=by
 unfold Gu at h
 cases hg:Cf H r with
 |none=>rw[hg] at h;simp at h
 |some o=>exact⟨o,rfl⟩
theorem D6 {H:Hp} {r:Nat} {o:Obj} (h:Cf H r=some o):r<Bc H:=by
 induction H generalizing r with
 |nil=>simp[Cf] at h
 |cons a H ih=>
  cases r with
  |zero=>simp[Bc]
  |succ r=>have:=ih (by simpa[Cf] using h);simp[Bc] at*;omega
theorem Br (H:Hp) (r:Nat) (o:Obj):Bc (Bz H r o)=Bc H:=by
 induction H generalizing r with
 |nil=>rfl
 |cons a H ih=>cases r with
  |zero=>rfl
  |succ r=>have:=ih r;simp only[Bc,Bz,List.length_cons] at*;omega
theorem Ch (H:Hp) (o:Obj):Bc (Bt H o)=Bc H+1:=by simp[Bc,Bt]
theorem Co {H:Hp} {r:Nat} (o:Obj) (h:r<Bc H):Cf (Bz H r o) r=some o:=by
 induction H generalizing r with
 |nil=>simp[Bc] at h
 |cons a H ih=>cases r with
  |zero=>rfl
  |succ r=>exact ih (by simp[Bc] at*;omega)
theorem F8 {H:Hp} {r r':Nat} (o:Obj) (h:r'≠r):Cf (Bz H r o) r'=Cf H r':=by
 induction H generalizing r r' with
 |nil=>rfl
 |cons a H ih=>cases r with
  |zero=>cases r' with
   |zero=>exact absurd rfl h
   |succ r'=>rfl
  |succ r=>cases r' with
   |zero=>rfl
   |succ r'=>exact ih (by omega)
theorem Dz {H:Hp} {r:Nat} (o:Obj) (h:r<Bc H):Cf (Bt H o) r=Cf H r:=by
 induction H generalizing r with
 |nil=>simp[Bc] at h
 |cons a H ih=>cases r with
  |zero=>rfl
  |succ r=>exact ih (by simp[Bc] at*;omega)
theorem Dr (H:Hp) (o:Obj):Cf (Bt H o) (Bc H)=some o:=by
 induction H with
 |nil=>rfl
 |cons a H ih=>exact ih
theorem OR.block {w:World} {pl:Pl} {H:Hp} {r b:Nat} {O:Jn} {n:Nat} {o:Obj} (ho:Cf H r=some o) (h:OR w O pl n r o) (hb:Gu pl H r=some b):b<w.heap.size:=by
 unfold Gu at hb
 rw[ho] at hb
 cases h with
 |dead=>simp at hb
 |row g e xs b' c arr ty fr hp hh=>simp[hp] at hb;subst hb;exact(Array.getElem?_eq_some_iff.1 hh).1
 |map ks vs b' e c es clock hp hh=>simp[hp] at hb;subst hb;exact(Array.getElem?_eq_some_iff.1 hh).1
theorem HR.owned_lt {w:World} {pl:Pl} {Bd:Nat→Prop} {H:Hp} (h:HR w pl Bd H) {b:Nat} (hb:Bj pl H b):b<w.heap.size:=by
 obtain⟨r,hr⟩:=hb
 obtain⟨o,ho⟩:=Qc hr
 exact(h.obj r o ho).block ho hr
structure Same (w w':World):Prop where
 os:w'.os=w.os
 tape:w'.tape=w.tape
 output:w'.output=w.output
theorem Same.refl (w:World):Same w w:=⟨rfl,rfl,rfl⟩
theorem Same.trans {w w1 w2:World} (h:Same w w1) (k:Same w1 w2):Same w w2:=⟨k.os.trans h.os,k.tape.trans h.tape,k.output.trans h.output⟩
def Ku (pl:Pl) (r:Nat) (p:Nat×Nat×Nat):Pl:=fun r' g=>if r'=r then(if g=0 then some p else none) else pl r' g
def Nj (pl:Pl) (r g:Nat) (p:Nat×Nat×Nat):Pl:=fun r' g'=>if r'=r then(if g'=g then some p else pl r' g') else pl r' g'
theorem K9 {pl:Pl} {r r':Nat} {p:Nat×Nat×Nat} (h:r'≠r):Ku pl r p r'=pl r':=by
 funext g;simp[Ku,h]
theorem Jb (pl:Pl) (r:Nat) (p:Nat×Nat×Nat):Ku pl r p r 0=some p:=by simp[Ku]
theorem Sw {pl:Pl} {r r' g:Nat} {p:Nat×Nat×Nat} (h:r'≠r):Nj pl r g p r'=pl r':=by
 funext g;simp[Nj,h]
theorem Pn (pl:Pl) (r g:Nat) (p:Nat×Nat×Nat):Nj pl r g p r g=some p:=by simp[Nj]
theorem Zc {pl:Pl} {H:Hp} {o:Obj} {p:Nat×Nat×Nat} {r:Nat} (h:r<Bc H):Gu (Ku pl (Bc H) p) (Bt H o) r=Gu pl H r:=by
 unfold Gu
 rw[Dz o h,K9 (by omega)]
theorem HR.push {w w':World} {pl:Pl} {Bd:Nat→Prop} {H:Hp} (h:HR w pl Bd H) (o:Obj) (ob:Go.Obj) (e c:Nat) (hw:w'.heap=w.heap.push ob) (hs:Same w w')
  (hb:Gu (Ku pl (Bc H) (w.heap.size,e,c)) (Bt H o) (Bc H)=some w.heap.size)
  (ho: ∀O',Ext w (Bj pl H) w' O'→OR w' O' (Ku pl (Bc H) (w.heap.size,e,c)) (Bc H+1) (Bc H) o):
  HR w' (Ku pl (Bc H) (w.heap.size,e,c)) Bd (Bt H o)∧Ext w (Bj pl H) w' (Bj (Ku pl (Bc H) (w.heap.size,e,c)) (Bt H o))∧PlExt (Bc H) pl (Ku pl (Bc H) (w.heap.size,e,c)):=by
 have hget': ∀b,b<w.heap.size→w'.heap[b]? =w.heap[b]? :=fun b hb=>by rw[hw,Array.getElem?_push_lt hb,Array.getElem?_eq_getElem hb]
 have hown: ∀r b,Gu (Ku pl (Bc H) (w.heap.size,e,c)) (Bt H o) r=some b→(r=Bc H∧b=w.heap.size)∨(r<Bc H∧Gu pl H r=some b):=by
  intro r b hr
  rcases Nat.lt_trichotomy r (Bc H) with hlt|heq|hgt
  ·exact .inr ⟨hlt,by rwa[Zc hlt] at hr⟩
  ·subst heq;rw[hb] at hr;exact .inl ⟨rfl,by simpa using hr.symm⟩
  ·obtain⟨o',ho'⟩:=Qc hr
   have:=D6 ho'
   rw[Ch] at this
   omega
 have E:Ext w (Bj pl H) w' (Bj (Ku pl (Bc H) (w.heap.size,e,c)) (Bt H o)):=by
  refine⟨hs.os,hs.tape,hs.output,by rw[hw];simp,fun b hlt hO=> ⟨hget' b hlt, ?_⟩⟩
  rintro⟨r,hr⟩
  rcases hown r b hr with⟨_,hb'⟩ | ⟨_,hb'⟩
  ·omega
  ·exact hO ⟨r,hb'⟩
 have hpl:PlExt (Bc H) pl (Ku pl (Bc H) (w.heap.size,e,c)):=fun r hr g p hp=>by rw[K9 (by omega)];exact hp
 have hold: ∀r o',r<Bc H→Cf H r=some o'→∀m n',PlExt m pl (Ku pl (Bc H) (w.heap.size,e,c))→m≤n'→OR w (Bj pl H) pl m r o'→
   OR w' (Bj (Ku pl (Bc H) (w.heap.size,e,c)) (Bt H o)) (Ku pl (Bc H) (w.heap.size,e,c)) n' r o':=by
  intro r o' hr ho' m n' hm hn hor
  cases hor with
  |dead=>exact .dead
  |row g e xs b c arr ty fr hp' hh hs hf hx he hr' h1 hg=>
   have hbs:=(Array.getElem?_eq_some_iff.1 hh).1
   exact .row g e xs b c arr ty fr (by rw[K9 (by omega)];exact hp') ((hget' b hbs).trans hh) hs hf hx he (fun i j hi hj=> (hr' i j hi hj).mono E hm hn) h1 (by rw[K9 (by omega)];exact hg)
  |map ks vs b e c es clock hp' hh hk hv hrk hrv=>
   have hbs:=(Array.getElem?_eq_some_iff.1 hh).1
   exact .map ks vs b e c es clock (by rw[K9 (by omega)];exact hp') ((hget' b hbs).trans hh) hk hv (fun i hi=> (hrk i hi).mono E hm hn) (fun i hi=> (hrv i hi).mono E hm hn)
 refine⟨⟨?_, ?_, ?_, ?_⟩,E,hpl⟩
 ·intro r o' hr
  have hlt:=D6 hr
  rw[Ch] at hlt⊢
  rcases Nat.lt_or_eq_of_le (Nat.lt_succ_iff.1 hlt) with hlt'|heq
  ·rw[Dz o hlt'] at hr
   exact hold r o' hlt' hr _ _ hpl (by omega) (h.obj r o' hr)
  ·subst heq
   rw[Dr] at hr
   obtain rfl:=Option.some.inj hr
   exact ho _ E
 ·intro r r' b hr hr'
  rcases hown r b hr with⟨h1,h2⟩ | ⟨h1,h2⟩<;>rcases hown r' b hr' with⟨k1,k2⟩ | ⟨k1,k2⟩
  ·omega
  ·have:=h.owned_lt ⟨r',k2⟩;omega
  ·have:=h.owned_lt ⟨r,h2⟩;omega
  ·exact h.inj r r' b h2 k2
 ·intro m hm r o' hr ho'
  have hmle:=h.le m hm
  have hlt:r<Bc H:=by omega
  rw[Dz o hlt] at ho'
  exact hold r o' hlt ho' _ _ (hpl.le hmle) (Nat.le_refl _) (h.bd m hm r o' hr ho')
 ·intro m hm
  have:=h.le m hm
  rw[Ch];omega
theorem HR.setRow {w w':World} {pl:Pl} {Bd:Nat→Prop} {H:Hp} (h:HR w pl Bd H) {r g g' e:Nat} {xs xs':List V} {b c b' c':Nat} {arr':Array Value} {ty:TypeId} {fr:Nat×Nat}
  (hr:Cf H r=some (.row g e xs)) (hp:pl r g=some (b,e,c)) (hg:g≤g') (hgg:g'=g→(b',c')=(b,c))
  (hs:Same w w') (hsz:w.heap.size≤w'.heap.size) (hoth: ∀b'',b''<w.heap.size→b''≠b→w'.heap[b'']? =w.heap[b'']?)
  (hb':b'=b∨w.heap.size≤b') (hh:w'.heap[b']? =some (.cells arr' ty fr)) (hsa:arr'.size=c'*e) (hf:Mr fr arr'.size) (hx:xs'.length≤c')
  (he: ∀i,i<xs'.length→(xs'.getD i .any).cells.length=e)
  (h1: ∀i j,i<xs'.length→j<e→(arr'.getD (i*e+j) undef).oneCell'=true)
  (hrel: ∀m,(m=Bc H∨(Bd m∧r<m))→∀i j,i<xs'.length→j<e→RV w (Bj pl H) pl m ((xs'.getD i .any).cells.getD j .any) (arr'.getD (i*e+j) undef)):
  HR w' (Nj pl r g' (b',e,c')) Bd (Bz H r (.row g' e xs'))∧Ext w (Bj pl H) w' (Bj (Nj pl r g' (b',e,c')) (Bz H r (.row g' e xs')))∧PlExt (Bc H) pl (Nj pl r g' (b',e,c')):=by
 have hrl:=D6 hr
 have hbl:Gu pl H r=some b:=by simp[Gu,hr,hp]
 have hpg: ∀g'',g<g''→pl r g''=none:=by
  have:=h.obj r _ hr
  cases this with
  |row _ _ _ _ _ _ _ _ _ _ _ _ _ _ _ _ hg=>exact hg
 have hbk: ∀r',r'≠r→Gu (Nj pl r g' (b',e,c')) (Bz H r (.row g' e xs')) r'=Gu pl H r':=by
  intro r' hne
  unfold Gu
  rw[F8 _ hne,Sw hne]
 have hbr:Gu (Nj pl r g' (b',e,c')) (Bz H r (.row g' e xs')) r=some b':=by
  unfold Gu
  rw[Co _ hrl]
  simp[Pn]
 have hblt:b<w.heap.size:=h.owned_lt ⟨r,hbl⟩
 have E:Ext w (Bj pl H) w' (Bj (Nj pl r g' (b',e,c')) (Bz H r (.row g' e xs'))):=by
  refine⟨hs.os,hs.tape,hs.output,hsz,fun b'' hlt hO=> ⟨hoth b'' hlt (fun hh=>hO ⟨r,by rw[hh];exact hbl⟩), ?_⟩⟩
  rintro⟨r',hr'⟩
  by_cases hne:r'=r
  ·subst hne
   rw[hbr] at hr'
   have hbb:b'=b'':=by simpa using hr'
   rcases hb' with h1|h1
   ·exact hO ⟨r',by rw[hbl,←h1,hbb]⟩
   ·omega
  ·rw[hbk r' hne] at hr'
   exact hO ⟨r',hr'⟩
 have hpl:PlExt (Bc H) pl (Nj pl r g' (b',e,c')):=by
  intro r' _ g'' p hp'
  by_cases hne:r'=r
  ·subst hne
   by_cases hgg':g''=g'
   ·subst hgg'
    rcases Nat.lt_or_eq_of_le hg with h1|h1
    ·rw[hpg _ h1] at hp';cases hp'
    ·have hbc:=hgg h1.symm
     simp only[Prod.mk.injEq] at hbc
     rw[Pn,←hp',←h1,hp,hbc.1,hbc.2]
   ·simp[Nj,hgg',hp']
  ·rw[Sw hne];exact hp'
 have hnew: ∀m,(m=Bc H∨(Bd m∧r<m))→m≤Bc H→OR w' (Bj (Nj pl r g' (b',e,c')) (Bz H r (.row g' e xs'))) (Nj pl r g' (b',e,c')) m r (.row g' e xs'):=by
  intro m hm hle
  refine .row g' e xs' b' c' arr' ty fr (Pn ..) hh hsa hf hx he (fun i j hi hj=> (hrel m hm i j hi hj).mono E (hpl.le hle) (Nat.le_refl _)) h1 ?_
  intro g'' hg''
  show(if r=r then(if g''=g' then some (b',e,c') else pl r g'') else pl r g'')=none
  rw[if_pos rfl,if_neg (by omega)]
  exact hpg g'' (by omega)
 have hold: ∀r' o' m,r'≠r→Cf H r'=some o'→m≤Bc H→OR w (Bj pl H) pl m r' o'→
   OR w' (Bj (Nj pl r g' (b',e,c')) (Bz H r (.row g' e xs'))) (Nj pl r g' (b',e,c')) m r' o':=by
  intro r' o' m hne ho' hle hor
  cases hor with
  |dead=>exact .dead
  |row g1 e1 xs1 b1 c1 arr1 ty1 fr1 hp1 hh1 hs1 hf1 hx1 he1 hr1 h11 hg1=>
   have hbs:=(Array.getElem?_eq_some_iff.1 hh1).1
   have hb1:Gu pl H r'=some b1:=by simp[Gu,ho',hp1]
   have hne1:b1≠b:=fun hh=>hne (h.inj r' r b1 hb1 (by rw[hh];exact hbl))
   exact .row g1 e1 xs1 b1 c1 arr1 ty1 fr1 (by rw[Sw hne];exact hp1) ((hoth b1 hbs hne1).trans hh1) hs1 hf1 hx1 he1 (fun i j hi hj=> (hr1 i j hi hj).mono E (hpl.le hle) (Nat.le_refl _)) h11 (by rw[Sw hne];exact hg1)
  |map ks vs b1 e1 c1 es clock hp1 hh1 hk hv hrk hrv=>
   have hbs:=(Array.getElem?_eq_some_iff.1 hh1).1
   have hb1:Gu pl H r'=some b1:=by simp[Gu,ho',hp1]
   have hne1:b1≠b:=fun hh=>hne (h.inj r' r b1 hb1 (by rw[hh];exact hbl))
   exact .map ks vs b1 e1 c1 es clock (by rw[Sw hne];exact hp1) ((hoth b1 hbs hne1).trans hh1) hk hv (fun i hi=> (hrk i hi).mono E (hpl.le hle) (Nat.le_refl _)) (fun i hi=> (hrv i hi).mono E (hpl.le hle) (Nat.le_refl _))
 refine⟨⟨?_, ?_, ?_, ?_⟩,E,hpl⟩
 ·intro r' o' ho'
  rw[Br]
  by_cases hne:r'=r
  ·subst hne
   rw[Co _ hrl] at ho'
   obtain rfl:=Option.some.inj ho'
   exact hnew _ (.inl rfl) (Nat.le_refl _)
  ·rw[F8 _ hne] at ho'
   exact hold r' o' _ hne ho' (Nat.le_refl _) (h.obj r' o' ho')
 ·intro r1 r2 b1 h1 h2
  by_cases n1:r1=r<;>by_cases n2:r2=r
  ·rw[n1,n2]
  ·subst n1
   rw[hbr] at h1
   rw[hbk r2 n2] at h2
   have hbb:b'=b1:=by simpa using h1
   rcases hb' with h3|h3
   ·have hx2:Gu pl H r2=some b:=by rw[h2,←hbb,h3]
    exact absurd (h.inj r2 r1 b hx2 hbl) n2
   ·have:=h.owned_lt ⟨r2,h2⟩;omega
  ·subst n2
   rw[hbr] at h2
   rw[hbk r1 n1] at h1
   have hbb:b'=b1:=by simpa using h2
   rcases hb' with h3|h3
   ·have hx1:Gu pl H r1=some b:=by rw[h1,←hbb,h3]
    exact h.inj r1 r2 b hx1 hbl
   ·have:=h.owned_lt ⟨r1,h1⟩;omega
  ·rw[hbk r1 n1] at h1
   rw[hbk r2 n2] at h2
   exact h.inj r1 r2 b1 h1 h2
 ·intro m hm r' o' hlt ho'
  by_cases hne:r'=r
  ·subst hne
   rw[Co _ hrl] at ho'
   obtain rfl:=Option.some.inj ho'
   exact hnew m (.inr ⟨hm,hlt⟩) (h.le m hm)
  ·rw[F8 _ hne] at ho'
   exact hold r' o' m hne ho' (h.le m hm) (h.bd m hm r' o' hlt ho')
 ·intro m hm
  rw[Br];exact h.le m hm
theorem HR.kill {w:World} {pl:Pl} {Bd:Nat→Prop} {H:Hp} (h:HR w pl Bd H) (r:Nat):
  HR w pl Bd (Bz H r .dead)∧Ext w (Bj pl H) w (Bj pl (Bz H r .dead)):=by
 have hbk: ∀r' b,Gu pl (Bz H r .dead) r'=some b→r'≠r∧Gu pl H r'=some b:=by
  intro r' b hb
  by_cases hne:r'=r
  ·subst hne
   obtain⟨o,ho⟩:=Qc hb
   have:=D6 ho
   rw[Br] at this
   unfold Gu at hb
   rw[Co _ this] at hb
   simp at hb
  ·refine⟨hne, ?_⟩
   unfold Gu at hb⊢
   rwa[F8 _ hne] at hb
 have E:Ext w (Bj pl H) w (Bj pl (Bz H r .dead)):=⟨rfl,rfl,rfl,Nat.le_refl _,fun b _ hO=> ⟨rfl,fun ⟨r',hr'⟩=>hO ⟨r',(hbk r' b hr').2⟩⟩⟩
 have hkeep: ∀r' o' m,Cf (Bz H r .dead) r'=some o'→(∀o'',Cf H r'=some o''→OR w (Bj pl H) pl m r' o'')→OR w (Bj pl (Bz H r .dead)) pl m r' o':=by
  intro r' o' m ho' hor
  by_cases hne:r'=r
  ·subst hne
   have:=D6 ho'
   rw[Br] at this
   rw[Co _ this] at ho'
   obtain rfl:=Option.some.inj ho'
   exact .dead
  ·rw[F8 _ hne] at ho'
   exact(hor o' ho').mono E (PlExt.refl _ _) (Nat.le_refl _) rfl (fun _ _ _ _ _=>rfl)
 refine⟨⟨fun r' o' ho'=> ?_,fun r1 r2 b h1 h2=>h.inj r1 r2 b (hbk _ _ h1).2 (hbk _ _ h2).2,fun m hm r' o' hlt ho'=>hkeep r' o' m ho' (fun o'' h''=>h.bd m hm r' o'' hlt h''),fun m hm=> ?_⟩,E⟩
 ·rw[Br]
  exact hkeep r' o' _ ho' (fun o'' h''=>h.obj r' o'' h'')
 ·rw[Br];exact h.le m hm
theorem F9 {H:Hp} {n:Nat} (h:n≤Bc H):Bc (Cx H n)=n:=by simp[Bc,Cx] at*;omega
theorem Rn {H:Hp} {n r:Nat} (h:r<n):Cf (Cx H n) r=Cf H r:=by
 induction H generalizing n r with
 |nil=>simp[Cx,Cf]
 |cons a H ih=>
  cases n with
  |zero=>omega
  |succ n=>cases r with
   |zero=>rfl
   |succ r=>exact ih (by omega)
theorem Gv {H:Hp} {n r:Nat} {o:Obj} (h:Cf (Cx H n) r=some o):r<n∧Cf H r=some o:=by
 have hlt:=D6 h
 have:r<n:=by simp[Bc,Cx] at hlt;omega
 exact⟨this,by rwa[Rn this] at h⟩
theorem HR.take {w:World} {pl:Pl} {Bd Bd':Nat→Prop} {H:Hp} (h:HR w pl Bd H) (n:Nat) (hn:Bd n) (hB: ∀m,Bd' m→Bd m∧m≤n):
  HR w pl Bd' (Cx H n)∧Ext w (Bj pl H) w (Bj pl (Cx H n)):=by
 have hle:=h.le n hn
 have hbk: ∀r' b,Gu pl (Cx H n) r'=some b→r'<n∧Gu pl H r'=some b:=by
  intro r' b hb
  obtain⟨o,ho⟩:=Qc hb
  obtain⟨hlt,ho'⟩:=Gv ho
  refine⟨hlt, ?_⟩
  unfold Gu at hb⊢
  rwa[Rn hlt] at hb
 have E:Ext w (Bj pl H) w (Bj pl (Cx H n)):=⟨rfl,rfl,rfl,Nat.le_refl _,fun b _ hO=> ⟨rfl,fun ⟨r',hr'⟩=>hO ⟨r',(hbk r' b hr').2⟩⟩⟩
 refine⟨⟨fun r o ho=> ?_,fun r1 r2 b h1 h2=>h.inj r1 r2 b (hbk _ _ h1).2 (hbk _ _ h2).2,fun m hm r o hlt ho=> ?_,fun m hm=> ?_⟩,E⟩
 ·obtain⟨hlt,ho'⟩:=Gv ho
  rw[F9 hle]
  exact(h.bd n hn r o hlt ho').mono E (PlExt.refl _ _) (Nat.le_refl _) rfl (fun _ _ _ _ _=>rfl)
 ·obtain⟨_,ho'⟩:=Gv ho
  exact(h.bd m (hB m hm).1 r o hlt ho').mono E (PlExt.refl _ _) (Nat.le_refl _) rfl (fun _ _ _ _ _=>rfl)
 ·rw[F9 hle];exact(hB m hm).2
theorem HR.enter {w:World} {pl:Pl} {Bd:Nat→Prop} {H:Hp} (h:HR w pl Bd H):HR w pl (fun m=>Bd m∨m=Bc H) H:=
 ⟨h.obj,h.inj,fun m hm r o hlt ho=>by
  rcases hm with hm|rfl
  ·exact h.bd m hm r o hlt ho
  ·exact h.obj r o ho,fun m hm=>by
  rcases hm with hm|rfl
  ·exact h.le m hm
  ·exact Nat.le_refl _⟩
structure RCs (w:World) (O:Jn) (pl:Pl) (n:Nat) (cs:List V) (us:Array Value):Prop where
 size:us.size=cs.length
 rel: ∀i,i<cs.length→RV w O pl n (cs.getD i .any) (us.getD i undef)
 one: ∀i,i<cs.length→(us.getD i undef).oneCell'=true
theorem RD.one {w:World} {O:Jn} {x:D} {u:Value} (h:RD w O x u) (ha: ∀cs,x≠ .agg cs):u.oneCell'=true:=by
 cases h<;>first|rfl|exact absurd rfl (ha _)
theorem RD.cells {w:World} {O:Jn} {x:D} {u:Value} (h:RD w O x u):
  u.cells.size=x.cells.length∧∀i,i<x.cells.length→RD w O (x.cells.getD i .nilp) (u.cells.getD i undef)∧(u.cells.getD i undef).oneCell'=true:=by
 by_cases ha: ∃cs,x= .agg cs
 ·obtain⟨cs,rfl⟩:=ha
  cases h with
  |agg _ us hl h1 h=>exact⟨hl,fun i hi=> ⟨h i hi,h1 i hi⟩⟩
 ·have hx:x.cells=[x]:=by cases x<;>first|rfl|exact absurd ⟨_,rfl⟩ ha
  have ho:=h.one (fun cs hc=>ha ⟨cs,hc⟩)
  have hu:u.cells= #[u]:=by cases u<;>first|rfl|simp[Value.oneCell'] at ho
  rw[hx,hu]
  refine⟨rfl,fun i hi=> ?_⟩
  obtain rfl:i=0:=by simpa using hi
  exact⟨h,ho⟩
theorem RV.one {w:World} {O:Jn} {pl:Pl} {n:Nat} {v:V} {u:Value} (h:RV w O pl n v u) (hs:v.sto=true) (ha:v.isAgg=false):u.oneCell'=true:=by
 cases h with
 |d x u h=>exact h.one (fun cs hc=>by subst hc;simp[V.isAgg] at ha)
 |agg=>simp[V.isAgg] at ha
 |tup=>simp[V.sto] at hs
 |und=>simp[V.sto] at hs
 |any=>simp[V.sto] at hs
 |_=>rfl
theorem RV.cells {w:World} {O:Jn} {pl:Pl} {n:Nat} {v:V} {u:Value} (h:RV w O pl n v u) (hs:v.sto=true):RCs w O pl n v.cells u.cells:=by
 by_cases ha:v.isAgg=true
 ·cases h with
  |d x u h=>
   cases x<;>first| (simp[V.isAgg] at ha;done) |skip
   rename_i cs
   cases h with
   |agg _ us hl h1 h=>
    refine⟨by simpa[V.cells,Value.cells] using hl,fun i hi=> ?_,fun i hi=> ?_⟩
    ·have hi':i<cs.length:=by simpa[V.cells] using hi
     have:=h i hi'
     simp only[V.cells,Value.cells,List.getD_eq_getElem?_getD,List.getElem?_map,List.getElem?_eq_getElem hi',Option.map_some,Option.getD_some] at this⊢
     exact .d _ _ this
    ·exact h1 i (by simpa[V.cells] using hi)
  |agg cs us hl h1 h=>exact⟨hl,h,h1⟩
  |_=>simp[V.isAgg] at ha
 ·have ha':v.isAgg=false:=by simpa using ha
  have ho:=h.one hs ha'
  have hv:v.cells=[v]:=by
   cases v<;>first|rfl| (simp[V.isAgg] at ha';done) |skip
   rename_i x
   cases x<;>first|rfl| (simp[V.isAgg] at ha';done)
  have hu:u.cells= #[u]:=by cases u<;>first|rfl|simp[Value.oneCell'] at ho
  rw[hv,hu]
  refine⟨rfl,fun i hi=> ?_,fun i hi=> ?_⟩<;> (obtain rfl:i=0:=by simpa using hi)
  ·exact h
  ·exact ho
theorem Ki {cs:List V} {ds:List D} (h:Gt cs=some ds):cs=ds.map .d:=by
 induction cs generalizing ds with
 |nil=>simp[Gt] at h;subst h;rfl
 |cons v r ih=>
  cases v<;>simp[Gt] at h
  split at h
  ·rename_i xs hx
   simp at h;subst h
   rw[ih hx];rfl
  ·simp at h
theorem RCs.mkAgg {w:World} {O:Jn} {pl:Pl} {n:Nat} {cs:List V} {us:Array Value} (h:RCs w O pl n cs us):RV w O pl n (Ni cs) (.agg us):=by
 unfold Ev.Ni
 split
 ·rename_i ds hd
  have:=Ki hd
  subst this
  refine .d _ _ (.agg ds us (by simpa using h.size) (fun i hi=>h.one i (by simpa using hi)) fun i hi=> ?_)
  have:=h.rel i (by simpa using hi)
  simp only[List.getD_eq_getElem?_getD,List.getElem?_map,List.getElem?_eq_getElem hi,Option.map_some,Option.getD_some] at this⊢
  cases this with
  |d _ _ h=>exact h
 ·exact .agg cs us h.size h.one h.rel
theorem RCs.mono {w w':World} {O O':Jn} {pl pl':Pl} {n n':Nat} (E:Ext w O w' O') (hp:PlExt n pl pl') (hn:n≤n') {cs:List V} {us:Array Value} (h:RCs w O pl n cs us):RCs w' O' pl' n' cs us:=
 ⟨h.size,fun i hi=> (h.rel i hi).mono E hp hn,h.one⟩
theorem Kq {α:Type} (cs:List α) (d:α) (a k i:Nat) (hi:i<k): ((cs.drop a).take k).getD i d=cs.getD (a+i) d:=by
 simp only[List.getD_eq_getElem?_getD,List.getElem?_take_of_lt hi,List.getElem?_drop]
theorem Rl {us:Array Value} {a k i:Nat} (hi:i<k) (hk:a+k≤us.size): (us.extract a (a+k)).getD i undef=us.getD (a+i) undef:=by
 simp only[Array.getD_eq_getD_getElem?]
 rw[Array.getElem?_extract]
 rw[if_pos (by omega)]
theorem RCs.part {w:World} {O:Jn} {pl:Pl} {n:Nat} {cs:List V} {us:Array Value} (h:RCs w O pl n cs us) {a k:Nat} (hk:a+k≤cs.length):
  RCs w O pl n ((cs.drop a).take k) (us.extract a (a+k)):=by
 have hs:=h.size
 refine⟨by simp;omega,fun i hi=> ?_,fun i hi=> ?_⟩<;>have hik:i<k:=by(simp at hi;omega)
 ·rw[Kq cs .any a k i hik,Rl hik (by omega)]
  exact h.rel _ (by omega)
 ·rw[Rl hik (by omega)]
  exact h.one _ (by omega)
def Bgf:D→Value→Bool
 | .bool b, .bool c=>b==c
 | .int k n, .int k' n'=>decide (k=k') &&decide (n=n')
 | .str s, .string t=>decide (t.data.toList=s)
 | .vals _ [], .slice none 0 0=>true
 | .nilp, .pointer none=>true
 | .nilfn, .nilFunc=>true
 | .niface, .nilIface=>true
 | .mval [] [], .map none=>true
 |_,_=>false
def Bdc:List D→List Value→Bool
 | [],[]=>true
 |x::xs,u::us=>Bgf x u&&Bdc xs us
 |_,_=>false
def Bmg:D→Value→Bool
 | .agg cs, .agg us=>Bdc cs us.toList
 |x,u=>Bgf x u
def Bnq:V→Value→Bool
 | .d x,u=>Bgf x u
 | .nils _, .slice none 0 0=>true
 |_,_=>false
def Zb:List V→List Value→Bool
 | [],[]=>true
 |x::xs,u::us=>Bnq x u&&Zb xs us
 |_,_=>false
def Bf5:V→Value→Bool
 | .agg cs, .agg us=>Zb cs us.toList
 | .d x,u=>Bmg x u
 | .nils _, .slice none 0 0=>true
 |_,_=>false
def Cc:AOpd→Operand→Bool
 | .t n, .tmp m=>Nat.beq n m
 | .c x, .const v=>Bmg x v
 | .f k, .func j=>Nat.beq k j
 | .g n, .global m=>Nat.beq n m
 | .nil _, .const (.slice none 0 0)=>true
 | .u, .const (.tuple ⟨[]⟩)=>true
 |_,_=>false
def Kr:List AOpd→List Operand→Bool
 | [],[]=>true
 |x::xs,y::ys=>Cc x y&&Kr xs ys
 |_,_=>false
def Km:Option AOpd→Option Operand→Bool
 |none,none=>true
 |some x,some y=>Cc x y
 |_,_=>false
def Lx (P:Program) (t n:Nat):Bool:=match P.info? t with|some i=>Nat.beq i.size n|none=>false
def R5 (P:Program) (t:Nat) (b:Bool):Bool:=match P.underlying t with|some (.struct _)=>b|some (.array _ _)=>b|some _=> !b|none=>false
def G6 (P:Program) (t:Nat):Option Nat:=match P.underlying t with|some (.slice e)=>some e|_=>none
def K4 (P:Program) (t n:Nat):Bool:=match G6 P t with|some e=>Lx P e n|none=>false
def Nc (P:Program) (t:Nat) (z:V):Bool:=match P.info? t with|some i=> (match i.zero with|some u=>Bf5 z u&&Nat.beq i.size z.cells.length|none=>false) |none=>false
def Mk (P:Program) (t n:Nat):Bool:=match P.info? t with|some i=> (match i.zero with|some u=>Nat.beq u.cells.size n&&Nat.beq i.size n|none=>false) |none=>false
def Ko (P:Program) (t:Nat):Option (Array Field):=match P.underlying t with|some (.struct fs)=>some fs|_=>none
def Fs (P:Program) (t:Nat) (p:TypeDesc→Bool):Bool:=match P.underlying t with|some d=>p d|none=>false
def Pi:TypeDesc→Bool| .string=>true|_=>false
def Bj3:TypeDesc→Bool| .bool=>true|_=>false
def Bzr:TypeDesc→Bool| .int .u8=>true|_=>false
def Rq:TypeDesc→Bool| .interface _=>true|_=>false
def Ur:TypeDesc→Bool| .string=>true|_=>false
def U8:SK→TypeDesc→Bool| .s, .string=>true| .i, .int _=>true| .b, .bool=>true|_,_=>false
def Brt (k:IntKind):TypeDesc→Bool| .int k'=>decide (k=k') |_=>false
def Rv (P:Program) (fs:Array Field):List (Nat×Nat×AOpd)→List (Nat×Operand)→Bool
 | [],[]=>true
 | (off,n,x)::xs,(i,y)::ys=> (match fs[i]? with|some f=>Nat.beq f.offset off&&Lx P f.type n|none=>false) &&Cc x y&&Rv P fs xs ys
 |_,_=>false
def Nh:Nat→List AOpd→List (Nat×Operand)→Bool
 |_,[],[]=>true
 |k,x::xs,(i,y)::ys=>Nat.beq i k&&Cc x y&&Nh (k+1) xs ys
 |_,_,_=>false
def Qb:List (Bool×AOpd)→List Operand→Bool
 | [],[]=>true
 | (_,x)::xs,y::ys=>Cc x y&&Qb xs ys
 |_,_=>false
def Mj (P:Program):Nat→List Field→List SK→Bool
 |_,[],[]=>true
 |n,f::fs,k::ks=>Nat.beq f.offset n&&Lx P f.type 1&&Fs P f.type (U8 k) &&decide (f.name≠ "_") &&Mj P (n+1) fs ks
 |_,_,_=>false
def Bat (P:Program) (ty:BTy) (t:Nat) (y:Operand):Bool:=
 match ty with
 | .val=>true
 | .bool=>Fs P t Bj3
 | .iface=>Fs P t Rq&& (match y with| .const _=>true|_=>false)
 | .agg ks=> (match Ko P t with|some fs=>Mj P 0 fs.toList ks|none=>false) && !P.stoodInHeld t&& !P.eqGuardType P.depth t
def Bq7 (P:Program):Op→AOp→Bool
 | .move x, .mv a=>Cc a x
 | .assign x, .mv a=>Cc a x
 | .pick c x y, .pick c' x' y'=>Cc c' c&&Cc x' x&&Cc y' y
 | .alloc t, .alloc z=>Nc P t z
 | .box _ x, .box a=>Cc a x
 | .build t ps, .build z qs=>
  (match Ko P t with|some fs=>Rv P fs qs ps.toList&&fs.all (fun f=> (P.info? f.type).isSome) |none=>false) &&Nc P t (.agg z)
 | .buildSlice t n ps, .lit _ e qs=>
  (match G6 P t with|some el=>Lx P el e&&Mk P el e|none=>false) &&Nh 0 qs ps.toList&&Nat.beq n qs.length&&decide (n*e≤16777216) &&decide (0<e)
 | .buildSlice t n ps, .litf e qs=>
  (match G6 P t with|some el=>Lx P el e&&Mk P el e|none=>false) &&Nh 0 qs ps.toList&&Nat.beq n qs.length&&decide (n*e≤16777216) &&decide (0<e)
 | .load t a, .load ag n x=>Cc x a&&R5 P t ag&&Lx P t n
 | .store t a v, .store n x y=>Cc x a&&Cc y v&&Lx P t n
 | .nilCheck x, .nilck a=>Cc a x
 | .binOp op t x y _, .bin op' ty x' y'=>decide (op=op') &&Cc x' x&&Cc y' y&&Bat P ty t y
 | .unOp op _ x, .un op' a=>decide (op=op') &&Cc a x
 | .convert Ry dst x, .cvInt k a=>Cc a x&&Fs P dst (Brt k) && (P.underlying Ry).isSome
 | .convert Ry dst x, .cvId a=>Cc a x&&Fs P dst Pi&& (P.underlying Ry).isSome
 | .convert Ry dst x, .cvStr a=>Cc a x&&Fs P dst Pi&& (match G6 P Ry with|some e=>Fs P e Bzr|none=>false)
 | .makeFunc fn first caps, .mkfn f cs=>decide (fn=f) &&Nat.beq first.size 0&&Kr cs caps.toList
 | .makeMap t r, .mkmap=> (match r with|none=>true|some (.const (.int _ _))=>Fs P t (fun| .map _ _=>true|_=>false) |_=>false)
 | .insert t m k v, .insert m' k' v'=>Cc m' m&&Cc k' k&&Cc v' v&& (match P.underlying t with|some (.map kt _)=>Fs P kt Ur|_=>false)
 | .mapUpdate t m k v, .insert m' k' v'=>Cc m' m&&Cc k' k&&Cc v' v&& (match P.underlying t with|some (.map kt _)=>Fs P kt Ur|_=>false)
 | .lookup t m k ok, .lookup z m' k' ok'=>decide (ok=ok') &&Cc m' m&&Cc k' k&& (match P.underlying t with|some (.map kt et)=>Fs P kt Ur&&Nc P et (.d z) |_=>false)
 | .makeSlice t l c, .mkslice e b z l' c'=>Cc l' l&&Cc c' c&& (match G6 P t with|some el=>Lx P el e&&Nc P el z&& (match P.info? el with|some i=>Nat.beq i.bytes b|none=>false) &&decide (0<e) &&decide (0<b) |none=>false)
 | .slice t x lo hi none, .slice e x' lo' hi'=>Cc x' x&&Km lo' lo&&Km hi' hi&& (match e with|none=>Fs P t Pi|some e=>K4 P t e)
 | .fieldAddr s x f, .faddr off x'=>Cc x' x&& (match Ko P s with|some fs=> (match fs[f]? with|some fd=>Nat.beq fd.offset off&& (match P.info? fd.type with|some i=>Nat.ble 1 i.size|none=>false) |none=>false) |none=>false)
 | .field t x f, .field ag off n x'=>Cc x' x&& (match Ko P t with|some fs=> (match fs[f]? with|some fd=>Nat.beq fd.offset off&&Lx P fd.type n&&R5 P fd.type ag|none=>false) |none=>false)
 | .indexAddr t x i, .iaddr e x' i'=>Cc x' x&&Cc i' i&&K4 P t e
 | .index t x i, .idx x' i'=>Cc x' x&&Cc i' i&&Fs P t Pi
 | .extract x i, .extract x' i'=>Cc x' x&&Nat.beq i i'
 | .makeInterface t x, .mkiface t' x'=>Nat.beq t t'&&Cc x' x&&Fs P t (fun d=> !Rq d)
 | .call { callee:= .value f,args, .. }, .call f' args' _=>Cc f' f&&Qb args' args.toList
 | .call { callee:= .value f,args, .. }, .pcall f' args'=>Cc f' f&&Kr args' args.toList
 | .call { callee:= .builtin .len,args,argTypes }, .len str x=> (match args.toList,argTypes[0]? with| [y],some t=>Cc x y&& (match str with|true=>Fs P t Pi|false=> (G6 P t).isSome) |_,_=>false)
 | .call { callee:= .builtin .append,args,argTypes }, .append e b s x=>
  (match args.toList,argTypes.toList with
   | [s',x'],[t,t']=>Nat.beq t t'&&Cc s s'&&Cc x x'&& (match G6 P t with|some el=>Mk P el e&& (match P.info? el with|some i=>Nat.beq i.bytes b|none=>false) |none=>false) &&decide (0<e) &&decide (0<b)
   |_,_=>false)
 | .call { callee:= .builtin .max,args, .. }, .mnmx true xs=>Kr xs args.toList
 | .call { callee:= .builtin .min,args, .. }, .mnmx false xs=>Kr xs args.toList
 | .slice t x lo hi none, .slicec e x' lo' hi'=>Cc x' x&&Km lo' lo&&Km (some hi') hi&&K4 P t e
 | .slice t x lo hi (some mx), .slice3 e x' lo' hi' mx'=>Cc x' x&&Km lo' lo&&Km (some hi') hi&&Cc mx' mx&&K4 P t e
 | .call { callee:= .builtin .clear,args,argTypes }, .clear e z x=>
  (match args.toList,argTypes.toList with
   | [x'],[t]=>Cc x x'&& (match G6 P t with|some el=>Nc P el z|none=>false)
   |_,_=>false)
 |_,_=>false
def GR (G:Gx) (w:World) (O:Jn):Prop:=∀n cs,G n=some cs→RD w O (.rptr cs) (.pointer (some ⟨n,0,none⟩))∧∃arr ty fr,w.heap[n]? =some (.cells arr ty fr)∧arr.size=cs.length
theorem GR.mono {G:Gx} {w w':World} {O O':Jn} (E:Ext w O w' O') (h:GR G w O):GR G w' O':=fun n cs hn=>by
 obtain⟨h1,h2⟩:=h n cs hn
 refine⟨h1.mono E, ?_⟩
 cases h1 with
 |rptr _ b o F hO hb hc h1c hr=>
  rw[(E.keep n hb hO).1]
  exact h2
def RE (w:World) (O:Jn) (pl:Pl) (n:Nat) (env:Env) (a:Act):Prop:=∀t,(env.get t).ok=true→RV w O pl n (env.get t) (a.tmps.getD t undef)
theorem RE.mono {w w':World} {O O':Jn} {pl pl':Pl} {n n':Nat} (E:Ext w O w' O') (hp:PlExt n pl pl') (hn:n≤n') {env:Env} {a:Act} (h:RE w O pl n env a):RE w' O' pl' n' env a:=
 fun t ht=> (h t ht).mono E hp hn
theorem Bev {w:World} {O:Jn} {x:D} {u:Value} (h:Bgf x u=true):RD w O x u:=by
 unfold Bgf at h
 split at h<;>simp at h
 ·subst h;exact .bool _
 ·obtain⟨rfl,rfl⟩:=h;exact .int _ _
 ·exact .str _ _ h
 ·exact .vals0 _ _ _
 ·exact .nilp
 ·exact .nilfn
 ·exact .niface
 ·exact .mval0
theorem Bgg {x:D} {u:Value} (h:Bgf x u=true):u.oneCell'=true:=by
 unfold Bgf at h
 split at h<;>first|rfl|simp at h
theorem Bq8 {xs:List D} {us:List Value} (h:Bdc xs us=true):us.length=xs.length∧∀i,i<xs.length→Bgf (xs.getD i .nilp) (us.getD i undef)=true:=by
 induction xs generalizing us with
 |nil=>cases us<;>simp[Bdc] at h⊢
 |cons x xs ih=>
  cases us with
  |nil=>simp[Bdc] at h
  |cons u us=>
   simp[Bdc] at h
   obtain⟨h1,h2⟩:=ih h.2
   refine⟨by simp[h1],fun i hi=> ?_⟩
   cases i with
   |zero=>exact h.1
   |succ i=>exact h2 i (by simpa using hi)
theorem Bgh {w:World} {O:Jn} {x:D} {u:Value} (h:Bmg x u=true):RD w O x u:=by
 unfold Bmg at h
 split at h
 ·rename_i cs us
  obtain⟨h1,h2⟩:=Bq8 h
  refine .agg cs us (by simpa using h1) (fun i hi=> ?_) (fun i hi=> ?_)
  ·have:=h2 i hi
   simpa[Array.getD_eq_getD_getElem?,List.getD_eq_getElem?_getD] using Bgg this
  ·have:=Bev (w:=w) (O:=O) (h2 i hi)
   simpa[Array.getD_eq_getD_getElem?,List.getD_eq_getElem?_getD] using this
 ·exact Bev h
theorem Biu {w:World} {O:Jn} {pl:Pl} {n:Nat} {x:V} {u:Value} (h:Bnq x u=true):RV w O pl n x u∧u.oneCell'=true:=by
 unfold Bnq at h
 split at h
 ·exact⟨.d _ _ (Bev h),Bgg h⟩
 ·exact⟨.nils _ _,rfl⟩
 ·simp at h
theorem Bp2 {xs:List V} {us:List Value} (h:Zb xs us=true):us.length=xs.length∧∀i,i<xs.length→Bnq (xs.getD i .any) (us.getD i undef)=true:=by
 induction xs generalizing us with
 |nil=>cases us<;>simp[Zb] at h⊢
 |cons x xs ih=>
  cases us with
  |nil=>simp[Zb] at h
  |cons u us=>
   simp[Zb] at h
   obtain⟨h1,h2⟩:=ih h.2
   refine⟨by simp[h1],fun i hi=> ?_⟩
   cases i with
   |zero=>exact h.1
   |succ i=>exact h2 i (by simpa using hi)
theorem Ra {w:World} {O:Jn} {pl:Pl} {n:Nat} {x:V} {u:Value} (h:Bf5 x u=true):RV w O pl n x u:=by
 unfold Bf5 at h
 split at h
 ·rename_i cs us
  obtain⟨h1,h2⟩:=Bp2 h
  refine .agg cs us (by simpa using h1) (fun i hi=> ?_) (fun i hi=> ?_)
  ·have:=(Biu (w:=w) (O:=O) (pl:=pl) (n:=n) (h2 i hi)).2
   simpa[Array.getD_eq_getD_getElem?,List.getD_eq_getElem?_getD] using this
  ·have:=(Biu (w:=w) (O:=O) (pl:=pl) (n:=n) (h2 i hi)).1
   simpa[Array.getD_eq_getD_getElem?,List.getD_eq_getElem?_getD] using this
 ·exact .d _ _ (Bgh h)
 ·exact .nils _ _
 ·simp at h
section
variable {P:Program} {cl:Fe} {G:Gx} {w:World} {pl:Pl} {Bd:Nat→Prop} {H:Hp} {env:Env} {a:Act}
theorem Cu {O:Jn} {n:Nat} {x:AOpd} {X:Operand} (h:Cc x X=true) (hG:GR G w O) (hE:RE w O pl n env a) (hk: (C9 G env x).ok=true):
  RV w O pl n (C9 G env x) (a.eval X):=by
 unfold Cc at h
 split at h
 ·rename_i m m'
  have hm:m=m':=Nat.eq_of_beq_eq_true h
  subst hm
  exact hE m hk
 ·exact .d _ _ (Bgh h)
 ·have:=Nat.eq_of_beq_eq_true h
  subst this
  exact .d _ _ (.fn _ _ _ rfl (fun i hi=>by simp at hi))
 ·rename_i m m'
  have hm:m=m':=Nat.eq_of_beq_eq_true h
  subst hm
  cases hg:G m with
  |none=>simp[C9,hg,V.ok] at hk
  |some cs=>
   have:C9 G env (.g m)= .d (.rptr cs):=by simp[C9,hg]
   rw[this]
   exact .d _ _ (hG m cs hg).1
 ·exact .nils _ _
 ·exact .und
 ·simp at h
structure Fin (w:World) (pl:Pl) (Bd:Nat→Prop) (H:Hp) (v:V) (H':Hp) (u:Value) (w':World) (pl':Pl):Prop where
 hr:HR w' pl' Bd H'
 rv:RV w' (Bj pl' H') pl' (Bc H') v u
 ext:Ext w (Bj pl H) w' (Bj pl' H')
 ple:PlExt (Bc H) pl pl'
 le:Bc H≤Bc H'
def OpSim (P:Program) (o:Oper) (a:Act) (w:World) (pl:Pl) (Bd:Nat→Prop) (H:Hp) (v:V) (H':Hp):Prop:=
 ∀ (next:Act→World→Prop) (Q:Exit→Act→World→Prop),(∀u w' pl',Fin w pl Bd H v H' u w' pl'→next (a.put o.dst u) w')→o.wp P a w next Q
theorem OpSim.value {o:Oper} {v:V} {H':Hp} {u:Value} {w':World} {pl':Pl} (hrun: (execOp a.eval o).run P w= .ok (.value u) w') (hf:Fin w pl Bd H v H' u w' pl'):OpSim P o a w pl Bd H v H':=by
 intro next Q hn
 unfold Oper.wp
 rw[hrun,Oper.upon_value]
 exact hn u w' pl' hf
theorem OpSim.skip {o:Oper} {H':Hp} {w':World} {pl':Pl} {v:V} (hrun: (execOp a.eval o).run P w= .ok .skip w') (hf:Fin w pl Bd H v H' undef w' pl'):OpSim P o a w pl Bd H v H':=by
 intro next Q hn
 unfold Oper.wp
 rw[hrun,Oper.upon_skip]
 exact hn _ w' pl' hf
theorem OpSim.pure (hH:HR w pl Bd H) {o:Oper} {v:V} {u:Value} (hrun: (execOp a.eval o).run P w= .ok (.value u) w) (hv:RV w (Bj pl H) pl (Bc H) v u):OpSim P o a w pl Bd H v H:=
 .value hrun ⟨hH,hv,Ext.refl _ _,PlExt.refl _ _,Nat.le_refl _⟩
theorem Y8 {t n:Nat} (h:Lx P t n=true): ∃i,P.info? t=some i∧i.size=n:=by
 unfold Lx at h
 split at h
 ·rename_i i hi;exact⟨i,hi,Nat.eq_of_beq_eq_true h⟩
 ·simp at h
theorem Jr {t n:Nat} (h:Lx P t n=true) (w:World): (sizeOf t).run P w= .ok n w:=by
 obtain⟨i,hi,hs⟩:=Y8 h
 simp[sizeOf,typeInfo,hi,hs]
theorem Q6 {t:Nat} {b:Bool} (h:R5 P t b=true) (w:World): (Go.isAgg t).run P w= .ok b w:=by
 unfold R5 at h
 split at h
 ·rename_i d hd;simp[Go.isAgg,run_underlying hd,h]
 ·rename_i d e hd;simp[Go.isAgg,run_underlying hd,h]
 ·rename_i d h1 h2 hd
  cases d<;>first| (simp[Go.isAgg,run_underlying hd];simpa using h.symm) |exact absurd rfl (h1 _) |exact absurd rfl (h2 _ _)
 ·simp at h
theorem Bs9 (hG:GR G w (Bj pl H)) (hH:HR w pl Bd H) (hE:RE w (Bj pl H) pl (Bc H) env a) {o:Oper} {X:Operand} (ho:o.op= .move X∨o.op= .assign X) {x:AOpd} (hx:Cc x X=true)
  (hk: (C9 G env x).ok=true):OpSim P o a w pl Bd H (C9 G env x) H:=
 .pure hH (u:=a.eval X) (by rcases ho with ho|ho<;>simp[execOp,ho]) (Cu hx hG hE hk)
theorem Bf0 {O:Jn} {n r g i j b e c off:Nat} (hr:r<n) (hp:pl r g=some (b,e,c)) (ho:off=i*e+j):RV w O pl n (.ptr r g i j) (.pointer (some ⟨b,off,none⟩)):=by
 subst ho;exact .ptr r g i j b e c hr hp
theorem Rx {O:Jn} {n r g i k b e c off cap:Nat} (hr:r<n) (hp:pl r g=some (b,e,c)) (hk:i+k≤c) (ho:off=i*e) (hc:cap=c - i):RV w O pl n (.slc r g i k) (.slice (some ⟨b,off,none⟩) k cap):=by
 subst ho;subst hc;exact .slc r g i k b e c hr hp hk
theorem Bkb {v:V} {b:Bool} (h:v= .d (.bool b)):v.ok=true:=by subst h;rfl
theorem RV.bool_eq {O:Jn} {n:Nat} {b:Bool} {u:Value} (h:RV w O pl n (.d (.bool b)) u):u= .bool b:=by
 cases h with
 |d _ _ h=>cases h;rfl
theorem RV.int_eq {O:Jn} {n:Nat} {k:IntKind} {m:Int} {u:Value} (h:RV w O pl n (.d (.int k m)) u):u= .int k m:=by
 cases h with
 |d _ _ h=>cases h;rfl
theorem RV.str_eq {O:Jn} {n:Nat} {s:List UInt8} {u:Value} (h:RV w O pl n (.d (.str s)) u):u= .string ⟨s.toArray⟩:=by
 cases h with
 |d _ _ h=>cases h;rename_i t ht;cases t;simp at ht;subst ht;simp
theorem Bta (hG:GR G w (Bj pl H)) (hH:HR w pl Bd H) (hE:RE w (Bj pl H) pl (Bc H) env a) {o:Oper} {C X Y:Operand} (ho:o.op= .pick C X Y) {c x y:AOpd} (hc:Cc c C=true) (hx:Cc x X=true) (hy:Cc y Y=true)
  {t:Bool} (ht:C9 G env c= .d (.bool t)) (hk: (bif t then C9 G env x else C9 G env y).ok=true):OpSim P o a w pl Bd H (bif t then C9 G env x else C9 G env y) H:=by
 have hcv:=Cu hc hG hE (Bkb ht)
 rw[ht] at hcv
 have hce:=hcv.bool_eq
 refine .pure hH (u:=if t then a.eval X else a.eval Y) (by simp[execOp,ho,hce,asBool]) ?_
 cases t
 ·exact Cu hy hG hE hk
 ·exact Cu hx hG hE hk
theorem Xf (hH:HR w pl Bd H) {w':World} {e c:Nat} {xs:List V} {arr:Array Value} {ty:TypeId} {fr:Nat×Nat} (hw:w'.heap=w.heap.push (.cells arr ty fr)) (hs:Same w w') (hsz:arr.size=c*e) (hf:Mr fr arr.size)
  (hx:xs.length≤c) (he: ∀i,i<xs.length→(xs.getD i .any).cells.length=e)
  (hr: ∀i j,i<xs.length→j<e→RV w (Bj pl H) pl (Bc H) ((xs.getD i .any).cells.getD j .any) (arr.getD (i*e+j) undef))
  (h1: ∀i j,i<xs.length→j<e→(arr.getD (i*e+j) undef).oneCell'=true):
  ∃pl',pl' (Bc H) 0=some (w.heap.size,e,c)∧HR w' pl' Bd (Bt H (.row 0 e xs))∧Ext w (Bj pl H) w' (Bj pl' (Bt H (.row 0 e xs)))∧PlExt (Bc H) pl pl':=by
 have hpl:PlExt (Bc H) pl (Ku pl (Bc H) (w.heap.size,e,c)):=fun r hr g p hp=>by rw[K9 (by omega)];exact hp
 obtain⟨h2,h3,h4⟩:=hH.push (w':=w') (.row 0 e xs) (.cells arr ty fr) e c hw hs (by simp[Gu,Dr,Jb]) (fun O' E=>by
  refine .row 0 e xs w.heap.size c arr ty fr (Jb ..) (by rw[hw];simp) hsz hf hx he (fun i j hi hj=> (hr i j hi hj).mono E hpl (by omega)) h1 (fun g' hg'=> ?_)
  show(if Bc H=Bc H then(if g'=0 then some (w.heap.size,e,c) else none) else pl (Bc H) g')=none
  rw[if_pos rfl,if_neg (by omega)])
 exact⟨_,Jb ..,h2,h3,h4⟩
theorem Pd (n:Nat):Mr (0,0) n:=fun o _ h=>by simp at h
theorem Bxa (hG:GR G w (Bj pl H)) (hH:HR w pl Bd H) (hE:RE w (Bj pl H) pl (Bc H) env a) {o:Oper} {t:TypeId} {X:Operand} (ho:o.op= .box t X) {x:AOpd} (hx:Cc x X=true)
  (hk: (C9 G env x).sto=true):OpSim P o a w pl Bd H (.ptr (Bc H) 0 0 0) (Bt H (.row 0 (C9 G env x).cells.length [C9 G env x])):=by
 have hok: (C9 G env x).ok=true:=by revert hk;cases C9 G env x<;>simp[V.sto,V.ok]
 have hv:=Cu hx hG hE hok
 have hc:=hv.cells hk
 obtain⟨pl',h1,h2,h3,h4⟩:=Xf hH (w':= { w with heap:=w.heap.push (.cells (a.eval X).cells t) }) (e:=(C9 G env x).cells.length) (c:=1) (xs:=[C9 G env x]) rfl ⟨rfl,rfl,rfl⟩ (by rw[hc.size];simp) (Pd _) (by simp)
  (fun i hi=>by obtain rfl:i=0:=by simpa using hi
                rfl)
  (fun i j hi hj=>by obtain rfl:i=0:=by simpa using hi
                     simpa using hc.rel j hj)
  (fun i j hi hj=>by obtain rfl:i=0:=by simpa using hi
                     simpa using hc.one j hj)
 refine .value (u:= .pointer (some ⟨w.heap.size,0,none⟩)) (by simp[execOp,ho,Instr.box,newVar,newRow]) ⟨h2, ?_,h3,h4,by rw[Ch];omega⟩
 exact Bf0 (by rw[Ch];omega) h1 (by simp)
end
theorem Mq {b:Nat} : ∀ (vs:List Value) (o:Nat) (w:World) {arr:Array Value} {ty:TypeId} {fr:Nat×Nat},w.heap[b]? =some (.cells arr ty fr)→o+vs.length≤arr.size→
  Same w (w.setCells b o vs)∧(w.setCells b o vs).heap.size=w.heap.size∧(∀b',b'≠b→(w.setCells b o vs).heap[b']? =w.heap[b']?)∧
  ∃arr',(w.setCells b o vs).heap[b]? =some (.cells arr' ty fr)∧arr'.size=arr.size∧∀k,arr'.getD k undef=if o≤k∧k<o+vs.length then vs.getD (k - o) undef else arr.getD k undef
 | [],o,w,arr,ty,fr,h,_=> ⟨Same.refl w,rfl,fun _ _=>rfl,arr,h,rfl,fun k=>by rw[if_neg (by simp)]⟩
 |v::r,o,w,arr,ty,fr,h,hl=>by
  have hb:=(Array.getElem?_eq_some_iff.1 h).1
  have h1: (w.setCell ⟨b,o,none⟩ v).heap[b]? =some (.cells (arr.setIfInBounds o v) ty fr):=by
   simp[World.setCell,Array.getElem?_modify,h]
  obtain⟨s1,s2,s3,arr',s4,s5,s6⟩:=Mq r (o+1) (w.setCell ⟨b,o,none⟩ v) h1 (by simp at hl⊢;omega)
  refine⟨⟨s1.os,s1.tape,s1.output⟩,by rw[World.setCells,s2];simp[World.setCell],fun b' hb'=> ?_,arr',s4,by simpa using s5,fun k=> ?_⟩
  ·rw[World.setCells,s3 b' hb']
   simp[World.setCell,Array.getElem?_modify,Ne.symm hb']
  ·rw[s6 k]
   simp only[List.length_cons] at hl⊢
   by_cases h1:o+1≤k∧k<o+1+r.length
   ·rw[if_pos h1,if_pos (by omega)]
    obtain⟨m,rfl⟩: ∃m,k=o+1+m:=⟨k - (o+1),by omega⟩
    rw[show o+1+m - o=m+1 by omega,show o+1+m - (o+1)=m by omega]
    rfl
   ·rw[if_neg h1]
    by_cases h2:k=o
    ·subst h2
     rw[if_pos (by omega)]
     simp[show k<arr.size by omega]
    ·rw[if_neg (by omega)]
     simp only[Array.getD_eq_getD_getElem?]
     rw[Array.getElem?_setIfInBounds_ne (Ne.symm h2)]
section
variable {P:Program} {cl:Fe} {G:Gx} {w:World} {pl:Pl} {Bd:Nat→Prop} {H:Hp} {env:Env} {a:Act}
theorem Bll {v:V} (h:v.sto=true):v.ok=true:=by revert h;cases v<;>simp[V.sto,V.ok]
theorem M5 {t:Nat} {z:V} (h:Nc P t z=true): ∃i u,P.info? t=some i∧i.zero=some u∧Bf5 z u=true∧i.size=z.cells.length:=by
 unfold Nc at h
 split at h
 ·rename_i i hi
  split at h
  ·rename_i u hu
   simp only[Bool.and_eq_true] at h
   exact⟨i,u,hi,hu,h.1,Nat.eq_of_beq_eq_true h.2⟩
  ·simp at h
 ·simp at h
theorem Rm {t n:Nat} (h:Mk P t n=true): ∃i u,P.info? t=some i∧i.zero=some u∧u.cells.size=n∧i.size=n:=by
 unfold Mk at h
 split at h
 ·rename_i i hi
  split at h
  ·rename_i u hu
   simp only[Bool.and_eq_true] at h
   exact⟨i,u,hi,hu,Nat.eq_of_beq_eq_true h.1,Nat.eq_of_beq_eq_true h.2⟩
  ·simp at h
 ·simp at h
theorem Bv5 (hH:HR w pl Bd H) {v:V} {u:Value} (hv:RV w (Bj pl H) pl (Bc H) v u) (hk:v.sto=true) (t:TypeId):
  ∃pl',Fin w pl Bd H (.ptr (Bc H) 0 0 0) (Bt H (.row 0 v.cells.length [v])) (.pointer (some ⟨w.heap.size,0,none⟩)) { w with heap:=w.heap.push (.cells u.cells t) } pl':=by
 have hc:=hv.cells hk
 obtain⟨pl',h1,h2,h3,h4⟩:=Xf hH (w':= { w with heap:=w.heap.push (.cells u.cells t) }) (e:=v.cells.length) (c:=1) (xs:=[v]) rfl ⟨rfl,rfl,rfl⟩ (by rw[hc.size];simp) (Pd _) (by simp)
  (fun i hi=>by obtain rfl:i=0:=by simpa using hi
                rfl)
  (fun i j hi hj=>by obtain rfl:i=0:=by simpa using hi
                     simpa using hc.rel j hj)
  (fun i j hi hj=>by obtain rfl:i=0:=by simpa using hi
                     simpa using hc.one j hj)
 exact⟨pl',h2,Bf0 (by rw[Ch];omega) h1 (by simp),h3,h4,by rw[Ch];omega⟩
theorem Bpk (hH:HR w pl Bd H) {o:Oper} {t:TypeId} (ho:o.op= .alloc t) {z:V} (hz:Nc P t z=true) (hk:z.sto=true):
  OpSim P o a w pl Bd H (.ptr (Bc H) 0 0 0) (Bt H (.row 0 z.cells.length [z])):=by
 obtain⟨i,u,hi,hu,hc,_⟩:=M5 hz
 obtain⟨pl',hf⟩:=Bv5 hH (Ra hc) hk t
 exact .value (by simp[execOp,ho,Instr.alloc,zeroValue,typeInfo,hi,hu,newVar,newRow]) hf
theorem Ju {r g:Nat} {e:Nat} {xs:List V} (h:Cw H r g=some (e,xs)):Cf H r=some (.row g e xs):=by
 unfold Cw at h
 split at h
 ·rename_i g' e' xs' hg
  cases hb:Nat.beq g' g
  ·simp[hb] at h
  ·have:=Nat.eq_of_beq_eq_true hb
   subst this
   simp[hb] at h
   rw[hg,h.1,h.2]
 ·simp at h
theorem Jf (hH:HR w pl Bd H) {r g e:Nat} {xs:List V} (h:Cw H r g=some (e,xs)):
  ∃b c arr ty fr,pl r g=some (b,e,c)∧w.heap[b]? =some (.cells arr ty fr)∧arr.size=c*e∧Mr fr arr.size∧xs.length≤c∧(∀i,i<xs.length→(xs.getD i .any).cells.length=e)∧
   (∀i j,i<xs.length→j<e→RV w (Bj pl H) pl (Bc H) ((xs.getD i .any).cells.getD j .any) (arr.getD (i*e+j) undef))∧
   (∀i j,i<xs.length→j<e→(arr.getD (i*e+j) undef).oneCell'=true)∧
   (∀m,Bd m→r<m→∀i j,i<xs.length→j<e→RV w (Bj pl H) pl m ((xs.getD i .any).cells.getD j .any) (arr.getD (i*e+j) undef)):=by
 have hg:=Ju h
 have hor:=hH.obj r _ hg
 cases hor with
 |row _ _ _ b c arr ty fr hp hh hs hf hx he hr h1 hgg=>
  refine⟨b,c,arr,ty,fr,hp,hh,hs,hf,hx,he,hr,h1,fun m hm hlt=> ?_⟩
  have hor2:=hH.bd m hm r _ hlt hg
  cases hor2 with
  |row _ _ _ b' c' arr' ty' fr' hp' hh' hs' hf' hx' he' hr' h1' hgg'=>
   rw[hp] at hp'
   simp only[Option.some.injEq,Prod.mk.injEq] at hp'
   obtain⟨rfl,_,rfl⟩:=hp'
   rw[hh] at hh'
   simp only[Option.some.injEq,Go.Obj.cells.injEq] at hh'
   obtain⟨rfl,rfl,rfl⟩:=hh'
   exact hr'
theorem F5 {b k:Nat} {arr:Array Value} {ty:TypeId} {fr:Nat×Nat} (hh:w.heap[b]? =some (.cells arr ty fr)) (hk:k<arr.size):w.cell? ⟨b,k,none⟩=some (arr.getD k undef):=by
 simp[World.cell?,hh,Array.getElem?_eq_getElem hk,hk]
theorem Du {i j e c:Nat} (hi:i<c) (hj:j<e):i*e+j<c*e:=by
 have: (i+1)*e≤c*e:=Nat.mul_le_mul_right _ hi
 rw[Nat.add_mul] at this
 omega
theorem Bhb (hH:HR w pl Bd H) {r g i j n:Nat} {cs:List V} (h:Dn H r g i j n=some cs) {u:Value} (hu:RV w (Bj pl H) pl (Bc H) (.ptr r g i j) u):
  ∃b off us,u= .pointer (some ⟨b,off,none⟩)∧RCs w (Bj pl H) pl (Bc H) cs us∧us.size=n∧∀k,k<n→w.cell? ⟨b,off+k,none⟩=some (us.getD k undef):=by
 unfold Dn at h
 split at h
 ·rename_i e xs hrow
  split at h
  ·rename_i x hx
   split at h
   ·rename_i hle
    simp only[Option.some.injEq] at h
    subst h
    obtain⟨b,c,arr,ty,fr,hp,hh,hs,hf,hxc,he,hr,h1,_⟩:=Jf hH hrow
    have hil:i<xs.length:=(List.getElem?_eq_some_iff.1 hx).1
    have hxd:xs.getD i .any=x:=by simp[List.getD_eq_getElem?_getD,hx]
    have hxe:x.cells.length=e:=by rw[←hxd];exact he i hil
    cases hu with
    |ptr _ _ _ _ b' e' c' hlt hp'=>
     rw[hp] at hp'
     simp only[Option.some.injEq,Prod.mk.injEq] at hp'
     obtain⟨rfl,rfl,rfl⟩:=hp'
     refine⟨b,i*e+j,((List.range n).map fun k=>arr.getD (i*e+j+k) undef).toArray,rfl,⟨by simp;omega,fun k hk=> ?_,fun k hk=> ?_⟩,by simp,fun k hk=> ?_⟩
     ·have hk':k<n:=by simp at hk;omega
      have:=hr i (j+k) hil (by omega)
      rw[hxd,←Nat.add_assoc] at this
      rw[Kq x.cells .any j n k hk']
      simpa[Array.getD_eq_getD_getElem?,hk'] using this
     ·have hk':k<n:=by simp at hk;omega
      have:=h1 i (j+k) hil (by omega)
      rw[←Nat.add_assoc] at this
      simpa[Array.getD_eq_getD_getElem?,hk'] using this
     ·have hlt2:i*e+(j+k)<c*e:=Du (by omega) (by omega)
      rw[F5 hh (by omega)]
      simp[Array.getD_eq_getD_getElem?,hk]
   ·simp at h
  ·simp at h
 ·simp at h
theorem Ti {t n:Nat} {ag:Bool} (hag:R5 P t ag=true) (hsz:Lx P t n=true) {b off:Nat} {us:Array Value} (hn:us.size=n) (h: ∀k,k<n→w.cell? ⟨b,off+k,none⟩=some (us.getD k undef))
  {cs:List V} {O:Jn} {m:Nat} (hc:RCs w O pl m cs us) {v:V} (hv:K8 ag cs=some v): ∃u,(loadVar t ⟨b,off,none⟩).run P w= .ok u w∧RV w O pl m v u:=by
 cases ag
 ·have hv': ∃v',cs=[v']∧v'=v:=by
   match cs,hv with
   | [v'],hv=>exact⟨v',rfl,by simpa[K8] using hv⟩
   | [],hv=>simp[K8] at hv
   |_::_::_,hv=>simp[K8] at hv
  obtain⟨v',rfl,rfl⟩:=hv'
  ·have hn1:n=1:=by rw[←hn,hc.size];rfl
   subst hn1
   refine⟨us.getD 0 undef, ?_,by simpa using hc.rel 0 (by simp)⟩
   have h0:=h 0 (by omega)
   rw[Nat.add_zero] at h0
   simp[loadVar,Q6 hag,h0]
 ·simp[K8] at hv
  subst hv
  refine⟨.agg us, ?_,hc.mkAgg⟩
  have hl:=run_loadCells (P:=P) w ⟨b,off,none⟩ n (fun k=>us.getD k undef) (fun k hk=>by rw[Addr.add_lit];exact h k hk)
  have: ((List.range n).map fun k=>us.getD k undef).toArray=us:=by
   apply Array.ext
   ·simp[hn]
   ·intro i h1 h2;simp[Array.getD_eq_getD_getElem?,h2]
  rw[this] at hl
  simp[loadVar,Q6 hag,Jr hsz,hl]
theorem Bs8 (hG:GR G w (Bj pl H)) (hH:HR w pl Bd H) (hE:RE w (Bj pl H) pl (Bc H) env a) {o:Oper} {t:TypeId} {A:Operand} (ho:o.op= .load t A) {x:AOpd} (hx:Cc x A=true) {ag:Bool} {n:Nat}
  (hag:R5 P t ag=true) (hsz:Lx P t n=true) {r g i j:Nat} (hp:C9 G env x= .ptr r g i j) {cs:List V} (hl:Dn H r g i j n=some cs) {v:V} (hv:K8 ag cs=some v):OpSim P o a w pl Bd H v H:=by
 have hu:=Cu hx hG hE (by rw[hp];rfl)
 rw[hp] at hu
 obtain⟨b,off,us,hue,hc,hn,hk⟩:=Bhb hH hl hu
 obtain⟨u,hrun,hrv⟩:=Ti hag hsz hn hk hc hv
 exact .pure hH (u:=u) (by simp[execOp,ho,Instr.loadAt,hue,Instr.sureAddr,hrun]) hrv
theorem Bps (hG:GR G w (Bj pl H)) (hH:HR w pl Bd H) (hE:RE w (Bj pl H) pl (Bc H) env a) {o:Oper} {t:TypeId} {A:Operand} (ho:o.op= .load t A) {x:AOpd} (hx:Cc x A=true) {ag:Bool} {n:Nat}
  (hag:R5 P t ag=true) (hsz:Lx P t n=true) {cs:List D} (hp:C9 G env x= .d (.rptr cs)) (hl:n≤cs.length) {v:V} (hv:K8 ag ((cs.take n).map .d)=some v):OpSim P o a w pl Bd H v H:=by
 have hu:=Cu hx hG hE (by rw[hp];rfl)
 rw[hp] at hu
 cases hu with
 |d _ _ hu=>
  generalize hue:a.eval A=u at hu
  cases hu with
  |rptr _ b off F hO hb hc h1 hr=>
   have hcs:RCs w (Bj pl H) pl (Bc H) ((cs.take n).map .d) ((List.range n).map F).toArray:=by
    refine⟨by simp;omega,fun k hk=> ?_,fun k hk=> ?_⟩<;>have hk':k<n:=by(simp at hk;omega)
    ·have:=RV.d (pl:=pl) (n:=Bc H) _ _ (hr k (by omega))
     have hkc:k<cs.length:=by omega
     simpa[List.getD_eq_getElem?_getD,Array.getD_eq_getD_getElem?,hk',List.getElem?_take_of_lt hk',hkc] using this
    ·simpa[Array.getD_eq_getD_getElem?,hk'] using h1 k (by omega)
   obtain⟨u,hrun,hrv⟩:=Ti hag hsz (b:=b) (off:=off) (us:=((List.range n).map F).toArray) (by simp) (fun k hk=>by rw[hc k (by omega)];simp[Array.getD_eq_getD_getElem?,hk]) hcs hv
   exact .pure hH (u:=u) (by simp[execOp,ho,Instr.loadAt,hue,Instr.sureAddr,hrun]) hrv
end
theorem RV.lower1 {w:World} {O:Jn} {pl:Pl} {n m r:Nat} {v:V} {u:Value} (h:RV w O pl n v u) (hb:Fz r v=true) (hr:r≤m):RV w O pl m v u:=by
 cases h with
 |d x u h=>exact .d x u h
 |nils e a=>exact .nils e a
 |any u=>exact .any u
 |slc r' g i k b e c hlt hp hk=>exact .slc r' g i k b e c (by simp[Fz] at hb;omega) hp hk
 |slc0 r' g i a cap hi hlt=>exact .slc0 r' g i a cap hi (by simp[Fz] at hb;omega)
 |ptr r' g i j b e c hlt hp=>exact .ptr r' g i j b e c (by simp[Fz] at hb;omega) hp
 |_=>simp[Fz] at hb
theorem RV.lower {w:World} {O:Jn} {pl:Pl} {n m r:Nat} {v:V} {u:Value} (h:RV w O pl n v u) (hb:Ke r v=true) (hr:r≤m):RV w O pl m v u:=by
 cases h with
 |d x u h=>exact .d x u h
 |agg cs us hl h1 h=>
  refine .agg cs us hl h1 fun i hi=> (h i hi).lower1 (r:=r) ?_ hr
  simp only[Ke,List.all_eq_true] at hb
  have:cs.getD i .any=cs[i]:=by simp[List.getD_eq_getElem?_getD,hi]
  rw[this]
  exact hb _ (List.getElem_mem hi)
 |nils e a=>exact .nils e a
 |any u=>exact .any u
 |slc r' g i k b e c hlt hp hk=>exact RV.lower1 (.slc r' g i k b e c hlt hp hk) hb hr
 |slc0 r' g i a cap hi hlt=>exact RV.lower1 (.slc0 r' g i a cap hi hlt) hb hr
 |ptr r' g i j b e c hlt hp=>exact RV.lower1 (.ptr r' g i j b e c hlt hp) hb hr
 |_=>simp[Ke,Fz] at hb
def Rb (Bd:Nat→Prop) (B:Bn):Prop:=∀m,Bd m→m≤B.n∨m∈B.ts
theorem Bby {w:World} {O:Jn} {pl:Pl} {Bd:Nat→Prop} {n r m:Nat} {B:Bn} {v:V} {u:Value} (h:RV w O pl n v u) (hb:Rt B r v=true) (hn:Rb Bd B) (hm:m=n∨(Bd m∧r<m)):RV w O pl m v u:=by
 rcases hm with rfl| ⟨hm,hlt⟩
 ·exact h
 ·simp only[Rt,Bool.or_eq_true,Bool.and_eq_true,List.all_eq_true] at hb
  rcases hb with hb| ⟨hb,ht⟩
  ·exact h.lower hb (by omega)
  ·have h1:=Nat.le_of_ble_eq_true hb
   rcases hn m hm with h2|h2
   ·omega
   ·rcases ht m h2 with h3|h3
    ·have:=Nat.le_of_ble_eq_true h3
     omega
    ·exact h.lower h3 (Nat.le_refl _)
theorem Bgx {α:Type} (xs:List α) (i k:Nat) (x d:α): (xs.set i x).getD k d=if k=i∧i<xs.length then x else xs.getD k d:=by
 simp only[List.getD_eq_getElem?_getD,List.getElem?_set]
 by_cases h:i=k
 ·subst h
  by_cases hl:i<xs.length<;>simp[hl]
 ·have: ¬ (k=i):=fun e=>h e.symm
  simp[h,this]
theorem Pz (cs vs:List V) (j k:Nat) (hj:j+vs.length≤cs.length): (cs.take j++vs++cs.drop (j+vs.length)).getD k .any=if j≤k∧k<j+vs.length then vs.getD (k - j) .any else cs.getD k .any:=by
 have hj':min j cs.length=j:=by omega
 simp only[List.getD_eq_getElem?_getD,List.getElem?_append,List.length_append,List.length_take,hj',List.getElem?_take,List.getElem?_drop]
 by_cases h1:k<j
 ·rw[if_pos (by omega),if_pos h1,if_pos h1,if_neg (by omega)]
 ·by_cases h2:k<j+vs.length
  ·rw[if_pos h2,if_neg h1,if_pos ⟨by omega,h2⟩]
  ·rw[if_neg h2,if_neg (by omega)]
   congr 2
   omega
section
variable {P:Program} {cl:Fe} {G:Gx} {w:World} {pl:Pl} {Bd:Nat→Prop} {H:Hp} {env:Env} {a:Act}
theorem Rf {v:V} (h:v.isAgg=false):v.cells=[v]:=by
 cases v<;>first|rfl| (simp[V.isAgg] at h;done) |skip
 rename_i d
 cases d<;>first|rfl| (simp[V.isAgg] at h;done)
theorem Bhd (cs:List V): (Ni cs).cells=cs:=by
 unfold Ni
 split
 ·rename_i ds hd
  have:=Ki hd
  subst this
  rfl
 ·rfl
theorem Bfu {x y:V} {cs:List V} (h:Lt x cs=some y):y.cells=cs:=by
 unfold Lt at h
 split at h
 ·simp at h;subst h;exact Bhd _
 ·split at h
  ·simp at h
  ·rename_i hv
   simp at h;subst h
   exact Rf hv
 ·simp at h
theorem Bg2 {r g i j:Nat} {vs:List V} {H':Hp} (h:Na H r g i j vs=some H'):
  ∃e xs x y,Cw H r g=some (e,xs)∧xs[i]? =some x∧j+vs.length≤x.cells.length∧y.cells=x.cells.take j++vs++x.cells.drop (j+vs.length)∧H'=Bz H r (.row g e (xs.set i y)):=by
 unfold Na at h
 split at h
 ·rename_i e xs hrow
  split at h
  ·rename_i x hx
   split at h
   ·rename_i hle
    split at h
    ·rename_i y hy
     exact⟨e,xs,x,y,hrow,hx,hle,Bfu hy,by simpa using h.symm⟩
    ·simp at h
   ·simp at h
  ·simp at h
 ·simp at h
theorem Bfz {t n:Nat} (hsz:Lx P t n=true) {u:Value} (hn:u.cells.size=n) (h1: ∀k,k<n→(u.cells.getD k undef).oneCell'=true) {b off:Nat} {arr:Array Value} {ty:TypeId} {fr:Nat×Nat}
  (hh:w.heap[b]? =some (.cells arr ty fr)) (hl:off+n≤arr.size) (hf:Mr fr arr.size): (storeVar t ⟨b,off,none⟩ u).run P w= .ok () (w.setCells b off u.cells.toList):=by
 have hst:=run_storeCells_cells (P:=P) b off u.cells.toList 0 w
  (fun j hj=>by rw[Nat.add_zero,F5 hh (by simp at hj;omega)];rfl)
  (fun j hj=>by
   have:=hf (off+0+j) (by simp at hj;omega)
   simp only[World.frozen?,hh]
   simp only[Bool.and_eq_false_iff,decide_eq_false_iff_not]
   omega)
  (fun v hv=>by
   obtain⟨k,hk,rfl⟩:=List.mem_iff_getElem.1 hv
   have:=h1 k (by simpa[hn] using hk)
   have hk2:k<u.cells.size:=by simpa using hk
   simp only[Array.getD_eq_getD_getElem?,Array.getElem?_eq_getElem hk2,Option.getD_some] at this
   simpa using this)
 rw[Nat.add_zero] at hst
 simp[storeVar,Jr hsz,hn,hst]
theorem Bpv {B:Bn} (hn0:Rb Bd B) (hG:GR G w (Bj pl H)) (hH:HR w pl Bd H) (hE:RE w (Bj pl H) pl (Bc H) env a) {o:Oper} {t:TypeId} {A X:Operand} (ho:o.op= .store t A X) {p x:AOpd} (hp:Cc p A=true) (hx:Cc x X=true) {n:Nat}
  (hsz:Lx P t n=true) {r g i j:Nat} (hpe:C9 G env p= .ptr r g i j) (hvn: (C9 G env x).cells.length=n) (hk: (C9 G env x).sto=true) (hb:Rt B r (C9 G env x)=true) {H':Hp} (hs:Na H r g i j (C9 G env x).cells=some H'):
  OpSim P o a w pl Bd H .und H':=by
 have hu:=Cu hp hG hE (by rw[hpe];rfl)
 rw[hpe] at hu
 have hv:=Cu hx hG hE (Bll hk)
 obtain⟨e,xs,y,z,hrow,hy,hle,hz,rfl⟩:=Bg2 hs
 obtain⟨b,c,arr,ty,fr,hpl,hh,hsa,hf,hxc,he,hr,h1,hbd⟩:=Jf hH hrow
 have hil:i<xs.length:=(List.getElem?_eq_some_iff.1 hy).1
 have hyd:xs.getD i .any=y:=by simp[List.getD_eq_getElem?_getD,hy]
 have hye:y.cells.length=e:=by rw[←hyd];exact he i hil
 have hc:=hv.cells hk
 have hzl:z.cells.length=e:=by rw[hz];simp;omega
 generalize hue:a.eval A=u at hu
 generalize hve:a.eval X=uv at hv hc
 cases hu with
 |ptr _ _ _ _ b' e' c' hlt hp'=>
  rw[hpl] at hp'
  simp only[Option.some.injEq,Prod.mk.injEq] at hp'
  obtain⟨rfl,rfl,rfl⟩:=hp'
  have hfit:i*e+j+n≤arr.size:=by
   have: (i+1)*e≤c*e:=Nat.mul_le_mul_right _ (by omega)
   rw[Nat.add_mul] at this
   omega
  have hrun:=Bfz (P:=P) hsz (u:=uv) (by rw[hc.size,hvn]) (fun k hk'=>hc.one k (by omega)) hh hfit hf
  obtain⟨s1,s2,s3,arr',s4,s5,s6⟩:=Mq uv.cells.toList (i*e+j) w hh (by simp[hc.size,hvn];omega)
  have Bc:uv.cells.toList.length=n:=by simp[hc.size,hvn]
  rw[Bc] at s6
  have hnew: ∀ (R:V→Value→Prop),(∀k,k<n→R ((C9 G env x).cells.getD k .any) (uv.cells.getD k undef))→(∀i j,i<xs.length→j<e→R ((xs.getD i .any).cells.getD j .any) (arr.getD (i*e+j) undef))→
    ∀i' j',i'< (xs.set i z).length→j'<e→R (((xs.set i z).getD i' .any).cells.getD j' .any) (arr'.getD (i'*e+j') undef):=by
   intro R h1 h2 i' j' hi' hj'
   rw[List.length_set] at hi'
   rw[Bgx,s6]
   by_cases hii:i'=i
   ·subst hii
    rw[if_pos ⟨rfl,hi'⟩,hz,Pz _ _ _ _ hle,hvn]
    by_cases hjj:j≤j'∧j'<j+n
    ·rw[if_pos hjj,if_pos (by omega),show i'*e+j' - (i'*e+j)=j' - j by omega]
     have:=h1 (j' - j) (by omega)
     simpa[List.getD_eq_getElem?_getD,Array.getD_eq_getD_getElem?] using this
    ·rw[if_neg hjj,if_neg (by omega)]
     have:=h2 i' j' hi' hj'
     rwa[hyd] at this
   ·rw[if_neg (by omega),if_neg (by
     intro hcon
     rcases Nat.lt_or_gt_of_ne hii with hlt'|hgt'
     ·have: (i'+1)*e≤i*e:=Nat.mul_le_mul_right _ hlt'
      rw[Nat.add_mul] at this
      omega
     ·have: (i+1)*e≤i'*e:=Nat.mul_le_mul_right _ hgt'
      rw[Nat.add_mul] at this
      omega)]
    exact h2 i' j' hi' hj'
  obtain⟨k1,k2,k3⟩:=hH.setRow (w':=w.setCells b (i*e+j) uv.cells.toList) (g':=g) (b':=b) (c':=c) (xs':=xs.set i z) (arr':=arr') (Ju hrow) hpl (Nat.le_refl _) (fun _=>rfl) s1 (by omega)
   (fun b'' _ hne=>s3 b'' hne) (.inl rfl) s4 (by omega) (by rw[s5];exact hf) (by simpa using hxc)
   (fun i' hi'=>by
    rw[List.length_set] at hi'
    rw[Bgx]
    split
    ·exact hzl
    ·exact he i' hi')
   (fun i' j' hi' hj'=>hnew (fun _ u=>u.oneCell'=true) (fun k hk'=>hc.one k (by omega)) h1 i' j' hi' hj')
   (fun m hm i' j' hi' hj'=>hnew (fun v u=>RV w (Bj pl H) pl m v u) (fun k hk'=>by
     have hvm:RV w (Bj pl H) pl m (C9 G env x) uv:=Bby hv hb hn0 hm
     exact(hvm.cells hk).rel k (by omega)) (by
     rcases hm with rfl| ⟨hm,hlt'⟩
     ·exact hr
     ·exact hbd m hm hlt') i' j' hi' hj')
  refine .skip (w':=w.setCells b (i*e+j) uv.cells.toList) (by simp[execOp,ho,Instr.storeAt,hue,hve,Instr.sureAddr,hrun]) ⟨k1, .und,k2,k3,by rw[Br];omega⟩
end
section
variable {P:Program} {cl:Fe} {G:Gx} {w:World} {pl:Pl} {Bd:Nat→Prop} {H:Hp} {env:Env} {a:Act}
theorem RV.dd {O:Jn} {n:Nat} {x:D} {u:Value} (h:RV w O pl n (.d x) u):RD w O x u:=by cases h with|d _ _ h=>exact h
theorem RD.int_eq {O:Jn} {k:IntKind} {m:Int} {u:Value} (h:RD w O (.int k m) u):u= .int k m:=by cases h;rfl
theorem RD.bool_eq {O:Jn} {b:Bool} {u:Value} (h:RD w O (.bool b) u):u= .bool b:=by cases h;rfl
theorem RD.str_eq {O:Jn} {s:List UInt8} {u:Value} (h:RD w O (.str s) u): ∃t:ByteArray,u= .string t∧t.toList=s∧t.size=s.length:=by
 cases h
 rename_i t ht
 exact⟨t,rfl,by rw[ByteArray.toList_eq,ht],by rw[←ht];simp⟩
def Y7:D→Value
 | .int k n=> .int k n
 | .bool b=> .bool b
 | .str s=> .string ⟨s.toArray⟩
 |_=>undef
def Bwb:D→Bool
 | .int _ _=>true
 | .bool _=>true
 | .str _=>true
 |_=>false
theorem Bf4 {O:Jn} {z:D} (h:Bwb z=true):RD w O z (Y7 z):=by
 cases z<;>simp[Bwb] at h
 ·exact .bool _
 ·exact .int _ _
 ·exact .str _ _ (by simp)
theorem Bei {op:BinOp} {k yk:IntKind} {x y:Int} {z:D} (h:Zt op k x y=some z) (t:TypeId) (X Y:Operand) (hop:op= .shl∨op= .shr):
  (do eqGuard op t X Y (.int k x) (.int yk y);binOp op t (.int k x) (.int yk y):Sem Value).run P w= .ok (Y7 z) w∧Bwb z=true:=by
 unfold Zt at h
 split at h
 ·simp at h
 ·rename_i hy
  rcases hop with rfl|rfl<;>simp at h<;>subst h<;>refine⟨?_,rfl⟩<;>simp[eqGuard,binOp,Op.shift,hy,Y7]
theorem Bk8 {op:BinOp} {k:IntKind} {x y:Int} {z:D} (h:Gy op k x y=some z) (t:TypeId) (X Y:Operand) (h1:op≠ .shl) (h2:op≠ .shr):
  (do eqGuard op t X Y (.int k x) (.int k y);binOp op t (.int k x) (.int k y):Sem Value).run P w= .ok (Y7 z) w∧Bwb z=true:=by
 cases op
 case shl=>exact absurd rfl h1
 case shr=>exact absurd rfl h2
 case quo=>
  simp only[Gy] at h
  split at h
  ·simp at h
  ·rename_i h0
   simp at h;subst h
   exact⟨by simp[eqGuard,binOp,Op.intDiv,h0,Y7],rfl⟩
 case rem=>
  simp only[Gy] at h
  split at h
  ·simp at h
  ·rename_i h0
   simp at h;subst h
   exact⟨by simp[eqGuard,binOp,Op.intDiv,h0,Y7],rfl⟩
 case eql=>simp only[Gy,Option.some.injEq] at h;subst h;exact⟨by simp only[eqGuard_at_int,binOp_eql,Sem.run_bind,Sem.run_pure,Result.andThen_ok,Y7];rfl,rfl⟩
 case neq=>simp only[Gy,Option.some.injEq] at h;subst h;exact⟨by simp only[eqGuard_at_int,binOp_neq,Sem.run_bind,Sem.run_pure,Result.andThen_ok,Y7];rfl,rfl⟩
 case and=>simp only[Gy,U3,Option.some.injEq] at h;subst h;exact⟨by simp only[eqGuard_at_int,binOp_and,Sem.run_bind,Sem.run_pure,Result.andThen_ok,Y7];rfl,rfl⟩
 case or=>simp only[Gy,U3,Option.some.injEq] at h;subst h;exact⟨by simp only[eqGuard_at_int,binOp_or,Sem.run_bind,Sem.run_pure,Result.andThen_ok,Y7];rfl,rfl⟩
 case xor=>simp only[Gy,U3,Option.some.injEq] at h;subst h;exact⟨by simp only[eqGuard_at_int,binOp_xor,Sem.run_bind,Sem.run_pure,Result.andThen_ok,Y7];rfl,rfl⟩
 case andNot=>simp only[Gy,U3,Option.some.injEq] at h;subst h;exact⟨by simp only[eqGuard_at_int,binOp_andNot,Sem.run_bind,Sem.run_pure,Result.andThen_ok,Y7];rfl,rfl⟩
 all_goals (simp only[Gy,Option.some.injEq] at h;subst h;exact⟨by simp[eqGuard,binOp,Op.intArith,Op.intCmp,Y7],rfl⟩)
theorem Bk9 {op:BinOp} {x y:List UInt8} {z:D} (h:M6 op x y=some z) (t:TypeId) (X Y:Operand) {s s':ByteArray} (hs:s.toList=x) (hs':s'.toList=y):
  ∃u,(do eqGuard op t X Y (.string s) (.string s');binOp op t (.string s) (.string s'):Sem Value).run P w= .ok u w∧RD w (Bj pl H) z u:=by
 have hz:s.size=x.length:=by rw[←hs,ByteArray.toList_eq];simp
 have hz':s'.size=y.length:=by rw[←hs',ByteArray.toList_eq];simp
 have hbeq: (s.toList==s'.toList)=decide (x=y):=by rw[hs,hs',Bool.eq_iff_iff];simp
 have hlt:Op.bytesLess s.toList s'.toList=Op.bytesLess x y:=by rw[hs,hs']
 cases op<;>simp only[M6,Option.some.injEq,reduceCtorEq] at h
 case add=>
  split at h
  ·rename_i hroom
   simp only[Option.some.injEq] at h
   subst h
   refine⟨.string (s++s'), ?_, .str _ _ ?_⟩
   ·have: ¬ (((s.size+s'.size:Nat):Int)>IntKind.i64.max):=by rw[hz,hz'];simp[Kn] at hroom⊢;omega
    simp only[eqGuard_at_string,binOp,Op.stringOp,Sem.run_bind,Sem.run_pure,Result.andThen_ok,if_neg this]
   ·rw[←hs,←hs',ByteArray.toList_eq,ByteArray.toList_eq]
    simp
  ·simp at h
 all_goals
  subst h
  refine⟨.bool _,by simp only[eqGuard_at_string,binOp,Op.stringOp,Sem.run_bind,Sem.run_pure,Result.andThen_ok];rfl, ?_⟩
  try rw[hbeq]
  try rw[hlt]
  exact .bool _
theorem Dq {t:Nat} {p:TypeDesc→Bool} (h:Fs P t p=true): ∃d,P.underlying t=some d∧p d=true:=by
 unfold Fs at h
 split at h
 ·rename_i d hd;exact⟨d,hd,h⟩
 ·simp at h
theorem Blb {d:Nat} {k:SK} {x y:D} {b:Bool} {t:Nat} (h:Bcn k x y=some b) (ht:Fs P t (U8 k)=true) {O:Jn} {u v:Value} (hu:RD w O x u) (hv:RD w O y v):
  (Op.equalIn (d+1) t u v).run P w= .ok b w:=by
 obtain⟨ds,hds,hk⟩:=Dq ht
 unfold Bcn at h
 split at h
 ·split at h
  ·rename_i k1 a1 k2 b1 hkk
   subst hkk
   simp at h;subst h
   rw[hu.int_eq,hv.int_eq]
   cases ds<;>simp[U8] at hk
   rw[run_equalIn_int w d t k1 _ a1 b1 hds]
   rfl
  ·simp at h
 ·rename_i a1 b1
  simp at h;subst h
  obtain⟨s1,rfl,e1,_⟩:=hu.str_eq
  obtain⟨s2,rfl,e2,_⟩:=hv.str_eq
  cases ds<;>simp[U8] at hk
  rw[run_equalIn_string w d t s1 s2 hds,e1,e2]
  congr 1
  rw[Bool.eq_iff_iff];simp
 ·rename_i a1 b1
  simp at h;subst h
  rw[hu.bool_eq,hv.bool_eq]
  cases ds<;>simp[U8] at hk
  exact run_equalIn_bool' w d t a1 b1 hds
 ·simp at h
theorem Zr: ∀ {ks:List SK} {ags bs:List D} {r:Bool},Jm ks ags bs=some r→ags.length=ks.length∧bs.length=ks.length
 | [],[],[],_,_=> ⟨rfl,rfl⟩
 | [],[],_::_,_,h=>by simp[Jm] at h
 | [],_::_,_,_,h=>by simp[Jm] at h
 |_::_,[],_,_,h=>by simp[Jm] at h
 |_::_,_::_,[],_,h=>by simp[Jm] at h
 |k::ks,a::ags,b::bs,r,h=>by
  simp only[Jm] at h
  split at h
  ·rename_i x y h1 h2
   obtain⟨l1,l2⟩:=Zr h2
   exact⟨by simp[l1],by simp[l2]⟩
  ·simp at h
theorem Beh {t:Nat} (hsz:Lx P t 1=true) {k:SK} (hk:Fs P t (U8 k)=true) {xs:Array Value} {n:Nat} (hn:n<xs.size): (part t xs n).run P w= .ok (xs.getD n undef) w:=by
 obtain⟨ds,hds,hkk⟩:=Dq hk
 have hag:R5 P t false=true:=by
  unfold R5;rw[hds];cases ds<;>first|rfl| (cases k<;>simp[U8] at hkk)
 simp[part,Q6 hag,Array.getElem?_eq_getElem hn,hn]
theorem Xz {d:Nat} {xs ys:Array Value} {O:Jn} : ∀ (fs:List Field) (ks:List SK) (n:Nat) (ags bs:List D) (r:Bool),Mj P n fs ks=true→Jm ks ags bs=some r→
  n+ags.length≤xs.size→n+bs.length≤ys.size→(∀i,i<ags.length→RD w O (ags.getD i .nilp) (xs.getD (n+i) undef))→(∀i,i<bs.length→RD w O (bs.getD i .nilp) (ys.getD (n+i) undef))→
  (Op.eqFields (d+1) xs ys fs).run P w= .ok r w
 | [],[],n,ags,bs,r,_,h,_,_,_,_=>by
  match ags,bs,h with
  | [],[],h=>simp[Jm] at h;subst h;rfl
  | [],_::_,h=>simp[Jm] at h
  |_::_,_,h=>simp[Jm] at h
 | [],_::_,_,_,_,_,hf,_,_,_,_,_=>by simp[Mj] at hf
 |_::_,[],_,_,_,_,hf,_,_,_,_,_=>by simp[Mj] at hf
 |f::fs,k::ks,n,ags,bs,r,hf,h,hx,hy,h1,h2=>by
  match ags,bs,h with
  | [],_,h=>simp[Jm] at h
  |_::_,[],h=>simp[Jm] at h
  |a::ags,b::bs,h=>
   simp only[Mj,Bool.and_eq_true,decide_eq_true_eq] at hf
   obtain⟨⟨⟨⟨f1,f2⟩,f3⟩,f4⟩,f5⟩:=hf
   have f1:=Nat.eq_of_beq_eq_true f1
   simp only[Jm] at h
   split at h
   ·rename_i p q hp hq
    simp at h;subst h
    simp only[List.length_cons] at hx hy h1 h2
    have ih:=Xz (d:=d) (xs:=xs) (ys:=ys) (O:=O) fs ks (n+1) ags bs q f5 hq (by omega) (by omega)
     (fun i hi=>by have:=h1 (i+1) (by omega);rw[show n+1+i=n+(i+1) by omega];simpa using this)
     (fun i hi=>by have:=h2 (i+1) (by omega);rw[show n+1+i=n+(i+1) by omega];simpa using this)
    have ha:=h1 0 (by omega)
    have hb:=h2 0 (by omega)
    have he:=Blb (P:=P) (d:=d) hp f3 ha hb
    simp only[Op.eqFields,if_pos f4,f1,Sem.run_bind,Beh f2 f3 (show n<xs.size by omega),Beh f2 f3 (show n<ys.size by omega),Result.andThen_ok]
    rw[show xs.getD n undef=xs.getD (n+0) undef from rfl,show ys.getD n undef=ys.getD (n+0) undef from rfl,he]
    cases p
    ·simp
    ·simp[ih]
   ·simp at h
theorem Bsz {d t:Nat} {ms:Array (String×TypeId)} (h:P.underlying t=some (.interface ms)): (Op.equalIn (d+1) t .nilIface .nilIface).run P w= .ok true w:=by simp[Op.equalIn,run_underlying h]
theorem Bsy {d t k:Nat} {u:Value} {ms:Array (String×TypeId)} (h:P.underlying t=some (.interface ms)): (Op.equalIn (d+1) t .nilIface (.iface k u)).run P w= .ok false w:=by simp[Op.equalIn,run_underlying h]
theorem Bsx {d t k:Nat} {u:Value} {ms:Array (String×TypeId)} (h:P.underlying t=some (.interface ms)): (Op.equalIn (d+1) t (.iface k u) .nilIface).run P w= .ok false w:=by simp[Op.equalIn,run_underlying h]
theorem Bib {ty:BTy} {t:Nat} {X Y:Operand} {x y:D} {b:Bool} (hty:ty≠ .val) (h:Ba0 ty x y=some b) (hc:Bat P ty t Y=true) {O:Jn} {u v:Value} (hu:RD w O x u) (hv:RD w O y v):
  (do eqGuard .eql t X Y u v;binOp .eql t u v:Sem Value).run P w= .ok (.bool b) w∧(do eqGuard .neq t X Y u v;binOp .neq t u v:Sem Value).run P w= .ok (.bool !b) w:=by
 unfold Ba0 at h
 split at h
 ·rename_i p q
  simp at h;subst h
  rw[hu.bool_eq,hv.bool_eq]
  obtain⟨ds,hds,hk⟩:=Dq (show Fs P t Bj3=true from hc)
  cases ds<;>simp[Bj3] at hk
  have he:=run_equalIn_bool' (P:=P) w 9999 t p q hds
  simp only[eqGuard_at_bool,binOp,Op.equal,Op.maxDepth,Sem.run_bind,Sem.run_pure,Result.andThen_ok,he]
  exact⟨trivial,trivial⟩
 ·rename_i ks ags bs
  have Bc:=Zr h
  simp only[Bat,Bool.and_eq_true,Bool.not_eq_true'] at hc
  obtain⟨⟨c1,c2⟩,c3⟩:=hc
  cases hu with
  |agg _ us hl1 _ hu=>
   cases hv with
   |agg _ vs hl2 _ hv=>
    cases hfs:Ko P t with
    |none=>rw[hfs] at c1;simp at c1
    |some fs=>
     rw[hfs] at c1
     have hund:P.underlying t=some (.struct fs):=by
      unfold Ko at hfs
      split at hfs
      ·rename_i fs' h';simp at hfs;subst hfs;exact h'
      ·simp at hfs
     have hfo:P.fieldsOf t=fs:=by simp[Program.fieldsOf,hund]
     have hrun:=Xz (P:=P) (w:=w) (d:=9998) (xs:=us) (ys:=vs) fs.toList ks 0 ags bs b c1 h (by omega) (by omega) (fun i hi=>by rw[Nat.zero_add];exact hu i hi) (fun i hi=>by rw[Nat.zero_add];exact hv i hi)
     have he:=run_equalIn_struct (P:=P) w 9999 t us vs (by rw[hfo];exact hund) c2
     rw[hfo] at he
     simp only[Sem.run_bind,run_eqGuard_agg w _ t X Y us vs c3,Result.andThen_ok,run_eql_struct,run_neq_struct,he,hrun]
     exact⟨trivial,trivial⟩
 ·simp at h;subst h
  cases hu;cases hv
  simp only[Bat,Bool.and_eq_true] at hc
  obtain⟨ds,hds,hk⟩:=Dq hc.1
  cases ds<;>simp[Rq] at hk
  cases Y<;>simp at hc
  have he:=Bsz (P:=P) (w:=w) (d:=9999) hds
  simp only[eqGuard_nil_constR,binOp,Op.equal,Op.maxDepth,Sem.run_bind,Sem.run_pure,Result.andThen_ok,he]
  exact⟨trivial,trivial⟩
 ·simp at h;subst h
  cases hu
  simp only[Bat,Bool.and_eq_true] at hc
  obtain⟨ds,hds,hk⟩:=Dq hc.1
  cases ds<;>simp[Rq] at hk
  cases hv
  rename_i x v hv
  have he:=fun k=>Bsy (P:=P) (w:=w) (d:=9999) (k:=k) (u:=v) hds
  simp only[eqGuard_nil_iface,binOp,Op.equal,Op.maxDepth,Sem.run_bind,Sem.run_pure,Result.andThen_ok]
  simp only[he,Result.andThen_ok]
  exact⟨trivial,trivial⟩
 ·simp at h;subst h
  cases hv
  simp only[Bat,Bool.and_eq_true] at hc
  obtain⟨ds,hds,hk⟩:=Dq hc.1
  cases ds<;>simp[Rq] at hk
  cases hu
  rename_i x v hu
  have he:=fun k=>Bsx (P:=P) (w:=w) (d:=9999) (k:=k) (u:=v) hds
  simp only[eqGuard_at_iface,binOp,Op.equal,Op.maxDepth,Sem.run_bind,Sem.run_pure,Result.andThen_ok]
  simp only[he,Result.andThen_ok]
  exact⟨trivial,trivial⟩
 ·simp at h
theorem Bw9 (hG:GR G w (Bj pl H)) (hH:HR w pl Bd H) (hE:RE w (Bj pl H) pl (Bc H) env a) {o:Oper} {op:BinOp} {t ty':TypeId} {X Y:Operand} (ho:o.op= .binOp op t X Y ty') {x y:AOpd} (hx:Cc x X=true) (hy:Cc y Y=true)
  {ty:BTy} (hc:Bat P ty t Y=true) {p q z:D} (hp:C9 G env x= .d p) (hq:C9 G env y= .d q) (hz:Zz op ty p q=some z):OpSim P o a w pl Bd H (.d z) H:=by
 have hu:=Cu hx hG hE (by rw[hp];rfl)
 have hv:=Cu hy hG hE (by rw[hq];rfl)
 rw[hp] at hu
 rw[hq] at hv
 have hu:=hu.dd
 have hv:=hv.dd
 suffices hs: ∃u,(do eqGuard op t X Y (a.eval X) (a.eval Y);binOp op t (a.eval X) (a.eval Y):Sem Value).run P w= .ok u w∧RD w (Bj pl H) z u by
  obtain⟨u,hrun,hrd⟩:=hs
  exact .pure hH (u:=u) (by simp only[execOp,ho];rw[Sem.run_bind,hrun];rfl) (.d _ _ hrd)
 generalize a.eval X=u at*
 generalize a.eval Y=v at*
 unfold Zz at hz
 split at hz
 ·split at hz
  ·rw[hu.int_eq,hv.int_eq]
   obtain⟨h1,h2⟩:=Bei (P:=P) (w:=w) hz t X Y (.inl rfl)
   exact⟨_,h1,Bf4 h2⟩
  ·rw[hu.int_eq,hv.int_eq]
   obtain⟨h1,h2⟩:=Bei (P:=P) (w:=w) hz t X Y (.inr rfl)
   exact⟨_,h1,Bf4 h2⟩
  ·split at hz
   ·rename_i hn1 hn2 hk
    subst hk
    rw[hu.int_eq,hv.int_eq]
    have h1:op≠ .shl:=by rintro rfl;exact absurd rfl (by first|exact hn1 _ _ _ _ rfl rfl|exact fun _=>hn1 _ _ _ _ rfl rfl rfl|assumption)
    have h2:op≠ .shr:=by rintro rfl;exact absurd rfl (by first|exact hn2 _ _ _ _ rfl rfl|exact fun _=>hn2 _ _ _ _ rfl rfl rfl|assumption)
    obtain⟨h1,h2⟩:=Bk8 (P:=P) (w:=w) hz t X Y h1 h2
    exact⟨_,h1,Bf4 h2⟩
   ·simp at hz
  ·obtain⟨s1,rfl,e1,_⟩:=hu.str_eq
   obtain⟨s2,rfl,e2,_⟩:=hv.str_eq
   exact Bk9 hz t X Y e1 e2
  ·simp at hz
 ·rename_i hty
  split at hz
  ·split at hz
   ·rename_i b hb
    simp at hz;subst hz
    exact⟨_,(Bib (X:=X) (by intro h;exact hty h) hb hc hu hv).1, .bool _⟩
   ·simp at hz
  ·split at hz
   ·rename_i b hb
    simp at hz;subst hz
    exact⟨_,(Bib (X:=X) (by intro h;exact hty h) hb hc hu hv).2, .bool _⟩
   ·simp at hz
  ·simp at hz
end
section
variable {P:Program} {cl:Fe} {G:Gx} {w:World} {pl:Pl} {Bd:Nat→Prop} {H:Hp} {env:Env} {a:Act}
theorem Ug (hG:GR G w (Bj pl H)) (hH:HR w pl Bd H) (hE:RE w (Bj pl H) pl (Bc H) env a) {o:Oper} {X:Operand} (ho:o.op= .nilCheck X) {x:AOpd} (hx:Cc x X=true) {v:V} (hp:C9 G env x=v)
  (hv: (∃r g i j,v= .ptr r g i j)∨(∃cs,v= .d (.rptr cs))∨(∃k cs,v= .fn (.func k) cs)∨(∃k cs,v= .d (.fn (.func k) cs))):OpSim P o a w pl Bd H v H:=by
 have hu:=Cu hx hG hE (by rw[hp];rcases hv with⟨_,_,_,_,rfl⟩ | ⟨_,rfl⟩ | ⟨_,_,rfl⟩ | ⟨_,_,rfl⟩<;>rfl)
 rw[hp] at hu
 refine .pure hH (u:=a.eval X) ?_ hu
 simp only[execOp,ho]
 generalize a.eval X=u at hu
 rcases hv with⟨_,_,_,_,rfl⟩ | ⟨_,rfl⟩ | ⟨_,_,rfl⟩ | ⟨_,_,rfl⟩
 ·cases hu;rfl
 ·have hu:=hu.dd;cases hu;rfl
 ·cases hu;rfl
 ·have hu:=hu.dd;cases hu;rfl
theorem Bz7 (hG:GR G w (Bj pl H)) (hH:HR w pl Bd H) (hE:RE w (Bj pl H) pl (Bc H) env a) {o:Oper} {op:UnOp} {t:TypeId} {X:Operand} (ho:o.op= .unOp op t X) {x:AOpd} (hx:Cc x X=true) {p z:D} (hp:C9 G env x= .d p)
  (hz:unD op p=some z):OpSim P o a w pl Bd H (.d z) H:=by
 have hu:=Cu hx hG hE (by rw[hp];rfl)
 rw[hp] at hu
 have hu:=hu.dd
 unfold unD at hz
 split at hz
 ·simp at hz;subst hz
  have he:=hu.int_eq
  exact .pure hH (u:= .int _ _) (by simp only[execOp,ho,he,Op.unary,Op.intArith,Int.zero_sub];rfl) (.d _ _ (.int _ _))
 ·simp at hz;subst hz
  have he:=hu.bool_eq
  exact .pure hH (u:= .bool _) (by simp only[execOp,ho,he,Op.unary];rfl) (.d _ _ (.bool _))
 ·simp at hz
theorem Bpo (hG:GR G w (Bj pl H)) (hH:HR w pl Bd H) (hE:RE w (Bj pl H) pl (Bc H) env a) {o:Oper} {Ry dst:TypeId} {X:Operand} (ho:o.op= .convert Ry dst X) {x:AOpd} (hx:Cc x X=true) {k k':IntKind} {n:Int} (hp:C9 G env x= .d (.int k' n))
  (hd:Fs P dst (Brt k)=true) (hs: (P.underlying Ry).isSome=true):OpSim P o a w pl Bd H (.d (.int k (k.wrap n))) H:=by
 have hu:=Cu hx hG hE (by rw[hp];rfl)
 rw[hp] at hu
 have he:=hu.dd.int_eq
 obtain⟨ds,hds,hk⟩:=Dq hd
 obtain⟨ss,hss⟩:=Option.isSome_iff_exists.1 hs
 cases ds<;>simp[Brt] at hk
 subst hk
 exact .pure hH (u:= .int k (k.wrap n)) (by simp[execOp,ho,he,convert,run_underlying hss,run_underlying hds,Conv.intToInt]) (.d _ _ (.int _ _))
theorem Bs6 (hG:GR G w (Bj pl H)) (hH:HR w pl Bd H) (hE:RE w (Bj pl H) pl (Bc H) env a) {o:Oper} {Ry dst:TypeId} {X:Operand} (ho:o.op= .convert Ry dst X) {x:AOpd} (hx:Cc x X=true) {s:List UInt8} (hp:C9 G env x= .d (.str s))
  (hd:Fs P dst Pi=true) (hs: (P.underlying Ry).isSome=true):OpSim P o a w pl Bd H (.d (.str s)) H:=by
 have hu:=Cu hx hG hE (by rw[hp];rfl)
 rw[hp] at hu
 obtain⟨t,he,_,_⟩:=hu.dd.str_eq
 obtain⟨ds,hds,hk⟩:=Dq hd
 obtain⟨ss,hss⟩:=Option.isSome_iff_exists.1 hs
 cases ds<;>simp[Pi] at hk
 refine .pure hH (u:=a.eval X) ?_ hu
 simp only[execOp,ho,he]
 cases ss<;>simp[convert,run_underlying hss,run_underlying hds]
theorem Bii (hG:GR G w (Bj pl H)) (hH:HR w pl Bd H) (hE:RE w (Bj pl H) pl (Bc H) env a) {o:Oper} {f:Fn} {first caps:Array Operand} (ho:o.op= .makeFunc f first caps) (hf:first.size=0) {cs:List AOpd} (hc:Kr cs caps.toList=true)
  (hk: ∀c∈cs,(C9 G env c).ok=true) {v:V} (hv: (∃xs,Gt (cs.map (C9 G env))=some xs∧v= .d (.fn f xs))∨v= .fn f (cs.map (C9 G env))):OpSim P o a w pl Bd H v H:=by
 have hl: ∀ (cs:List AOpd) (ys:List Operand),Kr cs ys=true→ys.length=cs.length∧∀i,i<cs.length→Cc (cs.getD i .u) (ys.getD i (.tmp 0))=true:=by
  intro cs
  induction cs with
  |nil=>intro ys h;cases ys<;>simp[Kr] at h⊢
  |cons c cs ih=>
   intro ys h
   cases ys with
   |nil=>simp[Kr] at h
   |cons y ys=>
    simp only[Kr,Bool.and_eq_true] at h
    obtain⟨h1,h2⟩:=ih ys h.2
    refine⟨by simp[h1],fun i hi=> ?_⟩
    cases i with
    |zero=>exact h.1
    |succ i=>exact h2 i (by simpa using hi)
 obtain⟨h1,h2⟩:=hl cs caps.toList hc
 have hrel: ∀i,i< (cs.map (C9 G env)).length→RV w (Bj pl H) pl (Bc H) ((cs.map (C9 G env)).getD i .any) ((caps.map a.eval).getD i undef):=by
  intro i hi
  have hi':i<cs.length:=by simpa using hi
  have hi2:i<caps.size:=by simp at h1;omega
  have h3:=h2 i hi'
  have hcs:cs.getD i .u=cs[i]:=by simp[List.getD_eq_getElem?_getD,hi']
  have hys:caps.toList.getD i (.tmp 0)=caps[i]:=by simp[List.getD_eq_getElem?_getD,hi2]
  rw[hcs,hys] at h3
  have:=Cu h3 hG hE (hk _ (List.getElem_mem hi'))
  simpa[List.getD_eq_getElem?_getD,Array.getD_eq_getD_getElem?,hi',hi2] using this
 have hsz: (caps.map a.eval).size=(cs.map (C9 G env)).length:=by simp at h1⊢;omega
 have hfi:first.map a.eval= #[]:=by
  have:first= #[]:=Array.eq_empty_of_size_eq_zero hf
  rw[this];simp
 refine .pure hH (u:= .func f #[] (caps.map a.eval)) (by simp[execOp,ho,Instr.makeFunc,hfi]) ?_
 rcases hv with⟨xs,hx,rfl⟩ |rfl
 ·have hxe:=Ki hx
  rw[hxe] at hrel hsz
  refine .d _ _ (.fn f xs _ (by simpa using hsz) fun i hi=> ?_)
  have:=hrel i (by simpa using hi)
  simp only[List.getD_eq_getElem?_getD,List.getElem?_map,List.getElem?_eq_getElem hi,Option.map_some,Option.getD_some] at this⊢
  exact this.dd
 ·exact .fn f _ _ hsz hrel
theorem Bih (hG:GR G w (Bj pl H)) (hH:HR w pl Bd H) (hE:RE w (Bj pl H) pl (Bc H) env a) {o:Oper} {X:Operand} {i:Nat} (ho:o.op= .extract X i) {x:AOpd} (hx:Cc x X=true) {vs:List V} (hp:C9 G env x= .tup vs) {v:V} (hv:vs[i]? =some v):OpSim P o a w pl Bd H v H:=by
 have hu:=Cu hx hG hE (by rw[hp];rfl)
 rw[hp] at hu
 generalize hue:a.eval X=u at hu
 have hil:=(List.getElem?_eq_some_iff.1 hv).1
 cases hu with
 |tup _ us hl h=>
  have:=h i hil
  have hi2:i<us.size:=by omega
  simp only[List.getD_eq_getElem?_getD,hv,Option.getD_some,Array.getD_eq_getD_getElem?,Array.getElem?_eq_getElem hi2] at this
  exact .pure hH (u:=us[i]) (by simp[execOp,ho,hue,Instr.extract,hi2]) this
theorem Bij (hG:GR G w (Bj pl H)) (hH:HR w pl Bd H) (hE:RE w (Bj pl H) pl (Bc H) env a) {o:Oper} {t:TypeId} {X:Operand} (ho:o.op= .makeInterface t X) {x:AOpd} (hx:Cc x X=true) {p:D} (hp:C9 G env x= .d p)
  (hd:Fs P t (fun d=> !Rq d)=true):OpSim P o a w pl Bd H (.d (.iface t p)) H:=by
 have hu:=Cu hx hG hE (by rw[hp];rfl)
 rw[hp] at hu
 obtain⟨ds,hds,hk⟩:=Dq hd
 refine .pure hH (u:= .iface t (a.eval X)) ?_ (.d _ _ (.iface t _ _ hu.dd))
 cases ds<;>first| (simp[Rq] at hk;done) |simp[execOp,ho,Instr.makeInterface,run_underlying hds]
theorem Fv {t e:Nat} (h:G6 P t=some e):P.underlying t=some (.slice e):=by
 unfold G6 at h
 split at h
 ·rename_i e' h';simp at h;subst h;exact h'
 ·simp at h
theorem Bal (hG:GR G w (Bj pl H)) (hH:HR w pl Bd H) (hE:RE w (Bj pl H) pl (Bc H) env a) {o:Oper} {X:Operand} {t:TypeId} {ags:Array Operand} {ts:Array TypeId} (ho:o.op= .call { callee:= .builtin .len,args:=ags,argTypes:=ts }) (has:ags.toList=[X]) (hts:ts[0]? =some t) {x:AOpd} (hx:Cc x X=true)
  {n:Nat} (hp: (Fs P t Pi=true∧∃s,C9 G env x= .d (.str s)∧n=s.length)∨((G6 P t).isSome=true∧((∃e xs,C9 G env x= .d (.vals e xs)∧n=xs.length)∨(∃e,C9 G env x= .nils e∧n=0)∨(∃r g i,C9 G env x= .slc r g i n)))):
  OpSim P o a w pl Bd H (.d (.int .i64 (n:Int))) H:=by
 have hu:=Cu hx hG hE (by rcases hp with⟨_,_,h,_⟩ | ⟨_,⟨_,_,h,_⟩ | ⟨_,h,_⟩ | ⟨_,_,_,h⟩⟩<;>rw[h]<;>rfl)
 have has':ags= #[X]:=by cases ags;simp at has;subst has;rfl
 refine .pure hH (u:= .int .i64 n) ?_ (.d _ _ (.int _ _))
 simp only[execOp,ho,resolve,has',Sem.run_bind,Sem.run_pure,Result.andThen_ok,invoke,builtin,List.map_toArray,List.map_cons,List.map_nil]
 generalize a.eval X=u at hu
 rcases hp with⟨hd,s,h,hn⟩ | ⟨hd,hp⟩
 ·rw[h] at hu
  obtain⟨t',rfl,_,hsz⟩:=hu.dd.str_eq
  obtain⟨ds,hds,hk⟩:=Dq hd
  cases ds<;>simp[Pi] at hk
  simp[Builtin.len_,hts,run_underlying hds,hsz,hn,goInt]
 ·obtain⟨e,he⟩:=Option.isSome_iff_exists.1 hd
  have hds:=Fv he
  have hs: ∃A c,u= .slice A n c:=by
   rcases hp with⟨_,_,h,hn⟩ | ⟨_,h,hn⟩ | ⟨_,_,_,h⟩<;>rw[h] at hu
   ·have hu:=hu.dd
    subst hn
    cases hu
    ·exact⟨_,_,rfl⟩
    ·exact⟨_,_,rfl⟩
   ·subst hn;cases hu;exact⟨_,_,rfl⟩
   ·cases hu
    ·exact⟨_,_,rfl⟩
    ·exact⟨_,_,rfl⟩
  obtain⟨A,c,rfl⟩:=hs
  simp[Builtin.len_,hts,run_underlying hds,goInt]
theorem Blm {vs:List V} {s:List UInt8} (h:Zv vs=some s): ∃ns:List Int,vs=ns.map (fun n=>V.d (.int .u8 n))∧s=ns.map (fun n=>UInt8.ofNat n.toNat):=by
 induction vs generalizing s with
 |nil=>simp[Zv] at h;subst h;exact⟨[],rfl,rfl⟩
 |cons v r ih=>
  unfold Zv at h
  split at h
  ·rename_i heq;simp at heq
  ·rename_i n r' heq
   simp only[List.cons.injEq] at heq
   obtain⟨rfl,rfl⟩:=heq
   split at h
   ·rename_i s' hs'
    simp at h;subst h
    obtain⟨ns,h1,h2⟩:=ih hs'
    exact⟨n::ns,by simp[h1],by simp[h2]⟩
   ·simp at h
  ·simp at h
end
section
variable {P:Program} {cl:Fe} {G:Gx} {w:World} {pl:Pl} {Bd:Nat→Prop} {H:Hp} {env:Env} {a:Act}
theorem Wv {v:V} {n:Int} (h:asI v=some n): ∃k,v= .d (.int k n):=by
 unfold asI at h
 split at h
 ·simp at h;subst h;exact⟨_,rfl⟩
 ·simp at h
theorem Bxb (hG:GR G w (Bj pl H)) (hH:HR w pl Bd H) (hE:RE w (Bj pl H) pl (Bc H) env a) {o:Oper} {t:TypeId} {X I:Operand} (ho:o.op= .index t X I) {x i:AOpd} (hx:Cc x X=true) (hi:Cc i I=true) (hd:Fs P t Pi=true)
  {s:List UInt8} (hp:C9 G env x= .d (.str s)) {k:Int} (hk:asI (C9 G env i)=some k) (h0:0≤k) (h1:k< (s.length:Int)):OpSim P o a w pl Bd H (.d (.int .u8 ((s.getD k.toNat 0).toNat:Int))) H:=by
 obtain⟨kk,hke⟩:=Wv hk
 have hu:=Cu hx hG hE (by rw[hp];rfl)
 have hv:=Cu hi hG hE (by rw[hke];rfl)
 rw[hp] at hu
 rw[hke] at hv
 obtain⟨t',he,htl,hsz⟩:=hu.dd.str_eq
 have hie:=hv.dd.int_eq
 obtain⟨ds,hds,hkd⟩:=Dq hd
 cases ds<;>simp[Pi] at hkd
 have hlt:k.toNat<t'.size:=by omega
 refine .pure hH (u:= .int .u8 ((s.getD k.toNat 0).toNat:Int)) ?_ (.d _ _ (.int _ _))
 have hg:t'[k.toNat]? =some (s.getD k.toNat 0):=by
  rw[ByteArray.toList_eq] at htl
  have h2:t'.data.toList[k.toNat]? =s[k.toNat]? :=by rw[htl]
  have h3:k.toNat<s.length:=by omega
  have h4:t'[k.toNat]? =some (t'[k.toNat]'hlt):=by simp[hlt]
  rw[h4]
  congr 1
  have h5:t'.data.toList[k.toNat]? =some (t'[k.toNat]'hlt):=by
   rw[Array.getElem?_toList]
   show t'.data[k.toNat]? =_
   rw[Array.getElem?_eq_getElem (by simpa using hlt)]
   rfl
  rw[h5,List.getElem?_eq_getElem h3] at h2
  simp only[Option.some.injEq] at h2
  rw[h2]
  simp[List.getD_eq_getElem?_getD,h3]
 simp[execOp,ho,Instr.index,he,hie,asIntOf,run_underlying hds,h0,hg]
theorem RD.drop_take {O:Jn} {e:Nat} {xs:List D} {u:Value} (h:RD w O (.vals e xs) u) {l n:Nat} (hn:n≤xs.length) (hl:l≤n):
  ∃A cap,u= .slice A xs.length cap∧xs.length≤cap∧∀A',(l=cap∨A'=A.map (·.add (l*e))∨l=n)→RD w O (.vals e ((xs.take n).drop l)) (.slice A' (n - l) (cap - l)):=by
 have Bc: ((xs.take n).drop l).length=n - l:=by simp;omega
 by_cases hz:n - l=0
 ·have hnil: (xs.take n).drop l=[]:=List.eq_nil_of_length_eq_zero (by omega)
  rw[hnil,hz]
  cases h with
  |vals0 _ A cap=>exact⟨A,cap,rfl,Nat.zero_le _,fun A' _=> .vals0 _ _ _⟩
  |vals _ _ b o cap F hcap=>exact⟨_,cap,rfl,hcap,fun A' _=> .vals0 _ _ _⟩
 ·cases h with
  |vals0=>simp at hn;omega
  |vals _ _ b o cap F hcap hO hb he hc h1 hr=>
   refine⟨_,cap,rfl,hcap,fun A' hA=> ?_⟩
   have hA':A'=some ⟨b,o+l*e,none⟩:=by
    rcases hA with h|h|h
    ·omega
    ·rw[h];simp[Addr.add_lit]
    ·omega
   subst hA'
   rw[←Bc]
   have Cf: ∀i,i<n - l→((xs.take n).drop l).getD i .nilp=xs.getD (l+i) .nilp:=fun i hi=>by
    simp only[List.getD_eq_getElem?_getD,List.getElem?_drop]
    rw[List.getElem?_take_of_lt (by omega)]
   refine .vals e _ b (o+l*e) (cap - l) (fun i j=>F (l+i) j) (by omega) hO hb (fun i hi=> ?_) (fun i j hi hj=> ?_) (fun i j hi hj=>h1 _ _ (by omega) hj) (fun i j hi hj=> ?_)
   ·rw[Cf i (by omega)];exact he _ (by omega)
   ·have:=hc (l+i) j (by omega) hj
    rwa[Nat.add_mul,←Nat.add_assoc] at this
   ·rw[Cf i (by omega)];exact hr _ _ (by omega) hj
theorem J4 {lim dflt n:Nat} {x:Option AOpd} {X:Option Operand} (hx:Km x X=true) (h:Da G env dflt lim x=some n) (hd:dflt≤lim) (hG:GR G w (Bj pl H)) (hE:RE w (Bj pl H) pl (Bc H) env a) (c:BoundsCode):
  n≤lim∧((X=none∧n=dflt)∨∃Y k,X=some Y∧a.eval Y= .int k n∧(Instr.sliceBound (.int k n) lim c).run P w= .ok n w):=by
 unfold Da at h
 split at h
 ·simp at h;subst h
  cases X<;>simp[Km] at hx
  exact⟨hd, .inl ⟨rfl,rfl⟩⟩
 ·rename_i y
  cases X with
  |none=>simp[Km] at hx
  |some Y=>
   split at h
   ·rename_i m hm
    split at h
    ·rename_i hmm
     simp at h;subst h
     obtain⟨k,hke⟩:=Wv hm
     have hv:=Cu (show Cc y Y=true from hx) hG hE (by rw[hke];rfl)
     rw[hke] at hv
     have he:=hv.dd.int_eq
     have hmn: ((m.toNat:Nat):Int)=m:=by omega
     refine⟨by omega, .inr ⟨Y,k,rfl,by rw[he,hmn], ?_⟩⟩
     rw[hmn]
     simp[Instr.sliceBound,asIntOf,hmm]
    ·simp at h
   ·simp at h
theorem Rw {len cap l h:Nat} {lo hi:Option AOpd} {Lo Hi:Option Operand} (hlo:Km lo Lo=true) (hhi:Km hi Hi=true) (hh:Da G env len len hi=some h) (hl:Da G env 0 h lo=some l) (hc:len≤cap) (isSlice:Bool) (hG:GR G w (Bj pl H)) (hE:RE w (Bj pl H) pl (Bc H) env a):
  h≤len∧l≤h∧(Instr.sliceBounds isSlice len cap (Lo.map a.eval) (Hi.map a.eval) none).run P w= .ok (l,h,cap) w:=by
 obtain⟨h1,h2⟩:=J4 (P:=P) hhi hh (Nat.le_refl _) hG hE .sliceAlen
 obtain⟨l1,l2⟩:=J4 (P:=P) hlo hl (Nat.zero_le _) hG hE .sliceB
 refine⟨h1,l1, ?_⟩
 have hbnd: ∀ (k:IntKind) (n lim:Nat) (c:BoundsCode),n≤lim→(Instr.sliceBound (.int k n) lim c).run P w= .ok n w:=fun k n lim c hn=>by
  simp[Instr.sliceBound,asIntOf,hn]
 have hz: ∀ (k:IntKind) (lim:Nat) (c:BoundsCode),(Instr.sliceBound (.int k 0) lim c).run P w= .ok 0 w:=fun k lim c=>by
  simp[Instr.sliceBound,asIntOf]
 rcases h2 with⟨rfl,rfl⟩ | ⟨Y,k,rfl,hY,_⟩
 ·rcases l2 with⟨rfl,rfl⟩ | ⟨Z,k2,rfl,hZ,_⟩
  ·simp[Instr.sliceBounds]
  ·simp[Instr.sliceBounds,hZ,hbnd k2 l h .sliceB l1]
 ·have hb: (Instr.sliceBound (.int k h) cap (if isSlice=true then .sliceAcap else .sliceAlen)).run P w= .ok h w:=hbnd _ _ _ _ (by omega)
  rcases l2 with⟨rfl,rfl⟩ | ⟨Z,k2,rfl,hZ,_⟩
  ·simp only[Instr.sliceBounds,Option.map_some,Option.map_none,hY,Sem.run_bind,Sem.run_pure,Result.andThen_ok,hb]
  ·simp only[Instr.sliceBounds,Option.map_some,hY,hZ,Sem.run_bind,Sem.run_pure,Result.andThen_ok,hb]
   simp[hbnd k2 l h .sliceB l1]
theorem Bf2 (hG:GR G w (Bj pl H)) (hH:HR w pl Bd H) (hE:RE w (Bj pl H) pl (Bc H) env a) {o:Oper} {t:TypeId} {X:Operand} {Lo Hi:Option Operand} (ho:o.op= .slice t X Lo Hi none) {x:AOpd} {lo hi:Option AOpd} (hx:Cc x X=true) (hlo:Km lo Lo=true) (hhi:Km hi Hi=true)
  (hd:Fs P t Pi=true) {s:List UInt8} (hp:C9 G env x= .d (.str s)) {h l:Nat} (hh:Da G env s.length s.length hi=some h) (hl:Da G env 0 h lo=some l):OpSim P o a w pl Bd H (.d (.str ((s.take h).drop l))) H:=by
 have hu:=Cu hx hG hE (by rw[hp];rfl)
 rw[hp] at hu
 obtain⟨t',he,htl,hsz⟩:=hu.dd.str_eq
 obtain⟨ds,hds,hkd⟩:=Dq hd
 cases ds<;>simp[Pi] at hkd
 rw[←hsz] at hh
 obtain⟨h1,h2,h3⟩:=Rw (P:=P) hlo hhi hh hl (Nat.le_refl _) false hG hE
 refine .pure hH (u:= .string (t'.extract l h)) ?_ (.d _ _ (.str _ _ ?_))
 ·simp[execOp,ho,Instr.sliceAt,run_underlying hds,he,Instr.slice,h3]
 ·rw[ByteArray.toList_eq] at htl
  rw[←htl]
  simp[ByteArray.data_extract,Array.toList_extract]
  rw[List.drop_take]
theorem Bc7 (hG:GR G w (Bj pl H)) (hH:HR w pl Bd H) (hE:RE w (Bj pl H) pl (Bc H) env a) {o:Oper} {t:TypeId} {X:Operand} {Lo Hi:Option Operand} (ho:o.op= .slice t X Lo Hi none) {x:AOpd} {lo hi:Option AOpd} (hx:Cc x X=true) (hlo:Km lo Lo=true) (hhi:Km hi Hi=true)
  {e:Nat} (hd:K4 P t e=true) {xs:List D} (hp:C9 G env x= .d (.vals e xs)) {h l:Nat} (hh:Da G env xs.length xs.length hi=some h) (hl:Da G env 0 h lo=some l):OpSim P o a w pl Bd H (.d (.vals e ((xs.take h).drop l))) H:=by
 have hu:=Cu hx hG hE (by rw[hp];rfl)
 rw[hp] at hu
 unfold K4 at hd
 split at hd
 ·rename_i el hel
  have hds:=Fv hel
  have hhl:h≤xs.length:=(J4 (P:=P) hhi hh (Nat.le_refl _) hG hE .sliceAlen).1
  have hlh:l≤h:=(J4 (P:=P) hlo hl (Nat.zero_le _) hG hE .sliceAlen).1
  obtain⟨A,cap,hue,hcap,hrd⟩:=hu.dd.drop_take hhl hlh
  obtain⟨h1,h2,h3⟩:=Rw (P:=P) hlo hhi hh hl hcap true hG hE
  refine .pure hH (u:= .slice (if cap=l then A else A.map (·.add (l*e))) (h - l) (cap - l)) ?_ (.d _ _ (hrd _ ?_))
  ·simp[execOp,ho,Instr.sliceAt,run_underlying hds,hue,Instr.slice,h3,Jr hd]
  ·split
   ·rename_i hcl;exact .inl hcl.symm
   ·exact .inr (.inl rfl)
 ·simp at hd
theorem Bf1 (hG:GR G w (Bj pl H)) (hH:HR w pl Bd H) (hE:RE w (Bj pl H) pl (Bc H) env a) {o:Oper} {t:TypeId} {X:Operand} {Lo Hi:Option Operand} (ho:o.op= .slice t X Lo Hi none) {x:AOpd} {lo hi:Option AOpd} (hx:Cc x X=true) (hlo:Km lo Lo=true) (hhi:Km hi Hi=true)
  {e:Nat} (hd:K4 P t e=true) {r g i n:Nat} (hp:C9 G env x= .slc r g i n) {xs:List V} (hrow:Cw H r g=some (e,xs)) {h l:Nat} (hh:Da G env n n hi=some h) (hl:Da G env 0 h lo=some l):OpSim P o a w pl Bd H (.slc r g (i+l) (h - l)) H:=by
 have hu:=Cu hx hG hE (by rw[hp];rfl)
 rw[hp] at hu
 obtain⟨b,c,arr,ty,fr,hpl,_⟩:=Jf hH hrow
 unfold K4 at hd
 split at hd
 ·rename_i el hel
  have hds:=Fv hel
  have hhl:h≤n:=(J4 (P:=P) hhi hh (Nat.le_refl _) hG hE .sliceAlen).1
  have hlh:l≤h:=(J4 (P:=P) hlo hl (Nat.zero_le _) hG hE .sliceAlen).1
  generalize hue:a.eval X=u at hu
  cases hu with
  |slc _ _ _ _ b' e' c' hlt hp' hk=>
   rw[hpl] at hp'
   simp only[Option.some.injEq,Prod.mk.injEq] at hp'
   obtain⟨rfl,rfl,rfl⟩:=hp'
   obtain⟨h1,h2,h3⟩:=Rw (P:=P) hlo hhi hh hl (show n≤c - i by omega) true hG hE
   refine .pure hH (u:= .slice (if c - i=l then some ⟨b,i*e,none⟩ else some ⟨b,i*e+l*e,none⟩) (h - l) (c - i - l)) ?_ ?_
   ·simp[execOp,ho,Instr.sliceAt,run_underlying hds,hue,Instr.slice,h3,Jr hd,Addr.add_lit]
   ·split
    ·rename_i hcl
     have hz:h - l=0:=by omega
     rw[hz]
     by_cases h0:i+l=0
     ·obtain⟨rfl,rfl⟩:i=0∧l=0:=by omega
      exact Rx hlt hpl (by omega) (by simp) (by omega)
     ·exact .slc0 _ _ _ _ _ (by omega) hlt
    ·exact Rx hlt hpl (by omega) (by rw[Nat.add_mul]) (by omega)
  |slc0 _ _ _ A cap hi' hlt=>
   obtain⟨h1,h2,h3⟩:=Rw (P:=P) hlo hhi hh hl (show 0≤cap by omega) true hG hE
   refine .pure hH (u:= .slice (if cap=l then A else A.map (·.add (l*e))) (h - l) (cap - l)) ?_ ?_
   ·simp[execOp,ho,Instr.sliceAt,run_underlying hds,hue,Instr.slice,h3,Jr hd]
   ·have hz:h - l=0:=by omega
    rw[hz]
    exact .slc0 _ _ _ _ _ (by omega) hlt
 ·simp at hd
theorem Brx {v:V} {n:Nat} {O:Jn} {m:Nat} {u:Value} (h:Bdv v=some n) (hu:RV w O pl m v u): ∃A cap,u= .slice A n cap∧n≤cap:=by
 unfold Bdv at h
 split at h
 ·simp only[Option.some.injEq] at h
  subst h
  have hd:=hu.dd
  cases hd with
  |vals0=>exact⟨_,_,rfl,Nat.zero_le _⟩
  |vals _ _ b o cap F hcap=>exact⟨_,_,rfl,hcap⟩
 ·simp only[Option.some.injEq] at h
  subst h
  cases hu with
  |slc r g i k b e c hr hp hk=>exact⟨_,_,rfl,by omega⟩
  |slc0=>exact⟨_,_,rfl,Nat.zero_le _⟩
 ·simp at h
theorem Blj (hG:GR G w (Bj pl H)) (hH:HR w pl Bd H) (hE:RE w (Bj pl H) pl (Bc H) env a) {o:Oper} {t:TypeId} {X M:Operand} {Lo Hi:Option Operand} (ho:o.op= .slice t X Lo Hi (some M)) {x hi mx:AOpd} {lo:Option AOpd} (hx:Cc x X=true) (hlo:Km lo Lo=true) (hhi:Km (some hi) Hi=true) (hmx:Cc mx M=true)
  {e:Nat} (hd:K4 P t e=true) {n m h l:Nat} (hn:Bdv (C9 G env x)=some n) (hm:Da G env n n (some mx)=some m) (hh:Da G env m m (some hi)=some h) (hl:Da G env 0 h lo=some l):OpSim P o a w pl Bd H .any H:=by
 have hk: (C9 G env x).ok=true:=by
  revert hn
  generalize C9 G env x=v
  cases v<;>simp[Bdv,V.ok]
 have hu:=Cu hx hG hE hk
 obtain⟨A,cap,hue,hcap⟩:=Brx hn hu
 unfold K4 at hd
 split at hd
 ·rename_i el hel
  have hds:=Fv hel
  obtain⟨m1,m2⟩:=J4 (P:=P) (X:=some M) (x:=some mx) (show Km (some mx) (some M)=true from hmx) hm (Nat.le_refl _) hG hE .slice3Acap
  obtain⟨h1,h2⟩:=J4 (P:=P) hhi hh (Nat.le_refl _) hG hE .slice3B
  obtain⟨l1,l2⟩:=J4 (P:=P) hlo hl (Nat.zero_le _) hG hE .slice3C
  have hbnd: ∀ (k:IntKind) (n lim:Nat) (c:BoundsCode),n≤lim→(Instr.sliceBound (.int k n) lim c).run P w= .ok n w:=fun k n lim c hn=>by
   simp[Instr.sliceBound,asIntOf,hn]
  rcases m2 with⟨hc,_⟩ | ⟨Y,k,hY,hmv,_⟩
  ·simp at hc
  simp only[Option.some.injEq] at hY
  subst hY
  rcases h2 with⟨hc,_⟩ | ⟨Z,k2,rfl,hhv,_⟩
  ·subst hc;simp[Km] at hhi
  have b1: (Instr.sliceBound (.int k m) cap .slice3Acap).run P w= .ok m w:=hbnd _ _ _ _ (by omega)
  have b2: (Instr.sliceBound (.int k2 h) m .slice3B).run P w= .ok h w:=hbnd _ _ _ _ h1
  have hbs: (Instr.sliceBounds true n cap (Lo.map a.eval) (some (a.eval Z)) (some (a.eval M))).run P w= .ok (l,h,m) w:=by
   rcases l2 with⟨rfl,rfl⟩ | ⟨W,k3,rfl,hlv,_⟩
   ·simp[Instr.sliceBounds,hmv,hhv,b1,b2]
   ·have b3: (Instr.sliceBound (.int k3 l) h .slice3C).run P w= .ok l w:=hbnd _ _ _ _ l1
    simp[Instr.sliceBounds,hmv,hhv,hlv,b1,b2,b3]
  refine .pure hH (u:= .slice (if m=l then A else A.map (·.add (l*e))) (h - l) (m - l)) ?_ (.any _)
  simp[execOp,ho,Instr.sliceAt,run_underlying hds,hue,Instr.slice,hbs,Jr hd]
 ·simp at hd
theorem Blk (hG:GR G w (Bj pl H)) (hH:HR w pl Bd H) (hE:RE w (Bj pl H) pl (Bc H) env a) {o:Oper} {t:TypeId} {X:Operand} {Lo Hi:Option Operand} (ho:o.op= .slice t X Lo Hi none) {x hi:AOpd} {lo:Option AOpd} (hx:Cc x X=true) (hlo:Km lo Lo=true) (hhi:Km (some hi) Hi=true)
  {e:Nat} (hd:K4 P t e=true) {r g n:Nat} (hp:C9 G env x= .slc r g 0 n) {xs:List V} (hrow:Cw H r g=some (e,xs)) {h l:Nat} (hh:Da G env xs.length xs.length (some hi)=some h) (hl:Da G env 0 h lo=some l):OpSim P o a w pl Bd H (.slc r g l (h - l)) H:=by
 have hu:=Cu hx hG hE (by rw[hp];rfl)
 rw[hp] at hu
 obtain⟨b,c,arr,ty,fr,hpl,_,_,_,hxc,_⟩:=Jf hH hrow
 unfold K4 at hd
 split at hd
 ·rename_i el hel
  have hds:=Fv hel
  obtain⟨h1,h2⟩:=J4 (P:=P) hhi hh (Nat.le_refl _) hG hE .sliceAcap
  obtain⟨l1,l2⟩:=J4 (P:=P) hlo hl (Nat.zero_le _) hG hE .sliceB
  have hbnd: ∀ (k:IntKind) (n lim:Nat) (c:BoundsCode),n≤lim→(Instr.sliceBound (.int k n) lim c).run P w= .ok n w:=fun k n lim c hn=>by
   simp[Instr.sliceBound,asIntOf,hn]
  rcases h2 with⟨hc,_⟩ | ⟨Z,k2,rfl,hhv,_⟩
  ·subst hc;simp[Km] at hhi
  generalize hue:a.eval X=u at hu
  cases hu with
  |slc _ _ _ _ b' e' c' hlt hp' hk=>
   rw[hpl] at hp'
   simp only[Option.some.injEq,Prod.mk.injEq] at hp'
   obtain⟨rfl,rfl,rfl⟩:=hp'
   rw[Nat.sub_zero,Nat.zero_mul] at hue
   have b2: (Instr.sliceBound (.int k2 h) c .sliceAcap).run P w= .ok h w:=hbnd _ _ _ _ (by omega)
   have hbs: (Instr.sliceBounds true n c (Lo.map a.eval) (some (a.eval Z)) none).run P w= .ok (l,h,c) w:=by
    rcases l2 with⟨rfl,rfl⟩ | ⟨W,k3,rfl,hlv,_⟩
    ·simp[Instr.sliceBounds,hhv,b2]
    ·have b3: (Instr.sliceBound (.int k3 l) h .sliceB).run P w= .ok l w:=hbnd _ _ _ _ l1
     simp[Instr.sliceBounds,hhv,hlv,b2,b3]
   refine .pure hH (u:= .slice (if c=l then some ⟨b,0,none⟩ else some ⟨b,l*e,none⟩) (h - l) (c - l)) ?_ ?_
   ·simp[execOp,ho,Instr.sliceAt,run_underlying hds,hue,Instr.slice,hbs,Jr hd,Addr.add_lit]
   ·split
    ·rename_i hcl
     have hz:h - l=0:=by omega
     rw[hz]
     by_cases h0:l=0
     ·subst h0
      exact Rx hlt hpl (by omega) (by simp) (by omega)
     ·exact .slc0 _ _ _ _ _ (by omega) hlt
    ·exact Rx hlt hpl (by omega) rfl (by omega)
  |slc0 _ _ _ A cap hi' hlt=>exact absurd hi' (Nat.lt_irrefl 0)
 ·simp at hd
end
section
variable {P:Program} {cl:Fe} {G:Gx} {w:World} {pl:Pl} {Bd:Nat→Prop} {H:Hp} {env:Env} {a:Act}
theorem Ql {t:Nat} {fs:Array Field} (h:Ko P t=some fs):P.underlying t=some (.struct fs):=by
 unfold Ko at h
 split at h
 ·rename_i fs' h';simp at h;subst h;exact h'
 ·simp at h
def Bae (P:Program) (s f off:Nat):Bool:=match Ko P s with|some fs=> (match fs[f]? with|some fd=>Nat.beq fd.offset off&& (match P.info? fd.type with|some i=>Nat.ble 1 i.size|none=>false) |none=>false) |none=>false
theorem Zo {s f off:Nat} (h:Bae P s f off=true) {b o:Nat} : (Instr.fieldAt s (.pointer (some ⟨b,o,none⟩)) f).run P w= .ok (.pointer (some ⟨b,o+off,none⟩)) w:=by
 unfold Bae at h
 split at h
 ·rename_i fs hfs
  split at h
  ·rename_i fd hfd
   simp only[Bool.and_eq_true] at h
   obtain⟨h1,h2⟩:=h
   have h1:=Nat.eq_of_beq_eq_true h1
   split at h2
   ·rename_i i hi
    have h2:=Nat.le_of_ble_eq_true h2
    have hne: ¬ (i.size=0):=by omega
    simp[Instr.fieldAt,run_underlying (Ql hfs),hfd,Instr.sureAddr,fieldPlace,sizeOf,typeInfo,hi,hne,Addr.add_lit,h1]
   ·simp at h2
  ·simp at h
 ·simp at h
theorem Bpq (hG:GR G w (Bj pl H)) (hH:HR w pl Bd H) (hE:RE w (Bj pl H) pl (Bc H) env a) {o:Oper} {s f:Nat} {X:Operand} (ho:o.op= .fieldAddr s X f) {x:AOpd} (hx:Cc x X=true) {off:Nat} (hc:Bae P s f off=true)
  {r g i j:Nat} (hp:C9 G env x= .ptr r g i j):OpSim P o a w pl Bd H (.ptr r g i (j+off)) H:=by
 have hu:=Cu hx hG hE (by rw[hp];rfl)
 rw[hp] at hu
 generalize hue:a.eval X=u at hu
 cases hu with
 |ptr _ _ _ _ b e c hlt hpl=>
  exact .pure hH (u:= .pointer (some ⟨b,i*e+j+off,none⟩)) (by simp[execOp,ho,hue,Zo hc]) (Bf0 hlt hpl (by omega))
theorem Blf (hG:GR G w (Bj pl H)) (hH:HR w pl Bd H) (hE:RE w (Bj pl H) pl (Bc H) env a) {o:Oper} {s f:Nat} {X:Operand} (ho:o.op= .fieldAddr s X f) {x:AOpd} (hx:Cc x X=true) {off:Nat} (hc:Bae P s f off=true)
  {cs:List D} (hp:C9 G env x= .d (.rptr cs)):OpSim P o a w pl Bd H (.d (.rptr (cs.drop off))) H:=by
 have hu:=Cu hx hG hE (by rw[hp];rfl)
 rw[hp] at hu
 have hu:=hu.dd
 generalize hue:a.eval X=u at hu
 cases hu with
 |rptr _ b o2 F hO hb hcell h1 hr=>
  refine .pure hH (u:= .pointer (some ⟨b,o2+off,none⟩)) (by simp[execOp,ho,hue,Zo hc]) (.d _ _ (.rptr _ b (o2+off) (fun j=>F (off+j)) hO hb (fun j hj=> ?_) (fun j hj=>h1 _ (by simp at hj;omega)) (fun j hj=> ?_)))
  ·have:=hcell (off+j) (by simp at hj;omega)
   rwa[←Nat.add_assoc] at this
  ·have:=hr (off+j) (by simp at hj;omega)
   simpa[List.getD_eq_getElem?_getD] using this
theorem Bs0 {t n off:Nat} {ag:Bool} (hag:R5 P t ag=true) (hsz:Lx P t n=true) {cs:List V} {us:Array Value} {O:Jn} {m:Nat} (hc:RCs w O pl m cs us) (hl:off+n≤cs.length) {v:V} (hv:K8 ag ((cs.drop off).take n)=some v):
  ∃u,(part t us off).run P w= .ok u w∧RV w O pl m v u:=by
 have hs:=hc.size
 cases ag
 ·have hv': ∃v',(cs.drop off).take n=[v']∧v'=v:=by
   match hcs: (cs.drop off).take n,hv with
   | [v'],hv=>exact⟨v',rfl,by simpa[K8] using hv⟩
   | [],hv=>simp[K8] at hv
   |_::_::_,hv=>simp[K8] at hv
  obtain⟨v',hcs,rfl⟩:=hv'
  have hn1:n=1:=by have:=congrArg List.length hcs;simp at this;omega
  subst hn1
  have h0:off<us.size:=by omega
  refine⟨us[off],by simp[part,Q6 hag,h0], ?_⟩
  have:=(hc.part hl).rel 0 (by simp;omega)
  rw[hcs] at this
  have h3: (us.extract off (off+1)).getD 0 undef=us[off]:=by rw[Rl (by omega) (by omega)];simp[h0]
  rw[h3] at this
  exact this
 ·simp[K8] at hv
  subst hv
  refine⟨.agg (us.extract off (off+n)),by simp[part,Q6 hag,Jr hsz],(hc.part hl).mkAgg⟩
theorem Bqs {O:Jn} {m:Nat} {v:V} {u:Value} (h:RV w O pl m v u) (ha:v.isAgg=true): ∃us,u= .agg us∧RCs w O pl m v.cells us:=by
 have hs:v.sto=true:=by revert ha;cases v<;>simp[V.isAgg,V.sto]
 have hc:=h.cells hs
 cases h with
 |d x u h=>
  cases x<;>first| (simp[V.isAgg] at ha;done) |skip
  cases h with
  |agg _ us=>exact⟨us,rfl,hc⟩
 |agg cs us=>exact⟨us,rfl,hc⟩
 |_=>simp[V.isAgg] at ha
theorem Bpr (hG:GR G w (Bj pl H)) (hH:HR w pl Bd H) (hE:RE w (Bj pl H) pl (Bc H) env a) {o:Oper} {t f:Nat} {X:Operand} (ho:o.op= .field t X f) {x:AOpd} (hx:Cc x X=true) {ag:Bool} {off n:Nat}
  (hc: (match Ko P t with|some fs=> (match fs[f]? with|some fd=>Nat.beq fd.offset off&&Lx P fd.type n&&R5 P fd.type ag|none=>false) |none=>false)=true)
  (hl:off+n≤(C9 G env x).cells.length) (ha: (C9 G env x).isAgg=true) {v:V} (hv:K8 ag (((C9 G env x).cells.drop off).take n)=some v):OpSim P o a w pl Bd H v H:=by
 have hu:=Cu hx hG hE (by revert ha;cases C9 G env x<;>simp[V.isAgg,V.ok])
 obtain⟨us,hue,hcs⟩:=Bqs hu ha
 split at hc
 ·rename_i fs hfs
  split at hc
  ·rename_i fd hfd
   simp only[Bool.and_eq_true] at hc
   obtain⟨⟨h1,h2⟩,h3⟩:=hc
   have h1:=Nat.eq_of_beq_eq_true h1
   obtain⟨u,hrun,hrv⟩:=Bs0 (P:=P) h3 h2 hcs hl hv
   exact .pure hH (u:=u) (by simp[execOp,ho,Instr.field,run_underlying (Ql hfs),hfd,hue,asAgg,h1,hrun]) hrv
  ·simp at hc
 ·simp at hc
theorem Zp {t e:Nat} (hd:K4 P t e=true) {b off len cap:Nat} {k:IntKind} {i:Int} (h0:0≤i) (h1:i< (len:Int)):
  (Instr.indexAt t (.slice (some ⟨b,off,none⟩) len cap) (.int k i)).run P w= .ok (.pointer (some ⟨b,off+i.toNat*e,none⟩)) w:=by
 unfold K4 at hd
 split at hd
 ·rename_i el hel
  have hds:=Fv hel
  simp[Instr.indexAt,asIntOf,run_underlying hds,h0,h1,Jr hd,Addr.add_lit]
 ·simp at hd
theorem Blg (hG:GR G w (Bj pl H)) (hH:HR w pl Bd H) (hE:RE w (Bj pl H) pl (Bc H) env a) {o:Oper} {t:Nat} {X I:Operand} (ho:o.op= .indexAddr t X I) {x i:AOpd} (hx:Cc x X=true) (hi:Cc i I=true) {e:Nat} (hd:K4 P t e=true)
  {k:Int} (hk:asI (C9 G env i)=some k) {xs:List D} (hp:C9 G env x= .d (.vals e xs)) (h0:0≤k) (h1:k< (xs.length:Int)):OpSim P o a w pl Bd H (.d (.rptr (xs.getD k.toNat .nilp).cells)) H:=by
 obtain⟨kk,hke⟩:=Wv hk
 have hu:=Cu hx hG hE (by rw[hp];rfl)
 have hv:=Cu hi hG hE (by rw[hke];rfl)
 rw[hp] at hu
 rw[hke] at hv
 have hie:=hv.dd.int_eq
 have hu:=hu.dd
 generalize hue:a.eval X=u at hu
 cases hu with
 |vals0=>simp at h1;omega
 |vals _ _ b off cap F hcap hO hb he hc h1c hr=>
  have hkl:k.toNat<xs.length:=by omega
  have Bc:=he k.toNat hkl
  refine .pure hH (u:= .pointer (some ⟨b,off+k.toNat*e,none⟩)) (by simp[execOp,ho,hue,hie,Zp hd h0 h1]) (.d _ _ (.rptr _ b _ (fun j=>F k.toNat j) hO hb (fun j hj=> ?_) (fun j hj=> ?_) (fun j hj=> ?_)))
  ·exact hc _ _ hkl (by omega)
  ·exact h1c _ _ hkl (by omega)
  ·exact hr _ _ hkl (by omega)
theorem Blh (hG:GR G w (Bj pl H)) (hH:HR w pl Bd H) (hE:RE w (Bj pl H) pl (Bc H) env a) {o:Oper} {t:Nat} {X I:Operand} (ho:o.op= .indexAddr t X I) {x i:AOpd} (hx:Cc x X=true) (hi:Cc i I=true) {e:Nat} (hd:K4 P t e=true)
  {k:Int} (hk:asI (C9 G env i)=some k) {r g j n:Nat} (hp:C9 G env x= .slc r g j n) (h0:0≤k) (h1:k< (n:Int)) {xs:List V} (hrow:Cw H r g=some (e,xs)):OpSim P o a w pl Bd H (.ptr r g (j+k.toNat) 0) H:=by
 obtain⟨kk,hke⟩:=Wv hk
 have hu:=Cu hx hG hE (by rw[hp];rfl)
 have hv:=Cu hi hG hE (by rw[hke];rfl)
 rw[hp] at hu
 rw[hke] at hv
 have hie:=hv.dd.int_eq
 obtain⟨b,c,arr,ty,fr,hpl,_⟩:=Jf hH hrow
 generalize hue:a.eval X=u at hu
 cases hu with
 |slc _ _ _ _ b' e' c' hlt hp' hkc=>
  rw[hpl] at hp'
  simp only[Option.some.injEq,Prod.mk.injEq] at hp'
  obtain⟨rfl,rfl,rfl⟩:=hp'
  exact .pure hH (u:= .pointer (some ⟨b,j*e+k.toNat*e,none⟩)) (by simp[execOp,ho,hue,hie,Zp hd h0 h1]) (Bf0 hlt hpl (by rw[Nat.add_mul];omega))
 |slc0=>omega
theorem Bnk (vs:List Value): ∀ (cs:Array Value) (off k0:Nat),off+k0+vs.length≤cs.size→
  ((vs.zipIdx k0).foldl (fun (cs:Array Value) (p:Value×Nat)=>cs.setIfInBounds (off+p.2) p.1) cs).size=cs.size∧
  ∀k,((vs.zipIdx k0).foldl (fun (cs:Array Value) (p:Value×Nat)=>cs.setIfInBounds (off+p.2) p.1) cs).getD k undef=if off+k0≤k∧k<off+k0+vs.length then vs.getD (k - (off+k0)) undef else cs.getD k undef:=by
 induction vs with
 |nil=>intro cs off k0 _;exact⟨rfl,fun k=>by rw[if_neg (by simp)];rfl⟩
 |cons v vs ih=>
  intro cs off k0 hl
  simp only[List.length_cons] at hl
  simp only[List.zipIdx_cons,List.foldl_cons]
  obtain⟨h1,h2⟩:=ih (cs.setIfInBounds (off+k0) v) off (k0+1) (by simp;omega)
  refine⟨by simpa using h1,fun k=> ?_⟩
  rw[h2 k]
  simp only[List.length_cons]
  by_cases hk:off+(k0+1)≤k∧k<off+(k0+1)+vs.length
  ·rw[if_pos hk,if_pos (by omega)]
   obtain⟨m,rfl⟩: ∃m,k=off+k0+1+m:=⟨k - (off+k0+1),by omega⟩
   rw[show off+k0+1+m - (off+(k0+1))=m by omega,show off+k0+1+m - (off+k0)=m+1 by omega]
   rfl
  ·rw[if_neg hk]
   by_cases h0:k=off+k0
   ·subst h0
    rw[if_pos (by omega)]
    simp[show off+k0<cs.size by omega]
   ·rw[if_neg (by omega)]
    simp only[Array.getD_eq_getD_getElem?]
    rw[Array.getElem?_setIfInBounds_ne (Ne.symm h0)]
theorem Bmo (vs:Array Value) (cs:Array Value) (off:Nat):vs.zipIdx.foldl (fun cs (c,j)=>cs.setIfInBounds (off+j) c) cs=(vs.toList.zipIdx 0).foldl (fun (cs:Array Value) (p:Value×Nat)=>cs.setIfInBounds (off+p.2) p.1) cs:=by
 rw[←Array.foldl_toList,Array.toList_zipIdx]
theorem RCs.setAt {O:Jn} {m:Nat} {cs vs:List V} {us uv:Array Value} (hc:RCs w O pl m cs us) (hv:RCs w O pl m vs uv) {off:Nat} (hl:off+vs.length≤cs.length):
  RCs w O pl m (Bej cs off vs) (uv.zipIdx.foldl (fun cs (c,j)=>cs.setIfInBounds (off+j) c) us):=by
 have h1:=hc.size
 have h2:=hv.size
 rw[Bmo]
 obtain⟨h3,h4⟩:=Bnk uv.toList us off 0 (by simp;omega)
 have hsp:=Pz cs vs off
 refine⟨by rw[h3,Ev.Bej];simp;omega,fun i hi=> ?_,fun i hi=> ?_⟩<;>rw[h4 i]<;>simp only[Nat.add_zero,Array.length_toList,h2]<;>
  have hi':i<cs.length:=by(simp[Ev.Bej] at hi;omega)
 ·rw[Ev.Bej,hsp i hl]
  split
  ·rename_i hk
   have:=hv.rel (i - off) (by omega)
   simpa[List.getD_eq_getElem?_getD,Array.getD_eq_getD_getElem?] using this
  ·exact hc.rel i hi'
 ·split
  ·rename_i hk
   have:=hv.one (i - off) (by omega)
   simpa[List.getD_eq_getElem?_getD,Array.getD_eq_getD_getElem?] using this
  ·exact hc.one i hi'
theorem Bgv {O:Jn} {m:Nat} (hG:GR G w O) (hE:RE w O pl m env a) (hO:O=Bj pl H) {fs:Array Field} {sz:Nat→Nat} : ∀ (qs:List (Nat×Nat×AOpd)) (ps:List (Nat×Operand)) (cs:List V) (us:Array Value) (cs':List V),
  Rv P fs qs ps=true→Qw G env cs qs=some cs'→RCs w O pl m cs us→(∀ (i:Nat) f,fs[i]? =some f→Lx P f.type (sz i)=true)→
  ∃us',Instr.fill (fun i=> (fs[i]?).map fun f=> (f.offset,sz i)) us (ps.map fun (i,x)=> (i,a.eval x))=some us'∧RCs w O pl m cs' us'
 | [],[],cs,us,cs',_,hf,hc,_=>by simp[Qw] at hf;subst hf;exact⟨us,rfl,hc⟩
 | [],_::_,_,_,_,hp,_,_,_=>by simp[Rv] at hp
 |_::_,[],_,_,_,hp,_,_,_=>by simp[Rv] at hp
 | (off,n,x)::qs,(i,y)::ps,cs,us,cs',hp,hf,hc,hs=>by
  simp only[Rv,Bool.and_eq_true] at hp
  obtain⟨⟨h1,h2⟩,h3⟩:=hp
  split at h1
  ·rename_i f hfi
   simp only[Bool.and_eq_true] at h1
   obtain⟨e1,e2⟩:=h1
   have e1:=Nat.eq_of_beq_eq_true e1
   have hsi:=hs i f hfi
   obtain⟨i1,hi1,hi2⟩:=Y8 hsi
   obtain⟨i3,hi3,hi4⟩:=Y8 e2
   rw[hi1] at hi3
   simp only[Option.some.injEq] at hi3
   subst hi3
   simp only[Qw] at hf
   split at hf
   ·rename_i hcond
    obtain⟨k1,k2,k3⟩:=hcond
    have hv:=(Cu h2 hG hE (Bll k1)).cells k1
    obtain⟨us',hr1,hr2⟩:=Bgv hG hE hO qs ps (Bej cs off (C9 G env x).cells) _ cs' h3 hf (hc.setAt hv (by omega)) hs
    refine⟨us', ?_,hr2⟩
    have hvs:=hv.size
    have hcs:=hc.size
    have hcond2: ¬ (((a.eval y).cells.size≠sz i||off+(a.eval y).cells.size>us.size)=true):=by simp;omega
    simp only[List.map_cons,Instr.fill,hfi,Option.map_some,e1]
    rw[if_neg (by simpa using hcond2)]
    exact hr1
   ·simp at hf
  ·simp at h1
theorem Bpl (hG:GR G w (Bj pl H)) (hH:HR w pl Bd H) (hE:RE w (Bj pl H) pl (Bc H) env a) {o:Oper} {t:Nat} {ps:Array (Nat×Operand)} (ho:o.op= .build t ps) {z:List V} {qs:List (Nat×Nat×AOpd)}
  (hc: (match Ko P t with|some fs=>Rv P fs qs ps.toList&&fs.all (fun f=> (P.info? f.type).isSome) |none=>false)=true) (hz:Nc P t (.agg z)=true) {cs:List V} (hf:Qw G env z qs=some cs):OpSim P o a w pl Bd H (Ni cs) H:=by
 split at hc
 ·rename_i fs hfs
  simp only[Bool.and_eq_true] at hc
  obtain⟨hp,hall⟩:=hc
  obtain⟨iz,u,hi,hu,hcst,_⟩:=M5 hz
  have hzr:=Ra (w:=w) (O:=Bj pl H) (pl:=pl) (n:=Bc H) hcst
  obtain⟨us,rfl,hzc⟩:=Bqs hzr rfl
  have hall': ∀f∈fs,(P.info? f.type).isSome=true:=Array.all_eq_true_iff_forall_mem.1 hall
  let sz:Nat→Nat:=fun i=> ((fs[i]?).bind fun f=> (P.info? f.type).map (·.size)).getD 0
  have hsz: ∀ (i:Nat) f,fs[i]? =some f→Lx P f.type (sz i)=true:=by
   intro i f hfi
   obtain⟨inf,hinf⟩:=Option.isSome_iff_exists.1 (hall' f (Array.mem_of_getElem? hfi))
   simp[Lx,hinf,sz,hfi]
  obtain⟨us',hr1,hr2⟩:=Bgv hG hE rfl qs ps.toList z us cs hp hf hzc hsz
  let sz':Field→Nat:=fun f=> ((P.info? f.type).map (·.size)).getD 0
  have hm: (fs.mapM fun f=>do pure (f.offset,←sizeOf f.type):Sem (Array (Nat×Nat))).run P w= .ok (fs.map fun f=> (f.offset,sz' f)) w:=by
   rw[Array.mapM_eq_mapM_toList]
   have hl: ∀ (l:List Field),(∀f∈l,(P.info? f.type).isSome=true)→(l.mapM fun f=>do pure (f.offset,←sizeOf f.type):Sem (List (Nat×Nat))).run P w= .ok (l.map fun f=> (f.offset,sz' f)) w:=by
    intro l
    induction l with
    |nil=>intro _;rfl
    |cons f l ih=>
     intro h
     obtain⟨inf,hinf⟩:=Option.isSome_iff_exists.1 (h f (by simp))
     have:=ih (fun g hg=>h g (by simp[hg]))
     simp only[List.mapM_cons,Sem.run_bind,sizeOf,typeInfo,run_program,hinf,Result.andThen_ok,Sem.run_pure] at this⊢
     rw[this]
     simp[sz',hinf]
   have:=hl fs.toList (fun f hf=>hall' f (by simpa using hf))
   have h5: (fs.toList.map fun f=> (f.offset,sz' f)).toArray=fs.map fun f=> (f.offset,sz' f):=by apply Array.ext';simp
   rw[←h5,Sem.run_map,this,Result.andThen_ok]
  have hplace: (fun i=> (fs.map fun f=> (f.offset,sz' f))[i]?)=fun i=> (fs[i]?).map fun f=> (f.offset,sz i):=by
   funext i
   rw[Array.getElem?_map]
   cases hfi:fs[i]? with
   |none=>rfl
   |some f=>simp[sz,sz',hfi]
  have hruns: (Instr.build t (ps.map fun (i,x)=> (i,a.eval x))).run P w= .ok (.agg us') w:=by
   have hcells: (Value.agg us).cells=us:=rfl
   simp only[Instr.build,Sem.run_bind,zeroValue,typeInfo,run_program,hi,Result.andThen_ok,Sem.run_pure,hu,run_underlying (Ql hfs),hm,hcells]
   have h4: (ps.map fun (i,x)=> (i,a.eval x)).toList=ps.toList.map fun (i,x)=> (i,a.eval x):=by simp
   rw[h4,hplace,hr1]
   rfl
  exact .pure hH (u:= .agg us') (by simp only[execOp,ho];rw[Sem.run_bind,hruns];rfl) hr2.mkAgg
 ·simp at hc
end
structure Lies (w:World) (O:Jn) (pl:Pl) (n e:Nat) (ys:List V) (A:Option Addr) (news:List Value):Prop where
 len:news.length=ys.length*e
 cell:ys.length=0∨∃b off,A=some ⟨b,off,none⟩∧∀j u,news[j]? =some u→w.cell? ⟨b,off+j,none⟩=some u
 el: ∀i,i<ys.length→(ys.getD i .any).cells.length=e
 rel: ∀i j,i<ys.length→j<e→RV w O pl n ((ys.getD i .any).cells.getD j .any) (news.getD (i*e+j) undef)
 one: ∀i j,i<ys.length→j<e→(news.getD (i*e+j) undef).oneCell'=true
theorem Ms {i j e:Nat} (hj:j<e): (i*e+j) / e=i∧(i*e+j) % e=j:=by
 have he:0<e:=by omega
 rw[Nat.mul_comm]
 constructor
 ·rw[Nat.mul_add_div he,Nat.div_eq_of_lt hj,Nat.add_zero]
 ·rw[Nat.mul_add_mod,Nat.mod_eq_of_lt hj]
theorem Yi {k n e:Nat} (h:k<n*e):k / e<n∧k % e<e∧k / e*e+k % e=k:=by
 have he:0<e:=by
  rcases Nat.eq_zero_or_pos e with h0|h0
  ·subst h0;simp at h
  ·exact h0
 refine⟨(Nat.div_lt_iff_lt_mul he).2 h,Nat.mod_lt _ he, ?_⟩
 rw[Nat.mul_comm];exact Nat.div_add_mod k e
section
variable {P:Program} {cl:Fe} {G:Gx} {w:World} {pl:Pl} {Bd:Nat→Prop} {H:Hp} {env:Env} {a:Act}
theorem Dg (ds:List D) (i:Nat) (hi:i<ds.length): (ds.map V.d).getD i .any= .d (ds.getD i .nilp):=by
 simp[List.getD_eq_getElem?_getD,hi]
theorem Li (x:D): (V.d x).cells=x.cells.map .d:=by
 cases x<;>rfl
theorem Bct (hH:HR w pl Bd H) {v:V} {e:Nat} {ys:List V} {Uo:Bool} (h:Ry H v=some (e,ys,Uo)) {u:Value} (hu:RV w (Bj pl H) pl (Bc H) v u):
  ∃A cap news,u= .slice A ys.length cap∧ys.length≤cap∧Lies w (Bj pl H) pl (Bc H) e ys A news∧(Uo=true→∃ds:List D,ys=ds.map .d):=by
 unfold Ry at h
 split at h
 ·rename_i e' xs
  simp only[Option.some.injEq,Prod.mk.injEq] at h
  obtain⟨rfl,rfl,rfl⟩:=h
  have hu:=hu.dd
  cases hu with
  |vals0 _ A cap=>exact⟨A,cap,[],by simp,by simp,⟨by simp, .inl (by simp),fun i hi=>by simp at hi,fun i j hi=>by simp at hi,fun i j hi=>by simp at hi⟩,fun _=> ⟨[],rfl⟩⟩
  |vals _ _ b off cap F hcap hO hb he hc h1 hr=>
   have hl: (xs.map V.d).length=xs.length:=by simp
   refine⟨_,cap,(List.range (xs.length*e')).map fun k=>F (k / e') (k % e'),by rw[hl],by rw[hl];exact hcap,⟨by simp, .inr ⟨b,off,rfl,fun j u hj=> ?_⟩,fun i hi=> ?_,fun i j hi hj=> ?_,fun i j hi hj=> ?_⟩,fun _=> ⟨xs,rfl⟩⟩
   ·have hjl:j<xs.length*e':=by
     have:=(List.getElem?_eq_some_iff.1 hj).1
     simpa using this
    obtain⟨d1,d2,d3⟩:=Yi hjl
    simp[List.getElem?_map,List.getElem?_range hjl] at hj
    subst hj
    have:=hc (j / e') (j % e') d1 d2
    rwa[Nat.add_assoc,d3] at this
   ·rw[hl] at hi
    rw[Dg xs i hi,Li]
    simpa using he i hi
   ·rw[hl] at hi
    have hk:=Du hi hj
    have hcl:=he i hi
    rw[Dg xs i hi,Li,Dg _ j (by omega)]
    have h3: ((List.range (xs.length*e')).map fun k=>F (k / e') (k % e')).getD (i*e'+j) undef=F i j:=by
     simp[List.getD_eq_getElem?_getD,List.getElem?_range hk,(Ms hj).1,(Ms hj).2]
    rw[h3]
    exact .d _ _ (hr i j hi hj)
   ·rw[hl] at hi
    have hk:=Du hi hj
    have h3: ((List.range (xs.length*e')).map fun k=>F (k / e') (k % e')).getD (i*e'+j) undef=F i j:=by
     simp[List.getD_eq_getElem?_getD,List.getElem?_range hk,(Ms hj).1,(Ms hj).2]
    rw[h3]
    exact h1 i j hi hj
 ·simp only[Option.some.injEq,Prod.mk.injEq] at h
  obtain⟨rfl,rfl,rfl⟩:=h
  cases hu with
  |nils _ A=>exact⟨A,0,[],by simp,by simp,⟨by simp, .inl (by simp),fun i hi=>by simp at hi,fun i j hi=>by simp at hi,fun i j hi=>by simp at hi⟩,fun _=> ⟨[],rfl⟩⟩
 ·rename_i r g i n
  split at h
  ·rename_i e' xs hrow
   split at h
   ·rename_i hle
    simp only[Option.some.injEq,Prod.mk.injEq] at h
    obtain⟨rfl,rfl,rfl⟩:=h
    obtain⟨b,c,arr,ty,fr,hpl,hh,hsa,hf,hxc,he,hr,h1,hbd⟩:=Jf hH hrow
    have hl: ((xs.drop i).take n).length=n:=by simp;omega
    have hgd: ∀k,k<n→((xs.drop i).take n).getD k .any=xs.getD (i+k) .any:=fun k hk=>Kq xs .any i n k hk
    cases hu with
    |slc _ _ _ _ b' e2 c' hlt hp' hk=>
     rw[hpl] at hp'
     simp only[Option.some.injEq,Prod.mk.injEq] at hp'
     obtain⟨rfl,rfl,rfl⟩:=hp'
     have h3: ∀k j,k<n→j<e'→((List.range (n*e')).map fun m=>arr.getD (i*e'+m) undef).getD (k*e'+j) undef=arr.getD ((i+k)*e'+j) undef:=by
      intro k j hk hj
      have:=Du hk hj
      simp[List.getD_eq_getElem?_getD,List.getElem?_range this,Nat.add_mul,Nat.add_assoc]
     refine⟨_,c - i,(List.range (n*e')).map fun m=>arr.getD (i*e'+m) undef,by rw[hl],by rw[hl];omega,⟨by rw[hl];simp, .inr ⟨b,i*e',rfl,fun j u hj=> ?_⟩,fun k hk=> ?_,fun k j hk hj=> ?_,fun k j hk hj=> ?_⟩,fun hd=>by simp at hd⟩
     ·have hjl:j<n*e':=by
       have:=(List.getElem?_eq_some_iff.1 hj).1
       simpa using this
      simp[List.getElem?_map,List.getElem?_range hjl] at hj
      subst hj
      obtain⟨d1,d2,d3⟩:=Yi hjl
      have:=Du (i:=i+j / e') (j:=j % e') (e:=e') (c:=c) (by omega) d2
      rw[Nat.add_mul,Nat.add_assoc,d3] at this
      rw[F5 hh (by omega)]
      simp[Array.getD_eq_getD_getElem?]
     ·rw[hl] at hk;rw[hgd k hk];exact he _ (by omega)
     ·rw[hl] at hk;rw[hgd k hk,h3 k j hk hj];exact hr _ _ (by omega) hj
     ·rw[hl] at hk;rw[h3 k j hk hj];exact h1 _ _ (by omega) hj
    |slc0 _ _ _ A cap hi' hlt=>
     exact⟨A,cap,[],by rw[hl],by rw[hl];omega,⟨by simp, .inl hl,fun k hk=>by simp at hk,fun k j hk=>by simp at hk,fun k j hk=>by simp at hk⟩,fun hd=>by simp at hd⟩
   ·simp at h
  ·simp at h
 ·simp at h
theorem Bpp (hG:GR G w (Bj pl H)) (hH:HR w pl Bd H) (hE:RE w (Bj pl H) pl (Bc H) env a) {o:Oper} {srcT dst:TypeId} {X:Operand} (ho:o.op= .convert srcT dst X) {x:AOpd} (hx:Cc x X=true) (hk: (C9 G env x).ok=true)
  (hd:Fs P dst Pi=true) (hs: (match G6 P srcT with|some e=>Fs P e Bzr|none=>false)=true) {vs:List V} {Uo:Bool} (hsrc:Ry H (C9 G env x)=some (1,vs,Uo)) {s:List UInt8} (hst:Zv vs=some s):OpSim P o a w pl Bd H (.d (.str s)) H:=by
 have hu:=Cu hx hG hE hk
 obtain⟨A,cap,news,hue,hcap,hl,_⟩:=Bct hH hsrc hu
 obtain⟨ns,hvs,hss⟩:=Blm hst
 split at hs
 ·rename_i el hel
  have hds:=Fv hel
  obtain⟨de,hde,hke⟩:=Dq hs
  obtain⟨dd,hdd,hkd⟩:=Dq hd
  have hde':P.underlying el=some (.int .u8):=by
   cases de<;>simp[Bzr] at hke
   rename_i k
   cases k<;>simp at hke
   exact hde
  have hdd':P.underlying dst=some .string:=by cases dd<;>simp[Pi] at hkd;exact hdd
  rcases hl.cell with h0| ⟨b,off,hA,hc⟩
  ·have hns:ns=[]:=by rw[hvs] at h0;simpa using h0
   subst hns
   have hs0:s=[]:=by rw[hss];rfl
   subst hs0
   rw[h0] at hue
   have hrun: (convert srcT dst (.slice A 0 cap)).run P w= .ok (.string ByteArray.empty) w:=by
    cases A with
    |none=>exact run_convert_bytes_nil w srcT el hds hde' 0 cap dst hdd'
    |some ad=>
     rw[run_convert_bytes_string w srcT dst el _ 0 cap hds hde' hdd']
     simp[Conv.bytesToString,loadCells,loadCellsFrom]
   exact .pure hH (u:= .string ByteArray.empty) (by simp only[execOp,ho,hue];rw[Sem.run_bind,hrun];rfl) (.d _ _ (.str _ _ rfl))
  ·subst hA
   have Bc:ns.length=vs.length:=by rw[hvs];simp
   have hrun:=run_convert_bytes_arg (P:=P) w srcT el hds hde' b off vs.length cap ns Bc (fun i hi=>by
    have hr:=hl.rel i 0 hi (by omega)
    have hlc:i<news.length:=by rw[hl.len];omega
    have hci:=hc i _ (List.getElem?_eq_getElem hlc)
    have hin:i<ns.length:=by omega
    have hvi: (vs.getD i .any).cells.getD 0 .any= .d (.int .u8 (ns.getD i 0)):=by
     rw[hvs]
     simp[List.getD_eq_getElem?_getD,hin,V.cells]
    rw[hvi,Nat.mul_one,Nat.add_zero] at hr
    have hni:news.getD i undef=news[i]:=by simp[List.getD_eq_getElem?_getD,hlc]
    rw[hni] at hr
    rw[hci,hr.dd.int_eq]) dst hdd'
   refine .pure hH (u:= .string (strOfNums ns)) (by simp only[execOp,ho,hue];rw[Sem.run_bind,hrun];rfl) (.d _ _ (.str _ _ ?_))
   rw[hss];rfl
 ·simp at hs
theorem Brm (hH:HR w pl Bd H) {w':World} {ob:Go.Obj} (hw:w'.heap=w.heap.push ob) (hs:Same w w') {v:V} {u:Value} (hv:Ext w (Bj pl H) w' (Bj pl H)→RV w' (Bj pl H) pl (Bc H) v u):Fin w pl Bd H v H u w' pl:=by
 have hget': ∀b,b<w.heap.size→w'.heap[b]? =w.heap[b]? :=fun b hb=>by rw[hw,Array.getElem?_push_lt hb,Array.getElem?_eq_getElem hb]
 have E:Ext w (Bj pl H) w' (Bj pl H):=⟨hs.os,hs.tape,hs.output,by rw[hw];simp,fun b hb hO=> ⟨hget' b hb,hO⟩⟩
 have hor: ∀r o m,Cf H r=some o→OR w (Bj pl H) pl m r o→OR w' (Bj pl H) pl m r o:=by
  intro r o m ho h
  cases h with
  |dead=>exact .dead
  |row g e xs b c arr ty fr hp hh hs hf hx he hr h1 hg=>
   exact .row g e xs b c arr ty fr hp ((hget' b (Array.getElem?_eq_some_iff.1 hh).1).trans hh) hs hf hx he (fun i j hi hj=> (hr i j hi hj).mono E (PlExt.refl _ _) (Nat.le_refl _)) h1 hg
  |map ks vs b e c es clock hp hh hk hv hrk hrv=>
   exact .map ks vs b e c es clock hp ((hget' b (Array.getElem?_eq_some_iff.1 hh).1).trans hh) hk hv (fun i hi=> (hrk i hi).mono E (PlExt.refl _ _) (Nat.le_refl _)) (fun i hi=> (hrv i hi).mono E (PlExt.refl _ _) (Nat.le_refl _))
 exact⟨⟨fun r o ho=>hor r o _ ho (hH.obj r o ho),hH.inj,fun m hm r o hlt ho=>hor r o m ho (hH.bd m hm r o hlt ho),hH.le⟩,hv E,E,PlExt.refl _ _,Nat.le_refl _⟩
theorem Bcz (hH:HR w pl Bd H): ¬Bj pl H w.heap.size:=fun h=>by have:=hH.owned_lt h;omega
end
end Go.Ev

/- Lemmas (several texts in one). -/
import Derived.Calls
import Derived.Orders
import Derived.OwnWalk
import Derived.Laws.IdiomCopy
import Derived.ArgAppend
import Derived.Laws.StructEq
import Derived.Laws.Strings
import Derived.Laws.Slices
import Derived.Laws.BytesArg
import Derived.Laws.MakeOwn
set_option linter.unusedSimpArgs false
set_option linter.unusedVariables false
open Option renaming some.injEq → Cdt, getD_some → Cdu
open Prod renaming mk.injEq → Cd2
open Nat renaming le_refl → Cd7, lt_of_lt_of_le → Cea, eq_of_beq_eq_true → Cd6, mul_le_mul_right → Cd8
open List renaming length_cons → Cdc, getD_eq_getElem?_getD → Cda, getElem?_eq_getElem → Cdh, all_eq_true → Cdl, getElem_mem → Cdr, map_cons → Cdd
open Array renaming getElem?_eq_some_iff → Cd4, getElem?_eq_getElem → Cd5, getD_eq_getD_getElem? → Cd3
open Bool renaming and_eq_true → Cdv
namespace Go.Ev
open Go
inductive D where
 |bool (b:Bool)
 |int (k:IntKind) (n:Int)
 |str (s:List UInt8)
 |agg (cs:List D)
 |vals (e:Nat) (xs:List D)
 |nilp
 |rptr (cs:List D)
 |fn (f:Fn) (caps:List D)
 |nilfn
 |iface (t:Nat) (x:D)
 |niface
 |mval (ks vs:List D)
 deriving Inhabited
inductive V where
 |d (x:D)
 |agg (cs:List V)
 |tup (vs:List V)
 |slc (r g i n:Nat)
 |ptr (r g i j:Nat)
 |fn (f:Fn) (caps:List V)
 |mref (r:Nat)
 |nils (e:Nat)
 |und
 |any
 deriving Inhabited
inductive Obj where
 |dead
 |row (g e:Nat) (xs:List V)
 |map (ks vs:List V)
 deriving Inhabited
abbrev Hp:=List Obj
abbrev Env:=List (Nat×V)
def Env.get:Env→Nat→V
 | [],_=> .any
 | (k,v)::r,t=>bif Nat.beq k t then v else Env.get r t
def D.cells:D→List D
 | .agg cs=>cs
 |x=> [x]
def V.cells:V→List V
 | .agg cs=>cs
 | .d (.agg cs)=>cs.map .d
 |v=> [v]
def V.sto:V→Bool
 | .any=>false
 | .und=>false
 | .tup _=>false
 |_=>true
def V.ok:V→Bool
 | .any=>false
 |_=>true
def V.isAgg:V→Bool
 | .agg _=>true
 | .d (.agg _)=>true
 |_=>false
def Gr:List V→Option (List D)
 | []=>some []
 | .d x::r=>
  match Gr r with
  |some xs=>some (x::xs)
  |none=>none
 |_::_=>none
def Mw (cs:List V):V:=
 match Gr cs with
 |some ds=> .d (.agg ds)
 |none=> .agg cs
def Lc (ag:Bool) (cs:List V):Option V:=
 match ag,cs with
 |true,cs=>some (Mw cs)
 |false,[v]=>some v
 |false,_=>none
def Lh (x:V) (cs:List V):Option V:=
 match x.isAgg,cs with
 |true,cs=>some (Mw cs)
 |false,[v]=> (match v.isAgg with|true=>none|false=>some v)
 |false,_=>none
def Cc:Hp→Nat→Option Obj
 | [],_=>none
 |o::_,0=>some o
 |_::h,r+1=>Cc h r
def Bw:Hp→Nat→Obj→Hp
 | [],_,_=> []
 |_::h,0,o=>o::h
 |x::h,r+1,o=>x::Bw h r o
def Bp (H:Hp) (o:Obj):Hp:=H++[o]
def Bc (H:Hp):Nat:=H.length
def Cx (H:Hp) (n:Nat):Hp:=H.take n
def C8 (H:Hp) (r g:Nat):Option (Nat×List V):=
 match Cc H r with
 |some (.row g' e xs)=>bif Nat.beq g' g then some (e,xs) else none
 |_=>none
def Dq (H:Hp) (r g i j n:Nat):Option (List V):=
 match C8 H r g with
 |some (_,xs)=>
  match xs[i]? with
  |some x=>if j+n≤x.cells.length then some ((x.cells.drop j).take n) else none
  |none=>none
 |none=>none
def Lr (H:Hp) (r g i j:Nat) (vs:List V):Option Hp:=
 match C8 H r g with
 |some (e,xs)=>
  match xs[i]? with
  |some x=>
   if j+vs.length≤x.cells.length then
    match Lh x (x.cells.take j++vs++x.cells.drop (j+vs.length)) with
    |some y=>some (Bw H r (.row g e (xs.set i y)))
    |none=>none
   else none
  |none=>none
 |none=>none
def Gp {α β:Type} (f:α→Option β):List α→Option (List β)
 | []=>some []
 |a::r=>
  match f a with
  |some b=>
   match Gp f r with
   |some bs=>some (b::bs)
   |none=>none
  |none=>none
def fz (n:Nat):Nat→Hp→V→Option D
 |0,_,v=>
  match v with
  | .d x=>some x
  |_=>none
 |d+1,H,v=>
  match v with
  | .d x=>some x
  | .nils e=>some (.vals e [])
  | .agg cs=>
   match Gp (fz n d H) cs with
   |some xs=>some (.agg xs)
   |none=>none
  | .slc r g i k=>
   if r<n then none else
   match C8 H r g with
   |some (e,xs)=>
    if i+k≤xs.length then
     match Gp (fz n d H) ((xs.drop i).take k) with
     |some ys=>some (.vals e ys)
     |none=>none
    else none
   |none=>none
  | .ptr r g i j=>
   if r<n then none else
   match C8 H r g with
   |some (_,xs)=>
    match xs[i]? with
    |some x=>
     match Gp (fz n d H) (x.cells.drop j) with
     |some ys=>some (.rptr ys)
     |none=>none
    |none=>none
   |none=>none
  | .fn f caps=>
   match Gp (fz n d H) caps with
   |some xs=>some (.fn f xs)
   |none=>none
  | .mref r=>
   if r<n then none else
   match Cc H r with
   |some (.map ks vs)=>
    match Gp (fz n d H) ks,Gp (fz n d H) vs with
    |some a,some b=>some (.mval a b)
    |_,_=>none
   |_=>none
  |_=>none
def Pb:Nat:=8
def Yz (n:Nat) (H:Hp) (v:V):Option V:=
 match v with
 | .d x=>some (.d x)
 | .slc r g i k=>if r<n then some (.slc r g i k) else(match fz n Pb H v with|some x=>some (.d x) |none=>none)
 | .ptr r g i j=>if r<n then some (.ptr r g i j) else(match fz n Pb H v with|some x=>some (.d x) |none=>none)
 |v=> (match fz n Pb H v with|some x=>some (.d x) |none=>none)
def fzA (n:Nat) (H:Hp) (v:V):Option V:=
 match v with
 | .d x=>some (.d x)
 | .agg cs=>match Gp (Yz n H) cs with
  |some xs=>some (Mw xs)
  |none=>none
 |v=>Yz n H v
def fzV (n:Nat) (H:Hp) (v:V):Option V:=
 match v with
 | .tup vs=>match Gp (fzA n H) vs with
  |some xs=>some (.tup xs)
  |none=>none
 |v=>fzA n H v
def Fz (r:Nat):V→Bool
 | .d _=>true
 | .nils _=>true
 | .slc r' _ _ _=>Nat.blt r' r
 | .ptr r' _ _ _=>Nat.blt r' r
 |_=>false
def J3 (r:Nat):V→Bool
 | .d _=>true
 | .agg cs=>cs.all (Fz r)
 |v=>Fz r v
structure Bn where
 n:Nat
 ts:List Nat
instance:Coe Nat Bn:=⟨fun n=> ⟨n,[]⟩⟩
def Ru (B:Bn) (r:Nat) (v:V):Bool:=J3 r v|| (Nat.ble B.n r&&B.ts.all fun m=>Nat.ble m r||J3 m v)
def S9 (n:Nat):V→Bool
 | .any=>true
 | .und=>true
 | .fn _ caps=>caps.all (Fz n)
 | .mref r=>Nat.blt r n
 |v=>J3 n v
def Wn (n:Nat) (H base:Hp):V→Option (V×Hp×Hp)
 | .d x=>some (.d x,H,base)
 | .nils e=>some (.nils e,H,base)
 | .slc r g i k=>
  if r<n then some (.slc r g i k,H,base) else
  match C8 H r g with
  |some (e,xs)=>
   match i,Gr xs with
   |0,some _=>some (.slc (Bc base) 0 0 k,Bw H r .dead,Bp base (.row 0 e xs))
   |_,_=>none
  |none=>none
 | .ptr r g i j=>
  if r<n then some (.ptr r g i j,H,base) else
  match C8 H r g with
  |some (e,xs)=>
   match Gr xs with
   |some _=>some (.ptr (Bc base) 0 i j,Bw H r .dead,Bp base (.row 0 e xs))
   |none=>none
  |none=>none
 |_=>none
def Bcd (f:Hp→Hp→V→Option (V×Hp×Hp)):Hp→Hp→List V→Option (List V×Hp×Hp)
 |H,base,[]=>some ([],H,base)
 |H,base,v::r=>
  match f H base v with
  |some (x,H,base)=>
   match Bcd f H base r with
   |some (xs,H,base)=>some (x::xs,H,base)
   |none=>none
  |none=>none
def Zu (f:Hp→Hp→V→Option (V×Hp×Hp)) (H base:Hp):V→Option (V×Hp×Hp)
 | .agg cs=> (match Bcd f H base cs with|some (ys,H,base)=>some (Mw ys,H,base) |none=>none)
 |v=>f H base v
def Zv (f:Hp→Hp→V→Option (V×Hp×Hp)):Hp→Hp→List V→Option (List V×Hp×Hp)
 |H,base,[]=>some ([],H,base)
 |H,base,v::r=>
  match Zu f H base v with
  |some (x,H,base)=>
   match Zv f H base r with
   |some (xs,H,base)=>some (x::xs,H,base)
   |none=>none
  |none=>none
def Ux (n:Nat) (f:Hp→Hp→V→Option (V×Hp×Hp)) (H base:Hp) (v:V):Option (V×Hp×Hp):=
 match Wn n H base v with
 |some r=>some r
 |none=>
  match v with
  | .slc r g 0 k=>
   if r<n then none else
   match C8 H r g with
   |some (e,xs)=>
    match Zv f H base xs with
    |some (ys,H1,base1)=>
     match C8 H1 r g with
     |some _=>some (.slc (Bc base1) 0 0 k,Bw H1 r .dead,Bp base1 (.row 0 e ys))
     |none=>none
    |none=>none
   |none=>none
  |_=>none
def B1b (n:Nat) (H base:Hp) (vs:List V):Option (List V×Hp×Hp):=Zv (Ux n (Ux n (Ux n (Wn n)))) H base vs
inductive AOpd where
 |t (n:Nat)
 |c (x:D)
 |f (k:Nat)
 |g (n:Nat)
 |nil (e:Nat)
 |u
 deriving Inhabited
inductive SK where
 |i|s|b
 deriving DecidableEq,Inhabited
inductive BTy where
 |val|bool|iface
 |agg (ks:List SK)
 deriving DecidableEq,Inhabited
inductive AOp where
 |mv (x:AOpd)
 |pick (c a b:AOpd)
 |alloc (z:V)
 |box (x:AOpd)
 |build (z:List V) (parts:List (Nat×Nat×AOpd))
 |lit (own:Bool) (e:Nat) (parts:List AOpd)
 |litf (e:Nat) (parts:List AOpd)
 |load (ag:Bool) (n:Nat) (a:AOpd)
 |store (n:Nat) (a x:AOpd)
 |nilck (x:AOpd)
 |bin (op:BinOp) (ty:BTy) (x y:AOpd)
 |un (op:UnOp) (x:AOpd)
 |cvInt (k:IntKind) (x:AOpd)
 |cvId (x:AOpd)
 |cvStr (x:AOpd)
 |mkfn (f:Fn) (caps:List AOpd)
 |mkmap
 |insert (m k v:AOpd)
 |lookup (z:D) (m k:AOpd) (ok:Bool)
 |mkslice (e bytes:Nat) (z:V) (len cap:AOpd)
 |slice (e:Option Nat) (x:AOpd) (lo hi:Option AOpd)
 |slice3 (e:Nat) (x:AOpd) (lo:Option AOpd) (hi mx:AOpd)
 |slicec (e:Nat) (x:AOpd) (lo:Option AOpd) (hi:AOpd)
 |clear (e:Nat) (z:V) (x:AOpd)
 |faddr (off:Nat) (x:AOpd)
 |field (ag:Bool) (off n:Nat) (x:AOpd)
 |iaddr (e:Nat) (x i:AOpd)
 |idx (x i:AOpd)
 |extract (x:AOpd) (i:Nat)
 |mkiface (t:Nat) (x:AOpd)
 |call (f:AOpd) (args:List (Bool×AOpd)) (fr:Bool)
 |pcall (f:AOpd) (args:List AOpd)
 |len (str:Bool) (x:AOpd)
 |append (e bytes:Nat) (s x:AOpd)
 |mnmx (mx:Bool) (xs:List AOpd)
 deriving Inhabited
structure AOper where
 dst:Option Nat
 guard:Option (Nat×Bool)
 op:AOp
 deriving Inhabited
def mV (d s:Nat):AOper:=⟨some d,none, .mv (.t s)⟩
def oP (d:Nat) (x:AOp):AOper:=⟨some d,none,x⟩
def oG (d g:Nat) (b:Bool) (x:AOp):AOper:=⟨some d,some (g,b),x⟩
def oN (x:AOp):AOper:=⟨none,none,x⟩
def oL (d s:Nat):AOper:=⟨some d,none, .load false 1 (.t s)⟩
def oF (d o s:Nat):AOper:=⟨some d,none, .faddr o (.t s)⟩
inductive ACode where
 |skip
 |reg (draw:Bool) (ops:List AOper)
 |regx (ops:List (Bool×AOper))
 |reg2 (lv:List Nat) (ops:List AOper) (da:Nat) (za:List V) (xa:AOpd) (db:Nat) (zb:List V) (xb:AOpd)
 |seq (a:ACode) (lv:List Nat) (b:ACode)
 |cond (c:AOpd) (a b:ACode)
 |block (id:Nat) (b:ACode)
 |loop (lv:List Nat) (b:ACode)
 |scope (b:ACode)
 |trim (lv:List Nat) (b:ACode)
 |frz (ts:List Nat) (b:ACode)
 |exit (id:Nat)
 |ret
 deriving Inhabited
inductive ARes where
 |tmp (t:Nat)
 |cell (t:Nat) (ag:Bool) (n:Nat)
 deriving Inhabited
structure AFunc where
 np:Nat
 nt:Nat
 res:List ARes
 own:Bool
 body:ACode
 deriving Inhabited
structure St where
 env:Env
 hp:Hp
inductive Out where
 |normal
 |exit (id:Nat)
 |ret
 deriving DecidableEq
abbrev D6:=Nat→List V→Hp→Option (V×Hp)
abbrev Gi:=Nat→Option (List D)
def Cw (G:Gi) (env:Env):AOpd→V
 | .t n=>env.get n
 | .c x=> .d x
 | .f k=> .d (.fn (.func k) [])
 | .g n=>match G n with|some cs=> .d (.rptr cs) |none=> .any
 | .nil e=> .nils e
 | .u=> .und
def U5 (op:BinOp) (k:IntKind) (x y:Int):Option Int:=
 match op with
 | .and=>some (k.wrap ((BitVec.ofInt k.bits x&&&BitVec.ofInt k.bits y).toNat:Int))
 | .or=>some (k.wrap ((BitVec.ofInt k.bits x|||BitVec.ofInt k.bits y).toNat:Int))
 | .xor=>some (k.wrap ((BitVec.ofInt k.bits x ^^^ BitVec.ofInt k.bits y).toNat:Int))
 | .andNot=>some (k.wrap ((BitVec.ofInt k.bits x&&& ~~~(BitVec.ofInt k.bits y)).toNat:Int))
 |_=>none
def Gu (op:BinOp) (k:IntKind) (x y:Int):Option D:=
 match op with
 | .add=>some (.int k (k.wrap (x+y)))
 | .sub=>some (.int k (k.wrap (x - y)))
 | .mul=>some (.int k (k.wrap (x*y)))
 | .quo=>if y=0 then none else some (.int k (k.wrap (x.tdiv y)))
 | .rem=>if y=0 then none else some (.int k (x.tmod y))
 | .eql=>some (.bool (decide (x=y)))
 | .neq=>some (.bool (!decide (x=y)))
 | .lss=>some (.bool (decide (x<y)))
 | .leq=>some (.bool (decide (x≤y)))
 | .gtr=>some (.bool (decide (x>y)))
 | .geq=>some (.bool (decide (x≥y)))
 |op=>
  match U5 op k x y with
  |some n=>some (.int k n)
  |none=>none
def Z7 (op:BinOp) (k:IntKind) (x y:Int):Option D:=
 if y<0 then none else
 match op with
 | .shl=>some (.int k (k.wrap (x*2 ^ (min y.toNat k.bits))))
 | .shr=>some (.int k (x.fdiv (2 ^ (min y.toNat k.bits))))
 |_=>none
def Kl:Nat:=9223372036854775807
def M9 (op:BinOp) (x y:List UInt8):Option D:=
 match op with
 | .add=>if x.length+y.length≤Kl then some (.str (x++y)) else none
 | .eql=>some (.bool (decide (x=y)))
 | .neq=>some (.bool (!decide (x=y)))
 | .lss=>some (.bool (Op.bytesLess x y))
 | .leq=>some (.bool (Op.bytesLess x y||decide (x=y)))
 | .gtr=>some (.bool (!(Op.bytesLess x y||decide (x=y))))
 | .geq=>some (.bool (!Op.bytesLess x y))
 |_=>none
def Bc0:SK→D→D→Option Bool
 | .i, .int k a, .int k' b=>if k=k' then some (decide (a=b)) else none
 | .s, .str a, .str b=>some (decide (a=b))
 | .b, .bool a, .bool b=>some (a==b)
 |_,_,_=>none
def Jj:List SK→List D→List D→Option Bool
 | [],[],[]=>some true
 |k::ks,a::ags,b::bs=>
  match Bc0 k a b,Jj ks ags bs with
  |some x,some y=>some (x&&y)
  |_,_=>none
 |_,_,_=>none
def Bbe (ty:BTy) (x y:D):Option Bool:=
 match ty,x,y with
 | .bool, .bool a, .bool b=>some (a==b)
 | .agg ks, .agg a, .agg b=>Jj ks a b
 | .iface, .niface, .niface=>some true
 | .iface, .niface, .iface _ _=>some false
 | .iface, .iface _ _, .niface=>some false
 |_,_,_=>none
def Bab (op:BinOp) (ty:BTy) (x y:D):Option D:=
 match ty with
 | .val=>
  match op,x,y with
  | .shl, .int k a, .int _ b=>Z7 .shl k a b
  | .shr, .int k a, .int _ b=>Z7 .shr k a b
  |op, .int k a, .int k' b=>if k=k' then Gu op k a b else none
  |op, .str a, .str b=>M9 op a b
  |_,_,_=>none
 |ty=>
  match op with
  | .eql=>match Bbe ty x y with|some b=>some (.bool b) |none=>none
  | .neq=>match Bbe ty x y with|some b=>some (.bool !b) |none=>none
  |_=>none
def unD (op:UnOp) (x:D):Option D:=
 match op,x with
 | .neg, .int k n=>some (.int k (k.wrap (-n)))
 | .not, .bool b=>some (.bool !b)
 |_,_=>none
def R3 (H:Hp):V→Option (Nat×List V×Bool)
 | .d (.vals e xs)=>some (e,xs.map .d,true)
 | .nils e=>some (e,[],true)
 | .slc r g i n=>
  match C8 H r g with
  |some (e,xs)=>if i+n≤xs.length then some (e,(xs.drop i).take n,false) else none
  |none=>none
 |_=>none
def Z8:List V→Option (List UInt8)
 | []=>some []
 | .d (.int .u8 n)::r=>
  match Z8 r with
  |some s=>some (UInt8.ofNat n.toNat::s)
  |none=>none
 |_::_=>none
def Be6 (cs:List V) (off:Nat) (vs:List V):List V:=cs.take off++vs++cs.drop (off+vs.length)
def Qs (G:Gi) (env:Env):List V→List (Nat×Nat×AOpd)→Option (List V)
 |cs,[]=>some cs
 |cs,(off,n,x)::r=>
  if(Cw G env x).sto=true∧(Cw G env x).cells.length=n∧off+n≤cs.length then Qs G env (Be6 cs off (Cw G env x).cells) r else none
def asI:V→Option Int
 | .d (.int _ n)=>some n
 |_=>none
def Bh0:V→Option Nat
 | .d (.vals _ xs)=>some xs.length
 | .slc _ _ _ n=>some n
 |_=>none
def Db (G:Gi) (env:Env) (dflt:Nat) (lim:Nat):Option AOpd→Option Nat
 |none=>some dflt
 |some x=>
  match asI (Cw G env x) with
  |some n=>if 0≤n∧n≤(lim:Int) then some n.toNat else none
  |none=>none
def Bnj:D→D→Option Bool
 | .str a, .str b=>some (decide (a=b))
 |_,_=>none
def Bdf {α:Type} (k:D):List D→List α→Option (Option α)
 | [],_=>some none
 |x::xs,v::vs=>
  match Bnj k x with
  |some true=>some (some v)
  |some false=>Bdf k xs vs
  |none=>none
 |_::_,[]=>none
def Bnk (mx:Bool):V→V→Option V
 | .d (.int k x), .d (.int k' y)=>if k=k' then some (.d (.int k (bif mx then(if y>x then y else x) else(if y<x then y else x)))) else none
 |_,_=>none
def Xv (mx:Bool):V→List V→Option V
 |x,[]=>some x
 |x,y::r=>match Bnk mx x y with|some z=>Xv mx z r|none=>none
open Classical in
noncomputable def Be (cl:D6) (f:Nat) (args:List V):Option V:=
 if h: ∃v,∀H,cl f args H=some (v,H) then some h.choose else none
theorem Bb {cl:D6} {f:Nat} {args:List V} {v:V} (h: ∀H,cl f args H=some (v,H)):Be cl f args=some v:=by
 unfold Be
 have hx: ∃v,∀H,cl f args H=some (v,H):=⟨v,h⟩
 rw[dif_pos hx]
 have h1:=hx.choose_spec []
 rw[h []] at h1
 simp only[Cdt,Cd2,and_true] at h1
 rw[←h1]
open Classical in
noncomputable def F9 (cl:D6) (f:Nat) (args:List V):Option V:=
 if h: ∃x,∀H,∃v H2,cl f args H=some (v,H2)∧fzV (Bc H) H2 v=some x∧Cx H2 (Bc H)=H then some h.choose else none
theorem Jh {cl:D6} {f:Nat} {args:List V} {x:V} (h: ∀H,∃v H2,cl f args H=some (v,H2)∧fzV (Bc H) H2 v=some x∧Cx H2 (Bc H)=H):F9 cl f args=some x:=by
 unfold F9
 have hx: ∃x,∀H,∃v H2,cl f args H=some (v,H2)∧fzV (Bc H) H2 v=some x∧Cx H2 (Bc H)=H:=⟨x,h⟩
 rw[dif_pos hx]
 obtain⟨v,H2,h1,h2,_⟩:=hx.choose_spec []
 obtain⟨v',H2',h1',h2',_⟩:=h []
 rw[h1] at h1'
 simp only[Cdt,Cd2] at h1'
 obtain⟨rfl,rfl⟩:=h1'
 rw[h2] at h2'
 exact h2'
theorem Po {cl:D6} {f:Nat} {args:List V} {x:V} (h:F9 cl f args=some x): ∀H,∃v H2,cl f args H=some (v,H2)∧fzV (Bc H) H2 v=some x∧Cx H2 (Bc H)=H:=by
 unfold F9 at h
 split at h
 ·rename_i hx
  simp only[Cdt] at h
  subst h
  exact hx.choose_spec
 ·simp at h
def Mm:V→Bool
 | .d _=>true
 | .nils _=>true
 |_=>false
def J6:V→Bool
 | .d _=>true
 | .nils _=>true
 | .agg cs=>cs.all Mm
 |_=>false
def Xm:D→Bool
 | .bool _=>true
 | .int _ _=>true
 | .str _=>true
 |_=>false
def Zm:V→Bool
 | .d x=>Xm x
 | .tup vs=>vs.all fun v=>match v with| .d x=>Xm x|_=>false
 |_=>false
def Bjh:V→Option D
 | .d x=>some x
 | .nils e=>some (.vals e [])
 |_=>none
def Bmf:List V→Option (List D)
 | []=>some []
 |v::r=>
  match Bjh v with
  |some x=>
   match Bmf r with
   |some xs=>some (x::xs)
   |none=>none
  |none=>none
def Us:V→V
 | .nils e=> .d (.vals e [])
 | .agg cs=> (match Bmf cs with|some xs=> .d (.agg xs) |none=> .agg cs)
 |v=>v
def Kb (H:Hp):V→Option D
 | .d x=>some x
 | .nils e=>some (.vals e [])
 | .slc r g i k=>
  match C8 H r g with
  |some (e,xs)=>
   if i+k≤xs.length then
    match Gr xs with
    |some ds=>some (.vals e ((ds.drop i).take k))
    |none=>none
   else none
  |none=>none
 | .ptr r g i j=>
  match C8 H r g with
  |some (_,xs)=>
   match Gr xs with
   |some ds=>
    if i<ds.length then some (.rptr ((ds.getD i .nilp).cells.drop j)) else none
   |none=>none
  |none=>none
 |_=>none
def Sb (H:Hp):V→Option D
 | .fn f caps=>match Gp (Kb H) caps with|some xs=>some (.fn f xs) |none=>none
 | .agg cs=>match Gp (Kb H) cs with|some xs=>some (.agg xs) |none=>none
 |v=>match Kb H v with|some x=>some x|none=>fz 0 Pb H v
def Zn (H:Hp) (k:Bool) (v:V):Option (V×Hp):=
 match k,v with
 |true, .slc r g i n=> (match Kb H (.slc r g i n) with|some x=>some (.d x,Bw H r .dead) |none=>none)
 |_,v=>if v.ok=true then some (v,H) else none
def Bft:List Nat→Env→Hp→Option (Env×Hp)
 | [],e,H=>some (e,H)
 |t::ts,e,H=>
  match Zn H true (e.get t) with
  |some (v,H)=>Bft ts ((t,v)::e) H
  |none=>none
def Uo (G:Gi) (env:Env):Hp→List (Bool×AOpd)→Option (List V×Hp)
 |H,[]=>some ([],H)
 |H,(k,x)::r=>
  let v:=Cw G env x
  match (match k,v with
   |true, .slc r g i n=> (match Kb H (.slc r g i n) with|some x=>some (.d x,Bw H r .dead) |none=>none)
   |_,v=>if v.ok=true then some (v,H) else none) with
  |some (v,H)=>
   match Uo G env H r with
   |some (vs,H)=>some (v::vs,H)
   |none=>none
  |none=>none
def Ct:Nat:=140737488355328
noncomputable def Ce (cl:D6) (G:Gi) (n0:Bn) (env:Env) (H:Hp):AOp→Option (V×Hp)
 | .mv x=>if(Cw G env x).ok=true then some (Cw G env x,H) else none
 | .pick c a b=>
  match Cw G env c with
  | .d (.bool t)=>if(bif t then Cw G env a else Cw G env b).ok=true then some ((bif t then Cw G env a else Cw G env b),H) else none
  |_=>none
 | .alloc z=>if z.sto=true then some (.ptr (Bc H) 0 0 0,Bp H (.row 0 z.cells.length [z])) else none
 | .box x=>if(Cw G env x).sto=true then some (.ptr (Bc H) 0 0 0,Bp H (.row 0 (Cw G env x).cells.length [Cw G env x])) else none
 | .build z parts=>
  match Qs G env z parts with
  |some cs=>some (Mw cs,H)
  |none=>none
 | .lit own e parts=>
  let vs:=parts.map (Cw G env)
  if vs.all (fun v=>Nat.beq v.cells.length e&&v.sto)=true then
   match own with
   |true=>some (.slc (Bc H) 0 0 vs.length,Bp H (.row 0 e vs))
   |false=>match Gr (vs.map Us) with|some xs=>some (.d (.vals e xs),H) |none=>none
  else none
 | .litf e parts=>
  match Uo G env H (parts.map fun x=> (true,x)) with
  |some (vs,H1)=>
   if vs.all (fun v=>Nat.beq v.cells.length e&&v.sto)=true then
    match Gr vs with|some xs=>some (.d (.vals e xs),H1) |none=>none
   else none
  |none=>none
 | .load ag n a=>
  match Cw G env a with
  | .ptr r g i j=>
   match Dq H r g i j n with
   |some cs=>match Lc ag cs with|some v=>some (v,H) |none=>none
   |none=>none
  | .d (.rptr cs)=>
   if n≤cs.length then match Lc ag ((cs.take n).map .d) with|some v=>some (v,H) |none=>none else none
  |_=>none
 | .store n a x=>
  match Cw G env a with
  | .ptr r g i j=>
   let vs:=(Cw G env x).cells
   if vs.length=n∧(Cw G env x).sto=true∧Ru n0 r (Cw G env x)=true then
    match Lr H r g i j vs with
    |some H'=>some (.und,H')
    |none=>none
   else none
  |_=>none
 | .nilck x=>
  match Cw G env x with
  | .ptr r g i j=>some (.ptr r g i j,H)
  | .d (.rptr cs)=>some (.d (.rptr cs),H)
  | .fn (.func k) caps=>some (.fn (.func k) caps,H)
  | .d (.fn (.func k) caps)=>some (.d (.fn (.func k) caps),H)
  |_=>none
 | .bin op ty x y=>
  match Cw G env x,Cw G env y with
  | .d a, .d b=>match Bab op ty a b with|some z=>some (.d z,H) |none=>none
  |_,_=>none
 | .un op x=>
  match Cw G env x with
  | .d a=>match unD op a with|some z=>some (.d z,H) |none=>none
  |_=>none
 | .cvInt k x=>
  match Cw G env x with
  | .d (.int _ n)=>some (.d (.int k (k.wrap n)),H)
  |_=>none
 | .cvId x=>
  match Cw G env x with
  | .d (.str s)=>some (.d (.str s),H)
  |_=>none
 | .cvStr x=>
  match R3 H (Cw G env x) with
  |some (e,vs,_)=>match Z8 vs with|some s=>if e=1 then some (.d (.str s),H) else none|none=>none
  |none=>none
 | .mkfn f caps=>
  match Gr (caps.map (Cw G env)) with
  |some xs=>some (.d (.fn f xs),H)
  |none=>if(caps.map (Cw G env)).all V.ok=true then some (.fn f (caps.map (Cw G env)),H) else none
 | .mkmap=>some (.mref (Bc H),Bp H (.map [] []))
 | .insert m k v=>
  match Cw G env m,Cw G env k with
  | .mref r, .d kd=>
   match Cc H r with
   |some (.map ks vs)=>
    match Gr ks with
    |some kds=>
     match Bdf kd kds vs with
     |some none=>if(Cw G env v).ok=true∧Ru n0 r (Cw G env v)=true then some (.und,Bw H r (.map (ks++[.d kd]) (vs++[Cw G env v]))) else none
     |_=>none
    |none=>none
   |_=>none
  |_,_=>none
 | .lookup z m k ok=>
  match Cw G env m,Cw G env k with
  | .d (.mval ks vs), .d kd=>
   match Bdf kd ks vs with
   |some (some v)=>some ((bif ok then .tup [.d v, .d (.bool true)] else .d v),H)
   |some none=>some ((bif ok then .tup [.d z, .d (.bool false)] else .d z),H)
   |none=>none
  |_,_=>none
 | .mkslice e bytes z len cap=>
  match Cw G env len,Cw G env cap with
  | .d (.int .i64 n), .d (.int .i64 c)=>
   if 0≤n∧n=c∧n*bytes≤(Ct:Int)∧z.cells.length=e∧z.sto=true then
    some (.slc (Bc H) 0 0 n.toNat,Bp H (.row 0 e (List.replicate n.toNat z)))
   else none
  |_,_=>none
 | .slice oe x lo hi=>
  match oe,Cw G env x with
  |none, .d (.str s)=>
   match Db G env s.length s.length hi with
   |some h=>match Db G env 0 h lo with
    |some l=>some (.d (.str ((s.take h).drop l)),H)
    |none=>none
   |none=>none
  |some e, .d (.vals e' xs)=>
   match Db G env xs.length xs.length hi with
   |some h=>match Db G env 0 h lo with
    |some l=>if e'=e then some (.d (.vals e ((xs.take h).drop l)),H) else none
    |none=>none
   |none=>none
  |some e, .slc r g i n=>
   match C8 H r g with
   |some (e',_)=>
    match Db G env n n hi with
    |some h=>match Db G env 0 h lo with
     |some l=>if e'=e then some (.slc r g (i+l) (h - l),H) else none
     |none=>none
    |none=>none
   |none=>none
  |_,_=>none
 | .slicec e x lo hi=>
  match Cw G env x with
  | .slc r g i _=>
   match C8 H r g with
   |some (e',xs)=>
    match Db G env xs.length xs.length (some hi) with
    |some h=>match Db G env 0 h lo with
     |some l=>if e'=e∧i=0 then some (.slc r g l (h - l),H) else none
     |none=>none
    |none=>none
   |none=>none
  |_=>none
 | .slice3 _ x lo hi mx=>
  match Bh0 (Cw G env x) with
  |some n=>
   match Db G env n n (some mx) with
   |some m=>
    match Db G env m m (some hi) with
    |some h=>
     match Db G env 0 h lo with
     |some _=>some (.any,H)
     |none=>none
    |none=>none
   |none=>none
  |none=>none
 | .clear e z x=>
  match Cw G env x with
  | .slc r g i n=>
   match C8 H r g with
   |some (e',xs)=>
    if e'=e∧0<n∧i+n≤xs.length∧z.sto=true∧z.cells.length=e∧Ru n0 r z=true then some (.tup [],Bw H r (.row g e (xs.take i++List.replicate n z++xs.drop (i+n)))) else none
   |none=>none
  |_=>none
 | .faddr off x=>
  match Cw G env x with
  | .ptr r g i j=>some (.ptr r g i (j+off),H)
  | .d (.rptr cs)=>if off<cs.length then some (.d (.rptr (cs.drop off)),H) else none
  |_=>none
 | .field ag off n x=>
  if off+n≤(Cw G env x).cells.length∧(Cw G env x).isAgg=true then
   match Lc ag (((Cw G env x).cells.drop off).take n) with
   |some v=>some (v,H)
   |none=>none
  else none
 | .iaddr e x i=>
  match asI (Cw G env i) with
  |some k=>
   match Cw G env x with
   | .d (.vals e' xs)=>if 0≤k∧k< (xs.length:Int)∧e'=e then some (.d (.rptr (xs.getD k.toNat .nilp).cells),H) else none
   | .slc r g j n=>if 0≤k∧k< (n:Int) then(match C8 H r g with|some (e',_)=>if e'=e then some (.ptr r g (j+k.toNat) 0,H) else none|none=>none) else none
   |_=>none
  |none=>none
 | .idx x i=>
  match Cw G env x,asI (Cw G env i) with
  | .d (.str s),some k=>if 0≤k∧k< (s.length:Int) then some (.d (.int .u8 ((s.getD k.toNat 0).toNat:Int)),H) else none
  |_,_=>none
 | .extract x i=>
  match Cw G env x with
  | .tup vs=>match vs[i]? with|some v=>some (v,H) |none=>none
  |_=>none
 | .mkiface t x=>
  match Cw G env x with
  | .d a=>some (.d (.iface t a),H)
  |_=>none
 | .call f args fr=>
  match (match Cw G env f with| .d (.fn (.func k) caps)=>some (k,caps.map V.d) | .fn (.func k) caps=>some (k,caps) |_=>none) with
  |some (k,caps)=>
   match Uo G env H args with
   |some (vs,H1)=>
    match cl k (vs++caps) H1 with
    |some (v,H2)=>
     match fr with
     |false=>some (v,H2)
     |true=>match fzV (Bc H1) H2 v with|some v'=>some (v',Cx H2 (Bc H1)) |none=>none
    |none=>none
   |none=>none
  |none=>none
 | .pcall f args=>
  match (match Cw G env f with| .d (.fn (.func k) caps)=>some (k,caps.map V.d) |_=>none) with
  |some (k,caps)=>
   let vs:=args.map (Cw G env)
   match Gp (Sb H) vs with
   |some ws=>
    match Be cl k (ws.map .d++caps) with
    |some v=>if vs.all J6||Zm v then some (v,H) else none
    |none=>
     match F9 cl k (ws.map .d++caps) with
     |some v=>if vs.all J6 then some (v,H) else none
     |none=>none
   |none=>none
  |none=>none
 | .len str x=>
  match str,Cw G env x with
  |true, .d (.str s)=>some (.d (.int .i64 (s.length:Int)),H)
  |false, .d (.vals _ xs)=>some (.d (.int .i64 (xs.length:Int)),H)
  |false, .nils _=>some (.d (.int .i64 0),H)
  |false, .slc _ _ _ n=>some (.d (.int .i64 (n:Int)),H)
  |_,_=>none
 | .append e bytes s x=>
  match R3 H (Cw G env x) with
  |some (ey,ys,Us)=>
   match Cw G env s with
   | .nils e1=>
    match ys with
    | []=>if e1=e then some (.nils e,H) else none
    |y::ys=>if ey=e∧e1=e∧(y::ys).length*bytes≤Ct then some (.slc (Bc H) 0 0 (y::ys).length,Bp H (.row 0 e (y::ys))) else none
   | .slc r g i n=>
    match i,C8 H r g with
    |0,some (e',xs)=>
     if ey=e∧e'=e∧n≤xs.length∧(Us||ys.all (Ru n0 r))=true then
      if n=xs.length then
       if(n+ys.length)*bytes≤Ct then some (.slc r (g+1) 0 (n+ys.length),Bw H r (.row (g+1) e (xs++ys))) else none
      else if n+ys.length≤xs.length then some (.slc r g 0 (n+ys.length),Bw H r (.row g e (xs.take n++ys++xs.drop (n+ys.length))))
      else if(n+ys.length)*bytes≤Ct then some (.slc r (g+1) 0 (n+ys.length),Bw H r (.row (g+1) e (xs.take n++ys)))
      else none
     else none
    |_,_=>none
   |_=>none
  |none=>none
 | .mnmx mx xs=>
  match xs.map (Cw G env) with
  |v::v2::vs=>match Xv mx v (v2::vs) with|some z=>some (z,H) |none=>none
  |_=>none
def Env.put (env:Env):Option Nat→V→Env
 |some d,v=> (d,v)::env
 |none,_=>env
noncomputable def Fa (cl:D6) (G:Gi) (n0:Bn) (o:AOper) (st:St):Option St:=
 match o.guard with
 |none=> (match Ce cl G n0 st.env st.hp o.op with|some (v,H)=>some ⟨st.env.put o.dst v,H⟩ |none=>none)
 |some (t,want)=>
  match st.env.get t with
  | .d (.bool b)=>
   (bif b==want then(match Ce cl G n0 st.env st.hp o.op with|some (v,H)=>some ⟨st.env.put o.dst v,H⟩ |none=>none)
   else some ⟨st.env.put o.dst .und,st.hp⟩)
  | .und=>some ⟨st.env.put o.dst .und,st.hp⟩
  |_=>none
noncomputable def Lb (cl:D6) (G:Gi) (n0:Bn):List AOper→St→Option St
 | [],st=>some st
 |o::os,st=>
  match Fa cl G n0 o st with
  |some st'=>Lb cl G n0 os st'
  |none=>none
def Bmq (o:AOper) (st st':St):Prop:=
 match o.dst with
 |some d=>st'.hp=st.hp∧st'.env.get d=st.env.get d
 |none=>False
open Classical in
noncomputable def evX (cl:D6) (G:Gi) (n0:Bn):List (Bool×AOper)→St→Option St
 | [],st=>some st
 | (true,o)::r,st=>
  match Fa cl G n0 o st with
  |some st'=>evX cl G n0 r st'
  |none=>none
 | (false,o)::r,st=>
  match Fa cl G n0 o st with
  |some st'=>if Bmq o st st' then evX cl G n0 r st else none
  |none=>none
def Env.keep (env:Env):List Nat→Env
 | []=> []
 |t::r=> (t,env.get t)::Env.keep env r
def G9 (f:St→Option (Out×St)) (lv:List Nat):Nat→St→Option (Out×St)
 |0,_=>none
 |n+1,st=>
  match f ⟨st.env.keep lv,st.hp⟩ with
  |some (.normal,st')=>G9 f lv n st'
  |r=>r
def Yo:V→Option (List D)
 | .d (.agg x)=>some x
 |_=>none
noncomputable def ev2 (cl:D6) (G:Gi) (B:Bn) (lv:List Nat) (ops:List AOper) (da:Nat) (za:List V) (xa:AOpd) (db:Nat) (zb:List V) (xb:AOpd) (st:St):Option St:=
 match Lb cl G ⟨B.n,Bc st.hp::B.ts⟩ ops st with
 |some s=>
  match Yo (Cw G s.env xa),Yo (Cw G s.env xb) with
  |some x,some y=>
   if Bc s.hp=Bc st.hp∧x.length=za.length∧y.length=zb.length∧(lv.all fun t=>S9 (Bc st.hp) (s.env.get t))=true then
    some ⟨((s.env.keep lv).put (some da) (.ptr (Bc s.hp) 0 0 0)).put (some db) (.ptr (Bc s.hp+1) 0 0 0),Bp (Bp s.hp (.row 0 za.length [Cw G s.env xa])) (.row 0 zb.length [Cw G s.env xb])⟩
   else none
  |_,_=>none
 |none=>none
noncomputable def Bq (cl:D6) (G:Gi) (n0:Bn) (lp: (St→Option (Out×St))→List Nat→St→Option (Out×St)):ACode→St→Option (Out×St)
 | .skip,st=>some (.normal,st)
 | .reg _ ops,st=> (match Lb cl G n0 ops st with|some st'=>some (.normal,st') |none=>none)
 | .regx ops,st=> (match evX cl G n0 ops st with|some st'=>some (.normal,st') |none=>none)
 | .reg2 lv ops da za xa db zb xb,st=> (match ev2 cl G n0 lv ops da za xa db zb xb st with|some st'=>some (.normal,st') |none=>none)
 | .seq a lv b,st=>
  match Bq cl G n0 lp a st with
  |some (.normal,st')=>Bq cl G n0 lp b ⟨st'.env.keep lv,st'.hp⟩
  |r=>r
 | .cond c a b,st=>
  match Cw G st.env c with
  | .d (.bool t)=>bif t then Bq cl G n0 lp a st else Bq cl G n0 lp b st
  |_=>none
 | .block id b,st=>
  match Bq cl G n0 lp b st with
  |some (.exit id',st')=>bif Nat.beq id' id then some (.normal,st') else some (.exit id',st')
  |r=>r
 | .loop lv b,st=>lp (Bq cl G n0 lp b) lv st
 | .scope b,st=>Bq cl G n0 lp b st
 | .frz ts b,st=>
  match Bft ts st.env st.hp with
  |some (e,H)=>Bq cl G n0 lp b ⟨e,H⟩
  |none=>none
 | .trim lv b,st=>
  match Bq cl G ⟨n0.n,Bc st.hp::n0.ts⟩ lp b st with
  |some (.normal,st')=>if(lv.all fun t=>S9 (Bc st.hp) (st'.env.get t))=true then some (.normal,⟨st'.env.keep lv,Cx st'.hp (Bc st.hp)⟩) else none
  |r=>r
 | .exit id,st=>some (.exit id,st)
 | .ret,st=>some (.ret,st)
def Qn:Nat→List V→Env
 |_,[]=> []
 |i,v::r=> (i,v)::Qn (i+1) r
def Tk (env:Env) (H:Hp):List ARes→Option (List V)
 | []=>some []
 | .tmp t::r=> (match Tk env H r with|some vs=>some (env.get t::vs) |none=>none)
 | .cell t ag n::r=>
  match env.get t with
  | .ptr p g i j=>
   match Dq H p g i j n with
   |some cs=>
    match Lc ag cs,Tk env H r with
    |some v,some vs=>some (v::vs)
    |_,_=>none
   |none=>none
  |_=>none
def Bc9:List V→V
 | [v]=>v
 |vs=> .tup vs
def Bhz (fn:AFunc) (n:Nat) (st:St):Option (V×Hp):=
 match Tk st.env st.hp fn.res with
 |some vs=>
  match fn.own with
  |true=>
   match B1b n st.hp (Cx st.hp n) vs with
   |some (ws,_,H)=>some (Bc9 ws,H)
   |none=>none
  |false=>
   match Gp (fzV n st.hp) vs with
   |some ws=>some (Bc9 ws,Cx st.hp n)
   |none=>none
 |none=>none
noncomputable def Cr (cl:D6) (G:Gi) (lp: (St→Option (Out×St))→List Nat→St→Option (Out×St)) (fn:AFunc) (args:List V) (H:Hp):Option (V×Hp):=
 if args.length=fn.np then
  match Bq cl G (Bc H) lp fn.body ⟨Qn 0 args,H⟩ with
  |some (.normal,st)=>Bhz fn (Bc H) st
  |some (.ret,st)=>Bhz fn (Bc H) st
  |_=>none
 else none
structure Prg where
 fns:Nat→Option AFunc
 glob:Gi
 prim:Nat→Option (List V→Hp→Option (V×Hp))
abbrev Gz:=Nat→Prop
abbrev Pl:=Nat→Nat→Option (Nat×Nat×Nat)
inductive RD (w:World) (O:Gz):D→Value→Prop where
 |bool (b:Bool):RD w O (.bool b) (.bool b)
 |int (k:IntKind) (n:Int):RD w O (.int k n) (.int k n)
 |str (s:List UInt8) (t:ByteArray) (h:t.data.toList=s):RD w O (.str s) (.string t)
 |agg (cs:List D) (us:Array Value) (hl:us.size=cs.length) (h1: ∀i,i<cs.length→(us.getD i undef).oneCell'=true) (h: ∀i,i<cs.length→RD w O (cs.getD i .nilp) (us.getD i undef)):RD w O (.agg cs) (.agg us)
 |vals0 (e:Nat) (a:Option Addr) (cap:Nat):RD w O (.vals e []) (.slice a 0 cap)
 |vals (e:Nat) (xs:List D) (b o cap:Nat) (F:Nat→Nat→Value) (hcap:xs.length≤cap) (hO: ¬O b) (hb:b<w.heap.size)
   (he: ∀i,i<xs.length→(xs.getD i .nilp).cells.length=e)
   (hc: ∀i j,i<xs.length→j<e→w.cell? ⟨b,o+i*e+j,none⟩=some (F i j)) (h1: ∀i j,i<xs.length→j<e→(F i j).oneCell'=true)
   (hr: ∀i j,i<xs.length→j<e→RD w O ((xs.getD i .nilp).cells.getD j .nilp) (F i j)):RD w O (.vals e xs) (.slice (some ⟨b,o,none⟩) xs.length cap)
 |nilp:RD w O .nilp (.pointer none)
 |rptr (cs:List D) (b o:Nat) (F:Nat→Value) (hO: ¬O b) (hb:b<w.heap.size)
   (hc: ∀j,j<cs.length→w.cell? ⟨b,o+j,none⟩=some (F j)) (h1: ∀j,j<cs.length→(F j).oneCell'=true)
   (hr: ∀j,j<cs.length→RD w O (cs.getD j .nilp) (F j)):RD w O (.rptr cs) (.pointer (some ⟨b,o,none⟩))
 |fn (f:Fn) (caps:List D) (us:Array Value) (hl:us.size=caps.length) (h: ∀i,i<caps.length→RD w O (caps.getD i .nilp) (us.getD i undef)):RD w O (.fn f caps) (.func f #[] us)
 |nilfn:RD w O .nilfn .nilFunc
 |iface (t:Nat) (x:D) (u:Value) (h:RD w O x u):RD w O (.iface t x) (.iface t u)
 |niface:RD w O .niface .nilIface
 |mval0:RD w O (.mval [] []) (.map none)
 |mval (ks vs:List D) (b:Nat) (es:Array MapEntry) (clock:Nat) (hO: ¬O b) (hb:b<w.heap.size) (hm:w.heap[b]? =some (.map es clock))
   (hk:es.size=ks.length) (hv:es.size=vs.length)
   (hrk: ∀i,i<es.size→RD w O (ks.getD i .nilp) (es.getD i default).key)
   (hrv: ∀i,i<es.size→RD w O (vs.getD i .nilp) (es.getD i default).val):RD w O (.mval ks vs) (.map (some b))
inductive RV (w:World) (O:Gz) (pl:Pl) (n:Nat):V→Value→Prop where
 |d (x:D) (u:Value) (h:RD w O x u):RV w O pl n (.d x) u
 |agg (cs:List V) (us:Array Value) (hl:us.size=cs.length) (h1: ∀i,i<cs.length→(us.getD i undef).oneCell'=true) (h: ∀i,i<cs.length→RV w O pl n (cs.getD i .any) (us.getD i undef)):RV w O pl n (.agg cs) (.agg us)
 |tup (cs:List V) (us:Array Value) (hl:us.size=cs.length) (h: ∀i,i<cs.length→RV w O pl n (cs.getD i .any) (us.getD i undef)):RV w O pl n (.tup cs) (.tuple us)
 |slc (r g i k b e c:Nat) (hr:r<n) (hp:pl r g=some (b,e,c)) (hk:i+k≤c):RV w O pl n (.slc r g i k) (.slice (some ⟨b,i*e,none⟩) k (c - i))
 |slc0 (r g i:Nat) (a:Option Addr) (cap:Nat) (hi:0<i) (hr:r<n):RV w O pl n (.slc r g i 0) (.slice a 0 cap)
 |ptr (r g i j b e c:Nat) (hr:r<n) (hp:pl r g=some (b,e,c)):RV w O pl n (.ptr r g i j) (.pointer (some ⟨b,i*e+j,none⟩))
 |fn (f:Fn) (cs:List V) (us:Array Value) (hl:us.size=cs.length) (h: ∀i,i<cs.length→RV w O pl n (cs.getD i .any) (us.getD i undef)):RV w O pl n (.fn f cs) (.func f #[] us)
 |mref (r b e c:Nat) (hr:r<n) (hp:pl r 0=some (b,e,c)):RV w O pl n (.mref r) (.map (some b))
 |nils (e:Nat) (a:Option Addr):RV w O pl n (.nils e) (.slice a 0 0)
 |und:RV w O pl n .und undef
 |any (u:Value):RV w O pl n .any u
structure Ext (w:World) (O:Gz) (w':World) (O':Gz):Prop where
 os:w'.os=w.os
 tape:w'.tape=w.tape
 output:w'.output=w.output
 size:w.heap.size≤w'.heap.size
 keep: ∀b,b<w.heap.size→¬O b→w'.heap[b]? =w.heap[b]? ∧¬O' b
theorem Ext.refl (w:World) (O:Gz):Ext w O w O:=⟨rfl,rfl,rfl,Cd7 _,fun _ _ h=> ⟨rfl,h⟩⟩
theorem Ext.trans {w w1 w2:World} {O O1 O2:Gz} (h:Ext w O w1 O1) (k:Ext w1 O1 w2 O2):Ext w O w2 O2:=
 ⟨k.os.trans h.os,k.tape.trans h.tape,k.output.trans h.output,Nat.le_trans h.size k.size,fun b hb hO=>by
  obtain⟨h1,h2⟩:=h.keep b hb hO
  obtain⟨k1,k2⟩:=k.keep b (Cea hb h.size) h2
  exact⟨k1.trans h1,k2⟩⟩
theorem Xb {w w':World} {b o:Nat} (h:w'.heap[b]? =w.heap[b]?):w'.cell? ⟨b,o,none⟩=w.cell? ⟨b,o,none⟩:=by
 simp only[World.cell?,h]
theorem RD.mono {w w':World} {O O':Gz} (E:Ext w O w' O') {x:D} {u:Value} (h:RD w O x u):RD w' O' x u:=by
 induction h with
 |bool b=>exact .bool b
 |int k n=>exact .int k n
 |str s t h=>exact .str s t h
 |agg cs us hl h1 _ ih=>exact .agg cs us hl h1 ih
 |vals0 e a cap=>exact .vals0 e a cap
 |vals e xs b o cap F hcap hO hb he hc h1c _ ih=>
  obtain⟨h1,h2⟩:=E.keep b hb hO
  exact .vals e xs b o cap F hcap h2 (Cea hb E.size) he (fun i j hi hj=> (Xb h1).trans (hc i j hi hj)) h1c ih
 |nilp=>exact .nilp
 |rptr cs b o F hO hb hc h1c _ ih=>
  obtain⟨h1,h2⟩:=E.keep b hb hO
  exact .rptr cs b o F h2 (Cea hb E.size) (fun j hj=> (Xb h1).trans (hc j hj)) h1c ih
 |fn f caps us hl _ ih=>exact .fn f caps us hl ih
 |nilfn=>exact .nilfn
 |iface t x u _ ih=>exact .iface t x u ih
 |niface=>exact .niface
 |mval0=>exact .mval0
 |mval ks vs b es clock hO hb hm hk hv _ _ ihk ihv=>
  obtain⟨h1,h2⟩:=E.keep b hb hO
  exact .mval ks vs b es clock h2 (Cea hb E.size) (h1.trans hm) hk hv ihk ihv
def PlExt (n:Nat) (pl pl':Pl):Prop:=∀r,r<n→∀g p,pl r g=some p→pl' r g=some p
theorem PlExt.refl (n:Nat) (pl:Pl):PlExt n pl pl:=fun _ _ _ _ h=>h
theorem PlExt.trans {n:Nat} {pl pl1 pl2:Pl} (h:PlExt n pl pl1) (k:PlExt n pl1 pl2):PlExt n pl pl2:=fun r hr g p hp=>k r hr g p (h r hr g p hp)
theorem PlExt.le {m n:Nat} {pl pl':Pl} (h:PlExt n pl pl') (hm:m≤n):PlExt m pl pl':=fun r hr=>h r (Cea hr hm)
theorem RV.mono {w w':World} {O O':Gz} {pl pl':Pl} {n n':Nat} (E:Ext w O w' O') (hp:PlExt n pl pl') (hn:n≤n') {x:V} {u:Value}
  (h:RV w O pl n x u):RV w' O' pl' n' x u:=by
 induction h with
 |d x u h=>exact .d x u (h.mono E)
 |agg cs us hl h1 _ ih=>exact .agg cs us hl h1 ih
 |tup cs us hl _ ih=>exact .tup cs us hl ih
 |slc r g i k b e c hr h hk=>exact .slc r g i k b e c (Cea hr hn) (hp r hr g _ h) hk
 |slc0 r g i a cap hi hr=>exact .slc0 r g i a cap hi (Cea hr hn)
 |ptr r g i j b e c hr h=>exact .ptr r g i j b e c (Cea hr hn) (hp r hr g _ h)
 |fn f cs us hl _ ih=>exact .fn f cs us hl ih
 |mref r b e c hr h=>exact .mref r b e c (Cea hr hn) (hp r hr 0 _ h)
 |nils e a=>exact .nils e a
 |any u=>exact .any u
 |und=>exact .und
def Gq (pl:Pl) (H:Hp) (r:Nat):Option Nat:=
 match Cc H r with
 |some (.row g _ _)=> (pl r g).map (·.1)
 |some (.map _ _)=> (pl r 0).map (·.1)
 |_=>none
def Bl (pl:Pl) (H:Hp):Gz:=fun b=> ∃r,Gq pl H r=some b
def Ms (fr:Nat×Nat) (n:Nat):Prop:=∀o,o<n→¬ (fr.1≤o∧o<fr.2)
inductive OR (w:World) (O:Gz) (pl:Pl) (n:Nat) (r:Nat):Obj→Prop where
 |dead:OR w O pl n r .dead
 |row (g e:Nat) (xs:List V) (b c:Nat) (arr:Array Value) (ty:TypeId) (fr:Nat×Nat) (hp:pl r g=some (b,e,c)) (hh:w.heap[b]? =some (.cells arr ty fr))
   (hs:arr.size=c*e) (hf:Ms fr arr.size) (hx:xs.length≤c) (he: ∀i,i<xs.length→(xs.getD i .any).cells.length=e)
   (hr: ∀i j,i<xs.length→j<e→RV w O pl n ((xs.getD i .any).cells.getD j .any) (arr.getD (i*e+j) undef))
   (h1: ∀i j,i<xs.length→j<e→(arr.getD (i*e+j) undef).oneCell'=true) (hg: ∀g',g<g'→pl r g'=none):OR w O pl n r (.row g e xs)
 |map (ks vs:List V) (b e c:Nat) (es:Array MapEntry) (clock:Nat) (hp:pl r 0=some (b,e,c)) (hh:w.heap[b]? =some (.map es clock))
   (hk:es.size=ks.length) (hv:es.size=vs.length)
   (hrk: ∀i,i<es.size→RV w O pl n (ks.getD i .any) (es.getD i default).key)
   (hrv: ∀i,i<es.size→RV w O pl n (vs.getD i .any) (es.getD i default).val):OR w O pl n r (.map ks vs)
structure HR (w:World) (pl:Pl) (Bd:Nat→Prop) (H:Hp):Prop where
 obj: ∀r o,Cc H r=some o→OR w (Bl pl H) pl (Bc H) r o
 inj: ∀r r' b,Gq pl H r=some b→Gq pl H r'=some b→r=r'
 bd: ∀m,Bd m→∀r o,r<m→Cc H r=some o→OR w (Bl pl H) pl m r o
 le: ∀m,Bd m→m≤Bc H
theorem OR.mono {w w':World} {O O':Gz} {pl pl':Pl} {n n' r:Nat} (E:Ext w O w' O') (hp:PlExt n pl pl') (hn:n≤n') {o:Obj}
  (hpr:pl' r=pl r) (hb: ∀g b e c,pl r g=some (b,e,c)→w'.heap[b]? =w.heap[b]?) (h:OR w O pl n r o):OR w' O' pl' n' r o:=by
 cases h with
 |dead=>exact .dead
 |row g e xs b c arr ty fr hp' hh hs hf hx he hr h1 hg=>
  exact .row g e xs b c arr ty fr (by rw[hpr];exact hp') ((hb g b e c hp').trans hh) hs hf hx he (fun i j hi hj=> (hr i j hi hj).mono E hp hn) h1 (by rw[hpr];exact hg)
 |map ks vs b e c es clock hp' hh hk hv hrk hrv=>
  exact .map ks vs b e c es clock (by rw[hpr];exact hp') ((hb 0 b e c hp').trans hh) hk hv (fun i hi=> (hrk i hi).mono E hp hn) (fun i hi=> (hrv i hi).mono E hp hn)
theorem Qc {pl:Pl} {H:Hp} {r b:Nat} (h:Gq pl H r=some b): ∃o,Cc H r=some o:=by
 unfold Gq at h
 cases hg:Cc H r with
 |none=>rw[hg] at h;simp at h
 |some o=>exact⟨o,rfl⟩
theorem Fu {H:Hp} {r:Nat} {o:Obj} (h:Cc H r=some o):r<Bc H:=by
 induction H generalizing r with
 |nil=>simp[Cc] at h
 |cons a H ih=>
  cases r with
  |zero=>simp[Bc]
  |succ r=>have:=ih (by simpa[Cc] using h);simp[Bc] at*;omega
theorem Bt (H:Hp) (r:Nat) (o:Obj):Bc (Bw H r o)=Bc H:=by
 induction H generalizing r with
 |nil=>rfl
 |cons a H ih=>cases r with
  |zero=>rfl
  |succ r=>have:=ih r;simp only[Bc,Bw,Cdc] at*;omega
theorem Cf (H:Hp) (o:Obj):Bc (Bp H o)=Bc H+1:=by simp[Bc,Bp]
theorem Cn {H:Hp} {r:Nat} (o:Obj) (h:r<Bc H):Cc (Bw H r o) r=some o:=by
 induction H generalizing r with
 |nil=>simp[Bc] at h
 |cons a H ih=>cases r with
  |zero=>rfl
  |succ r=>exact ih (by simp[Bc] at*;omega)
theorem F5 {H:Hp} {r r':Nat} (o:Obj) (h:r'≠r):Cc (Bw H r o) r'=Cc H r':=by
 induction H generalizing r r' with
 |nil=>rfl
 |cons a H ih=>cases r with
  |zero=>cases r' with
   |zero=>exact absurd rfl h
   |succ r'=>rfl
  |succ r=>cases r' with
   |zero=>rfl
   |succ r'=>exact ih (by omega)
theorem Da {H:Hp} {r:Nat} (o:Obj) (h:r<Bc H):Cc (Bp H o) r=Cc H r:=by
 induction H generalizing r with
 |nil=>simp[Bc] at h
 |cons a H ih=>cases r with
  |zero=>rfl
  |succ r=>exact ih (by simp[Bc] at*;omega)
theorem Co (H:Hp) (o:Obj):Cc (Bp H o) (Bc H)=some o:=by
 induction H with
 |nil=>rfl
 |cons a H ih=>exact ih
theorem OR.block {w:World} {pl:Pl} {H:Hp} {r b:Nat} {O:Gz} {n:Nat} {o:Obj} (ho:Cc H r=some o) (h:OR w O pl n r o) (hb:Gq pl H r=some b):b<w.heap.size:=by
 unfold Gq at hb
 rw[ho] at hb
 cases h with
 |dead=>simp at hb
 |row g e xs b' c arr ty fr hp hh=>simp[hp] at hb;subst hb;exact(Cd4.1 hh).1
 |map ks vs b' e c es clock hp hh=>simp[hp] at hb;subst hb;exact(Cd4.1 hh).1
theorem HR.owned_lt {w:World} {pl:Pl} {Bd:Nat→Prop} {H:Hp} (h:HR w pl Bd H) {b:Nat} (hb:Bl pl H b):b<w.heap.size:=by
 obtain⟨r,hr⟩:=hb
 obtain⟨o,ho⟩:=Qc hr
 exact(h.obj r o ho).block ho hr
structure Same (w w':World):Prop where
 os:w'.os=w.os
 tape:w'.tape=w.tape
 output:w'.output=w.output
theorem Same.refl (w:World):Same w w:=⟨rfl,rfl,rfl⟩
theorem Same.trans {w w1 w2:World} (h:Same w w1) (k:Same w1 w2):Same w w2:=⟨k.os.trans h.os,k.tape.trans h.tape,k.output.trans h.output⟩
def Ku (pl:Pl) (r:Nat) (p:Nat×Nat×Nat):Pl:=fun r' g=>if r'=r then(if g=0 then some p else none) else pl r' g
def Nl (pl:Pl) (r g:Nat) (p:Nat×Nat×Nat):Pl:=fun r' g'=>if r'=r then(if g'=g then some p else pl r' g') else pl r' g'
theorem Ld {pl:Pl} {r r':Nat} {p:Nat×Nat×Nat} (h:r'≠r):Ku pl r p r'=pl r':=by
 funext g;simp[Ku,h]
theorem G7 (pl:Pl) (r:Nat) (p:Nat×Nat×Nat):Ku pl r p r 0=some p:=by simp[Ku]
theorem Te {pl:Pl} {r r' g:Nat} {p:Nat×Nat×Nat} (h:r'≠r):Nl pl r g p r'=pl r':=by
 funext g;simp[Nl,h]
theorem Pn (pl:Pl) (r g:Nat) (p:Nat×Nat×Nat):Nl pl r g p r g=some p:=by simp[Nl]
theorem Zi {pl:Pl} {H:Hp} {o:Obj} {p:Nat×Nat×Nat} {r:Nat} (h:r<Bc H):Gq (Ku pl (Bc H) p) (Bp H o) r=Gq pl H r:=by
 unfold Gq
 rw[Da o h,Ld (by omega)]
theorem HR.push {w w':World} {pl:Pl} {Bd:Nat→Prop} {H:Hp} (h:HR w pl Bd H) (o:Obj) (ob:Go.Obj) (e c:Nat) (hw:w'.heap=w.heap.push ob) (hs:Same w w')
  (hb:Gq (Ku pl (Bc H) (w.heap.size,e,c)) (Bp H o) (Bc H)=some w.heap.size)
  (ho: ∀O',Ext w (Bl pl H) w' O'→OR w' O' (Ku pl (Bc H) (w.heap.size,e,c)) (Bc H+1) (Bc H) o):
  HR w' (Ku pl (Bc H) (w.heap.size,e,c)) Bd (Bp H o)∧Ext w (Bl pl H) w' (Bl (Ku pl (Bc H) (w.heap.size,e,c)) (Bp H o))∧PlExt (Bc H) pl (Ku pl (Bc H) (w.heap.size,e,c)):=by
 have hget': ∀b,b<w.heap.size→w'.heap[b]? =w.heap[b]? :=fun b hb=>by rw[hw,Array.getElem?_push_lt hb,Cd5 hb]
 have hown: ∀r b,Gq (Ku pl (Bc H) (w.heap.size,e,c)) (Bp H o) r=some b→(r=Bc H∧b=w.heap.size)∨(r<Bc H∧Gq pl H r=some b):=by
  intro r b hr
  rcases Nat.lt_trichotomy r (Bc H) with hlt|heq|hgt
  ·exact .inr ⟨hlt,by rwa[Zi hlt] at hr⟩
  ·subst heq;rw[hb] at hr;exact .inl ⟨rfl,by simpa using hr.symm⟩
  ·obtain⟨o',ho'⟩:=Qc hr
   have:=Fu ho'
   rw[Cf] at this
   omega
 have E:Ext w (Bl pl H) w' (Bl (Ku pl (Bc H) (w.heap.size,e,c)) (Bp H o)):=by
  refine⟨hs.os,hs.tape,hs.output,by rw[hw];simp,fun b hlt hO=> ⟨hget' b hlt, ?_⟩⟩
  rintro⟨r,hr⟩
  rcases hown r b hr with⟨_,hb'⟩ | ⟨_,hb'⟩
  ·omega
  ·exact hO ⟨r,hb'⟩
 have hpl:PlExt (Bc H) pl (Ku pl (Bc H) (w.heap.size,e,c)):=fun r hr g p hp=>by rw[Ld (by omega)];exact hp
 have hold: ∀r o',r<Bc H→Cc H r=some o'→∀m n',PlExt m pl (Ku pl (Bc H) (w.heap.size,e,c))→m≤n'→OR w (Bl pl H) pl m r o'→
   OR w' (Bl (Ku pl (Bc H) (w.heap.size,e,c)) (Bp H o)) (Ku pl (Bc H) (w.heap.size,e,c)) n' r o':=by
  intro r o' hr ho' m n' hm hn hor
  cases hor with
  |dead=>exact .dead
  |row g e xs b c arr ty fr hp' hh hs hf hx he hr' h1 hg=>
   have hbs:=(Cd4.1 hh).1
   exact .row g e xs b c arr ty fr (by rw[Ld (by omega)];exact hp') ((hget' b hbs).trans hh) hs hf hx he (fun i j hi hj=> (hr' i j hi hj).mono E hm hn) h1 (by rw[Ld (by omega)];exact hg)
  |map ks vs b e c es clock hp' hh hk hv hrk hrv=>
   have hbs:=(Cd4.1 hh).1
   exact .map ks vs b e c es clock (by rw[Ld (by omega)];exact hp') ((hget' b hbs).trans hh) hk hv (fun i hi=> (hrk i hi).mono E hm hn) (fun i hi=> (hrv i hi).mono E hm hn)
 refine⟨⟨?_, ?_, ?_, ?_⟩,E,hpl⟩
 ·intro r o' hr
  have hlt:=Fu hr
  rw[Cf] at hlt⊢
  rcases Nat.lt_or_eq_of_le (Nat.lt_succ_iff.1 hlt) with hlt'|heq
  ·rw[Da o hlt'] at hr
   exact hold r o' hlt' hr _ _ hpl (by omega) (h.obj r o' hr)
  ·subst heq
   rw[Co] at hr
   obtain rfl:=Option.some.inj hr
   exact ho _ E
 ·intro r r' b hr hr'
  rcases hown r b hr with⟨h1,h2⟩ | ⟨h1,h2⟩<;>rcases hown r' b hr' with⟨k1,k2⟩ | ⟨k1,k2⟩
  ·omega
  ·have:=h.owned_lt ⟨r',k2⟩;omega
  ·have:=h.owned_lt ⟨r,h2⟩;omega
  ·exact h.inj r r' b h2 k2
 ·intro m hm r o' hr ho'
  have hmle:=h.le m hm
  have hlt:r<Bc H:=by omega
  rw[Da o hlt] at ho'
  exact hold r o' hlt ho' _ _ (hpl.le hmle) (Cd7 _) (h.bd m hm r o' hr ho')
 ·intro m hm
  have:=h.le m hm
  rw[Cf];omega
theorem HR.setRow {w w':World} {pl:Pl} {Bd:Nat→Prop} {H:Hp} (h:HR w pl Bd H) {r g g' e:Nat} {xs xs':List V} {b c b' c':Nat} {arr':Array Value} {ty:TypeId} {fr:Nat×Nat}
  (hr:Cc H r=some (.row g e xs)) (hp:pl r g=some (b,e,c)) (hg:g≤g') (hgg:g'=g→(b',c')=(b,c))
  (hs:Same w w') (hsz:w.heap.size≤w'.heap.size) (hoth: ∀b'',b''<w.heap.size→b''≠b→w'.heap[b'']? =w.heap[b'']?)
  (hb':b'=b∨w.heap.size≤b') (hh:w'.heap[b']? =some (.cells arr' ty fr)) (hsa:arr'.size=c'*e) (hf:Ms fr arr'.size) (hx:xs'.length≤c')
  (he: ∀i,i<xs'.length→(xs'.getD i .any).cells.length=e)
  (h1: ∀i j,i<xs'.length→j<e→(arr'.getD (i*e+j) undef).oneCell'=true)
  (hrel: ∀m,(m=Bc H∨(Bd m∧r<m))→∀i j,i<xs'.length→j<e→RV w (Bl pl H) pl m ((xs'.getD i .any).cells.getD j .any) (arr'.getD (i*e+j) undef)):
  HR w' (Nl pl r g' (b',e,c')) Bd (Bw H r (.row g' e xs'))∧Ext w (Bl pl H) w' (Bl (Nl pl r g' (b',e,c')) (Bw H r (.row g' e xs')))∧PlExt (Bc H) pl (Nl pl r g' (b',e,c')):=by
 have hrl:=Fu hr
 have hbl:Gq pl H r=some b:=by simp[Gq,hr,hp]
 have hpg: ∀g'',g<g''→pl r g''=none:=by
  have:=h.obj r _ hr
  cases this with
  |row _ _ _ _ _ _ _ _ _ _ _ _ _ _ _ _ hg=>exact hg
 have hbk: ∀r',r'≠r→Gq (Nl pl r g' (b',e,c')) (Bw H r (.row g' e xs')) r'=Gq pl H r':=by
  intro r' hne
  unfold Gq
  rw[F5 _ hne,Te hne]
 have hbr:Gq (Nl pl r g' (b',e,c')) (Bw H r (.row g' e xs')) r=some b':=by
  unfold Gq
  rw[Cn _ hrl]
  simp[Pn]
 have hblt:b<w.heap.size:=h.owned_lt ⟨r,hbl⟩
 have E:Ext w (Bl pl H) w' (Bl (Nl pl r g' (b',e,c')) (Bw H r (.row g' e xs'))):=by
  refine⟨hs.os,hs.tape,hs.output,hsz,fun b'' hlt hO=> ⟨hoth b'' hlt (fun hh=>hO ⟨r,by rw[hh];exact hbl⟩), ?_⟩⟩
  rintro⟨r',hr'⟩
  by_cases hne:r'=r
  ·subst hne
   rw[hbr] at hr'
   have hbb:b'=b'':=by simpa using hr'
   rcases hb' with h1|h1
   ·exact hO ⟨r',by rw[hbl,←h1,hbb]⟩
   ·omega
  ·rw[hbk r' hne] at hr'
   exact hO ⟨r',hr'⟩
 have hpl:PlExt (Bc H) pl (Nl pl r g' (b',e,c')):=by
  intro r' _ g'' p hp'
  by_cases hne:r'=r
  ·subst hne
   by_cases hgg':g''=g'
   ·subst hgg'
    rcases Nat.lt_or_eq_of_le hg with h1|h1
    ·rw[hpg _ h1] at hp';cases hp'
    ·have hbc:=hgg h1.symm
     simp only[Cd2] at hbc
     rw[Pn,←hp',←h1,hp,hbc.1,hbc.2]
   ·simp[Nl,hgg',hp']
  ·rw[Te hne];exact hp'
 have hnew: ∀m,(m=Bc H∨(Bd m∧r<m))→m≤Bc H→OR w' (Bl (Nl pl r g' (b',e,c')) (Bw H r (.row g' e xs'))) (Nl pl r g' (b',e,c')) m r (.row g' e xs'):=by
  intro m hm hle
  refine .row g' e xs' b' c' arr' ty fr (Pn ..) hh hsa hf hx he (fun i j hi hj=> (hrel m hm i j hi hj).mono E (hpl.le hle) (Cd7 _)) h1 ?_
  intro g'' hg''
  show(if r=r then(if g''=g' then some (b',e,c') else pl r g'') else pl r g'')=none
  rw[if_pos rfl,if_neg (by omega)]
  exact hpg g'' (by omega)
 have hold: ∀r' o' m,r'≠r→Cc H r'=some o'→m≤Bc H→OR w (Bl pl H) pl m r' o'→
   OR w' (Bl (Nl pl r g' (b',e,c')) (Bw H r (.row g' e xs'))) (Nl pl r g' (b',e,c')) m r' o':=by
  intro r' o' m hne ho' hle hor
  cases hor with
  |dead=>exact .dead
  |row g1 e1 xs1 b1 c1 arr1 ty1 fr1 hp1 hh1 hs1 hf1 hx1 he1 hr1 h11 hg1=>
   have hbs:=(Cd4.1 hh1).1
   have hb1:Gq pl H r'=some b1:=by simp[Gq,ho',hp1]
   have hne1:b1≠b:=fun hh=>hne (h.inj r' r b1 hb1 (by rw[hh];exact hbl))
   exact .row g1 e1 xs1 b1 c1 arr1 ty1 fr1 (by rw[Te hne];exact hp1) ((hoth b1 hbs hne1).trans hh1) hs1 hf1 hx1 he1 (fun i j hi hj=> (hr1 i j hi hj).mono E (hpl.le hle) (Cd7 _)) h11 (by rw[Te hne];exact hg1)
  |map ks vs b1 e1 c1 es clock hp1 hh1 hk hv hrk hrv=>
   have hbs:=(Cd4.1 hh1).1
   have hb1:Gq pl H r'=some b1:=by simp[Gq,ho',hp1]
   have hne1:b1≠b:=fun hh=>hne (h.inj r' r b1 hb1 (by rw[hh];exact hbl))
   exact .map ks vs b1 e1 c1 es clock (by rw[Te hne];exact hp1) ((hoth b1 hbs hne1).trans hh1) hk hv (fun i hi=> (hrk i hi).mono E (hpl.le hle) (Cd7 _)) (fun i hi=> (hrv i hi).mono E (hpl.le hle) (Cd7 _))
 refine⟨⟨?_, ?_, ?_, ?_⟩,E,hpl⟩
 ·intro r' o' ho'
  rw[Bt]
  by_cases hne:r'=r
  ·subst hne
   rw[Cn _ hrl] at ho'
   obtain rfl:=Option.some.inj ho'
   exact hnew _ (.inl rfl) (Cd7 _)
  ·rw[F5 _ hne] at ho'
   exact hold r' o' _ hne ho' (Cd7 _) (h.obj r' o' ho')
 ·intro r1 r2 b1 h1 h2
  by_cases n1:r1=r<;>by_cases n2:r2=r
  ·rw[n1,n2]
  ·subst n1
   rw[hbr] at h1
   rw[hbk r2 n2] at h2
   have hbb:b'=b1:=by simpa using h1
   rcases hb' with h3|h3
   ·have hx2:Gq pl H r2=some b:=by rw[h2,←hbb,h3]
    exact absurd (h.inj r2 r1 b hx2 hbl) n2
   ·have:=h.owned_lt ⟨r2,h2⟩;omega
  ·subst n2
   rw[hbr] at h2
   rw[hbk r1 n1] at h1
   have hbb:b'=b1:=by simpa using h2
   rcases hb' with h3|h3
   ·have hx1:Gq pl H r1=some b:=by rw[h1,←hbb,h3]
    exact h.inj r1 r2 b hx1 hbl
   ·have:=h.owned_lt ⟨r1,h1⟩;omega
  ·rw[hbk r1 n1] at h1
   rw[hbk r2 n2] at h2
   exact h.inj r1 r2 b1 h1 h2
 ·intro m hm r' o' hlt ho'
  by_cases hne:r'=r
  ·subst hne
   rw[Cn _ hrl] at ho'
   obtain rfl:=Option.some.inj ho'
   exact hnew m (.inr ⟨hm,hlt⟩) (h.le m hm)
  ·rw[F5 _ hne] at ho'
   exact hold r' o' m hne ho' (h.le m hm) (h.bd m hm r' o' hlt ho')
 ·intro m hm
  rw[Bt];exact h.le m hm
theorem HR.kill {w:World} {pl:Pl} {Bd:Nat→Prop} {H:Hp} (h:HR w pl Bd H) (r:Nat):
  HR w pl Bd (Bw H r .dead)∧Ext w (Bl pl H) w (Bl pl (Bw H r .dead)):=by
 have hbk: ∀r' b,Gq pl (Bw H r .dead) r'=some b→r'≠r∧Gq pl H r'=some b:=by
  intro r' b hb
  by_cases hne:r'=r
  ·subst hne
   obtain⟨o,ho⟩:=Qc hb
   have:=Fu ho
   rw[Bt] at this
   unfold Gq at hb
   rw[Cn _ this] at hb
   simp at hb
  ·refine⟨hne, ?_⟩
   unfold Gq at hb⊢
   rwa[F5 _ hne] at hb
 have E:Ext w (Bl pl H) w (Bl pl (Bw H r .dead)):=⟨rfl,rfl,rfl,Cd7 _,fun b _ hO=> ⟨rfl,fun ⟨r',hr'⟩=>hO ⟨r',(hbk r' b hr').2⟩⟩⟩
 have hkeep: ∀r' o' m,Cc (Bw H r .dead) r'=some o'→(∀o'',Cc H r'=some o''→OR w (Bl pl H) pl m r' o'')→OR w (Bl pl (Bw H r .dead)) pl m r' o':=by
  intro r' o' m ho' hor
  by_cases hne:r'=r
  ·subst hne
   have:=Fu ho'
   rw[Bt] at this
   rw[Cn _ this] at ho'
   obtain rfl:=Option.some.inj ho'
   exact .dead
  ·rw[F5 _ hne] at ho'
   exact(hor o' ho').mono E (PlExt.refl _ _) (Cd7 _) rfl (fun _ _ _ _ _=>rfl)
 refine⟨⟨fun r' o' ho'=> ?_,fun r1 r2 b h1 h2=>h.inj r1 r2 b (hbk _ _ h1).2 (hbk _ _ h2).2,fun m hm r' o' hlt ho'=>hkeep r' o' m ho' (fun o'' h''=>h.bd m hm r' o'' hlt h''),fun m hm=> ?_⟩,E⟩
 ·rw[Bt]
  exact hkeep r' o' _ ho' (fun o'' h''=>h.obj r' o'' h'')
 ·rw[Bt];exact h.le m hm
theorem F6 {H:Hp} {n:Nat} (h:n≤Bc H):Bc (Cx H n)=n:=by simp[Bc,Cx] at*;omega
theorem Ro {H:Hp} {n r:Nat} (h:r<n):Cc (Cx H n) r=Cc H r:=by
 induction H generalizing n r with
 |nil=>simp[Cx,Cc]
 |cons a H ih=>
  cases n with
  |zero=>omega
  |succ n=>cases r with
   |zero=>rfl
   |succ r=>exact ih (by omega)
theorem Gs {H:Hp} {n r:Nat} {o:Obj} (h:Cc (Cx H n) r=some o):r<n∧Cc H r=some o:=by
 have hlt:=Fu h
 have:r<n:=by simp[Bc,Cx] at hlt;omega
 exact⟨this,by rwa[Ro this] at h⟩
theorem HR.take {w:World} {pl:Pl} {Bd Bd':Nat→Prop} {H:Hp} (h:HR w pl Bd H) (n:Nat) (hn:Bd n) (hB: ∀m,Bd' m→Bd m∧m≤n):
  HR w pl Bd' (Cx H n)∧Ext w (Bl pl H) w (Bl pl (Cx H n)):=by
 have hle:=h.le n hn
 have hbk: ∀r' b,Gq pl (Cx H n) r'=some b→r'<n∧Gq pl H r'=some b:=by
  intro r' b hb
  obtain⟨o,ho⟩:=Qc hb
  obtain⟨hlt,ho'⟩:=Gs ho
  refine⟨hlt, ?_⟩
  unfold Gq at hb⊢
  rwa[Ro hlt] at hb
 have E:Ext w (Bl pl H) w (Bl pl (Cx H n)):=⟨rfl,rfl,rfl,Cd7 _,fun b _ hO=> ⟨rfl,fun ⟨r',hr'⟩=>hO ⟨r',(hbk r' b hr').2⟩⟩⟩
 refine⟨⟨fun r o ho=> ?_,fun r1 r2 b h1 h2=>h.inj r1 r2 b (hbk _ _ h1).2 (hbk _ _ h2).2,fun m hm r o hlt ho=> ?_,fun m hm=> ?_⟩,E⟩
 ·obtain⟨hlt,ho'⟩:=Gs ho
  rw[F6 hle]
  exact(h.bd n hn r o hlt ho').mono E (PlExt.refl _ _) (Cd7 _) rfl (fun _ _ _ _ _=>rfl)
 ·obtain⟨_,ho'⟩:=Gs ho
  exact(h.bd m (hB m hm).1 r o hlt ho').mono E (PlExt.refl _ _) (Cd7 _) rfl (fun _ _ _ _ _=>rfl)
 ·rw[F6 hle];exact(hB m hm).2
theorem HR.enter {w:World} {pl:Pl} {Bd:Nat→Prop} {H:Hp} (h:HR w pl Bd H):HR w pl (fun m=>Bd m∨m=Bc H) H:=
 ⟨h.obj,h.inj,fun m hm r o hlt ho=>by
  rcases hm with hm|rfl
  ·exact h.bd m hm r o hlt ho
  ·exact h.obj r o ho,fun m hm=>by
  rcases hm with hm|rfl
  ·exact h.le m hm
  ·exact Cd7 _⟩
structure RCs (w:World) (O:Gz) (pl:Pl) (n:Nat) (cs:List V) (us:Array Value):Prop where
 size:us.size=cs.length
 rel: ∀i,i<cs.length→RV w O pl n (cs.getD i .any) (us.getD i undef)
 one: ∀i,i<cs.length→(us.getD i undef).oneCell'=true
theorem RD.one {w:World} {O:Gz} {x:D} {u:Value} (h:RD w O x u) (ha: ∀cs,x≠ .agg cs):u.oneCell'=true:=by
 cases h<;>first|rfl|exact absurd rfl (ha _)
theorem RD.cells {w:World} {O:Gz} {x:D} {u:Value} (h:RD w O x u):
  u.cells.size=x.cells.length∧∀i,i<x.cells.length→RD w O (x.cells.getD i .nilp) (u.cells.getD i undef)∧(u.cells.getD i undef).oneCell'=true:=by
 by_cases ha: ∃cs,x= .agg cs
 ·obtain⟨cs,rfl⟩:=ha
  cases h with
  |agg _ us hl h1 h=>exact⟨hl,fun i hi=> ⟨h i hi,h1 i hi⟩⟩
 ·have hx:x.cells=[x]:=by cases x<;>first|rfl|exact absurd ⟨_,rfl⟩ ha
  have ho:=h.one (fun cs hc=>ha ⟨cs,hc⟩)
  have hu:u.cells= #[u]:=by cases u<;>first|rfl|simp[Value.oneCell'] at ho
  rw[hx,hu]
  refine⟨rfl,fun i hi=> ?_⟩
  obtain rfl:i=0:=by simpa using hi
  exact⟨h,ho⟩
theorem RV.one {w:World} {O:Gz} {pl:Pl} {n:Nat} {v:V} {u:Value} (h:RV w O pl n v u) (hs:v.sto=true) (ha:v.isAgg=false):u.oneCell'=true:=by
 cases h with
 |d x u h=>exact h.one (fun cs hc=>by subst hc;simp[V.isAgg] at ha)
 |agg=>simp[V.isAgg] at ha
 |tup=>simp[V.sto] at hs
 |und=>simp[V.sto] at hs
 |any=>simp[V.sto] at hs
 |_=>rfl
theorem RV.cells {w:World} {O:Gz} {pl:Pl} {n:Nat} {v:V} {u:Value} (h:RV w O pl n v u) (hs:v.sto=true):RCs w O pl n v.cells u.cells:=by
 by_cases ha:v.isAgg=true
 ·cases h with
  |d x u h=>
   cases x<;>first| (simp[V.isAgg] at ha;done) |skip
   rename_i cs
   cases h with
   |agg _ us hl h1 h=>
    refine⟨by simpa[V.cells,Value.cells] using hl,fun i hi=> ?_,fun i hi=> ?_⟩
    ·have hi':i<cs.length:=by simpa[V.cells] using hi
     have:=h i hi'
     simp only[V.cells,Value.cells,Cda,List.getElem?_map,Cdh hi',Option.map_some,Cdu] at this⊢
     exact .d _ _ this
    ·exact h1 i (by simpa[V.cells] using hi)
  |agg cs us hl h1 h=>exact⟨hl,h,h1⟩
  |_=>simp[V.isAgg] at ha
 ·have ha':v.isAgg=false:=by simpa using ha
  have ho:=h.one hs ha'
  have hv:v.cells=[v]:=by
   cases v<;>first|rfl| (simp[V.isAgg] at ha';done) |skip
   rename_i x
   cases x<;>first|rfl| (simp[V.isAgg] at ha';done)
  have hu:u.cells= #[u]:=by cases u<;>first|rfl|simp[Value.oneCell'] at ho
  rw[hv,hu]
  refine⟨rfl,fun i hi=> ?_,fun i hi=> ?_⟩<;> (obtain rfl:i=0:=by simpa using hi)
  ·exact h
  ·exact ho
theorem Kc {cs:List V} {ds:List D} (h:Gr cs=some ds):cs=ds.map .d:=by
 induction cs generalizing ds with
 |nil=>simp[Gr] at h;subst h;rfl
 |cons v r ih=>
  cases v<;>simp[Gr] at h
  split at h
  ·rename_i xs hx
   simp at h;subst h
   rw[ih hx];rfl
  ·simp at h
theorem RCs.mkAgg {w:World} {O:Gz} {pl:Pl} {n:Nat} {cs:List V} {us:Array Value} (h:RCs w O pl n cs us):RV w O pl n (Mw cs) (.agg us):=by
 unfold Ev.Mw
 split
 ·rename_i ds hd
  have:=Kc hd
  subst this
  refine .d _ _ (.agg ds us (by simpa using h.size) (fun i hi=>h.one i (by simpa using hi)) fun i hi=> ?_)
  have:=h.rel i (by simpa using hi)
  simp only[Cda,List.getElem?_map,Cdh hi,Option.map_some,Cdu] at this⊢
  cases this with
  |d _ _ h=>exact h
 ·exact .agg cs us h.size h.one h.rel
theorem RCs.mono {w w':World} {O O':Gz} {pl pl':Pl} {n n':Nat} (E:Ext w O w' O') (hp:PlExt n pl pl') (hn:n≤n') {cs:List V} {us:Array Value} (h:RCs w O pl n cs us):RCs w' O' pl' n' cs us:=
 ⟨h.size,fun i hi=> (h.rel i hi).mono E hp hn,h.one⟩
theorem Ko {α:Type} (cs:List α) (d:α) (a k i:Nat) (hi:i<k): ((cs.drop a).take k).getD i d=cs.getD (a+i) d:=by
 simp only[Cda,List.getElem?_take_of_lt hi,List.getElem?_drop]
theorem Rl {us:Array Value} {a k i:Nat} (hi:i<k) (hk:a+k≤us.size): (us.extract a (a+k)).getD i undef=us.getD (a+i) undef:=by
 simp only[Cd3]
 rw[Array.getElem?_extract]
 rw[if_pos (by omega)]
theorem RCs.part {w:World} {O:Gz} {pl:Pl} {n:Nat} {cs:List V} {us:Array Value} (h:RCs w O pl n cs us) {a k:Nat} (hk:a+k≤cs.length):
  RCs w O pl n ((cs.drop a).take k) (us.extract a (a+k)):=by
 have hs:=h.size
 refine⟨by simp;omega,fun i hi=> ?_,fun i hi=> ?_⟩<;>have hik:i<k:=by(simp at hi;omega)
 ·rw[Ko cs .any a k i hik,Rl hik (by omega)]
  exact h.rel _ (by omega)
 ·rw[Rl hik (by omega)]
  exact h.one _ (by omega)
def Bg8:D→Value→Bool
 | .bool b, .bool c=>b==c
 | .int k n, .int k' n'=>decide (k=k') &&decide (n=n')
 | .str s, .string t=>decide (t.data.toList=s)
 | .vals _ [], .slice none 0 0=>true
 | .nilp, .pointer none=>true
 | .nilfn, .nilFunc=>true
 | .niface, .nilIface=>true
 | .mval [] [], .map none=>true
 |_,_=>false
def Bdx:List D→List Value→Bool
 | [],[]=>true
 |x::xs,u::us=>Bg8 x u&&Bdx xs us
 |_,_=>false
def Bm8:D→Value→Bool
 | .agg cs, .agg us=>Bdx cs us.toList
 |x,u=>Bg8 x u
def Boh:V→Value→Bool
 | .d x,u=>Bg8 x u
 | .nils _, .slice none 0 0=>true
 |_,_=>false
def Zh:List V→List Value→Bool
 | [],[]=>true
 |x::xs,u::us=>Boh x u&&Zh xs us
 |_,_=>false
def Bgw:V→Value→Bool
 | .agg cs, .agg us=>Zh cs us.toList
 | .d x,u=>Bm8 x u
 | .nils _, .slice none 0 0=>true
 |_,_=>false
def Cb:AOpd→Operand→Bool
 | .t n, .tmp m=>Nat.beq n m
 | .c x, .const v=>Bm8 x v
 | .f k, .func j=>Nat.beq k j
 | .g n, .global m=>Nat.beq n m
 | .nil _, .const (.slice none 0 0)=>true
 | .u, .const (.tuple ⟨[]⟩)=>true
 |_,_=>false
def Kr:List AOpd→List Operand→Bool
 | [],[]=>true
 |x::xs,y::ys=>Cb x y&&Kr xs ys
 |_,_=>false
def Kk:Option AOpd→Option Operand→Bool
 |none,none=>true
 |some x,some y=>Cb x y
 |_,_=>false
def Ma (P:Program) (t n:Nat):Bool:=match P.info? t with|some i=>Nat.beq i.size n|none=>false
def R8 (P:Program) (t:Nat) (b:Bool):Bool:=match P.underlying t with|some (.struct _)=>b|some (.array _ _)=>b|some _=> !b|none=>false
def Gx (P:Program) (t:Nat):Option Nat:=match P.underlying t with|some (.slice e)=>some e|_=>none
def K6 (P:Program) (t n:Nat):Bool:=match Gx P t with|some e=>Ma P e n|none=>false
def Nh (P:Program) (t:Nat) (z:V):Bool:=match P.info? t with|some i=> (match i.zero with|some u=>Bgw z u&&Nat.beq i.size z.cells.length|none=>false) |none=>false
def Ml (P:Program) (t n:Nat):Bool:=match P.info? t with|some i=> (match i.zero with|some u=>Nat.beq u.cells.size n&&Nat.beq i.size n|none=>false) |none=>false
def Kn (P:Program) (t:Nat):Option (Array Field):=match P.underlying t with|some (.struct fs)=>some fs|_=>none
def Fs (P:Program) (t:Nat) (p:TypeDesc→Bool):Bool:=match P.underlying t with|some d=>p d|none=>false
def Pi:TypeDesc→Bool| .string=>true|_=>false
def Bkx:TypeDesc→Bool| .bool=>true|_=>false
def B05:TypeDesc→Bool| .int .u8=>true|_=>false
def Rq:TypeDesc→Bool| .interface _=>true|_=>false
def Uv:TypeDesc→Bool| .string=>true|_=>false
def Wh:SK→TypeDesc→Bool| .s, .string=>true| .i, .int _=>true| .b, .bool=>true|_,_=>false
def Bss (k:IntKind):TypeDesc→Bool| .int k'=>decide (k=k') |_=>false
def Rx (P:Program) (fs:Array Field):List (Nat×Nat×AOpd)→List (Nat×Operand)→Bool
 | [],[]=>true
 | (off,n,x)::xs,(i,y)::ys=> (match fs[i]? with|some f=>Nat.beq f.offset off&&Ma P f.type n|none=>false) &&Cb x y&&Rx P fs xs ys
 |_,_=>false
def Nk:Nat→List AOpd→List (Nat×Operand)→Bool
 |_,[],[]=>true
 |k,x::xs,(i,y)::ys=>Nat.beq i k&&Cb x y&&Nk (k+1) xs ys
 |_,_,_=>false
def Qb:List (Bool×AOpd)→List Operand→Bool
 | [],[]=>true
 | (_,x)::xs,y::ys=>Cb x y&&Qb xs ys
 |_,_=>false
def Mj (P:Program):Nat→List Field→List SK→Bool
 |_,[],[]=>true
 |n,f::fs,k::ks=>Nat.beq f.offset n&&Ma P f.type 1&&Fs P f.type (Wh k) &&decide (f.name≠ "_") &&Mj P (n+1) fs ks
 |_,_,_=>false
def Ba5 (P:Program) (ty:BTy) (t:Nat) (y:Operand):Bool:=
 match ty with
 | .val=>true
 | .bool=>Fs P t Bkx
 | .iface=>Fs P t Rq&& (match y with| .const _=>true|_=>false)
 | .agg ks=> (match Kn P t with|some fs=>Mj P 0 fs.toList ks|none=>false) && !P.stoodInHeld t&& !P.eqGuardType P.depth t
def Brx (P:Program):Op→AOp→Bool
 | .move x, .mv a=>Cb a x
 | .assign x, .mv a=>Cb a x
 | .pick c x y, .pick c' x' y'=>Cb c' c&&Cb x' x&&Cb y' y
 | .alloc t, .alloc z=>Nh P t z
 | .box _ x, .box a=>Cb a x
 | .build t ps, .build z qs=>
  (match Kn P t with|some fs=>Rx P fs qs ps.toList&&fs.all (fun f=> (P.info? f.type).isSome) |none=>false) &&Nh P t (.agg z)
 | .buildSlice t n ps, .lit _ e qs=>
  (match Gx P t with|some el=>Ma P el e&&Ml P el e|none=>false) &&Nk 0 qs ps.toList&&Nat.beq n qs.length&&decide (n*e≤16777216) &&decide (0<e)
 | .buildSlice t n ps, .litf e qs=>
  (match Gx P t with|some el=>Ma P el e&&Ml P el e|none=>false) &&Nk 0 qs ps.toList&&Nat.beq n qs.length&&decide (n*e≤16777216) &&decide (0<e)
 | .load t a, .load ag n x=>Cb x a&&R8 P t ag&&Ma P t n
 | .store t a v, .store n x y=>Cb x a&&Cb y v&&Ma P t n
 | .nilCheck x, .nilck a=>Cb a x
 | .binOp op t x y _, .bin op' ty x' y'=>decide (op=op') &&Cb x' x&&Cb y' y&&Ba5 P ty t y
 | .unOp op _ x, .un op' a=>decide (op=op') &&Cb a x
 | .convert R3 dst x, .cvInt k a=>Cb a x&&Fs P dst (Bss k) && (P.underlying R3).isSome
 | .convert R3 dst x, .cvId a=>Cb a x&&Fs P dst Pi&& (P.underlying R3).isSome
 | .convert R3 dst x, .cvStr a=>Cb a x&&Fs P dst Pi&& (match Gx P R3 with|some e=>Fs P e B05|none=>false)
 | .makeFunc fn first caps, .mkfn f cs=>decide (fn=f) &&Nat.beq first.size 0&&Kr cs caps.toList
 | .makeMap t r, .mkmap=> (match r with|none=>true|some (.const (.int _ _))=>Fs P t (fun| .map _ _=>true|_=>false) |_=>false)
 | .insert t m k v, .insert m' k' v'=>Cb m' m&&Cb k' k&&Cb v' v&& (match P.underlying t with|some (.map kt _)=>Fs P kt Uv|_=>false)
 | .mapUpdate t m k v, .insert m' k' v'=>Cb m' m&&Cb k' k&&Cb v' v&& (match P.underlying t with|some (.map kt _)=>Fs P kt Uv|_=>false)
 | .lookup t m k ok, .lookup z m' k' ok'=>decide (ok=ok') &&Cb m' m&&Cb k' k&& (match P.underlying t with|some (.map kt et)=>Fs P kt Uv&&Nh P et (.d z) |_=>false)
 | .makeSlice t l c, .mkslice e b z l' c'=>Cb l' l&&Cb c' c&& (match Gx P t with|some el=>Ma P el e&&Nh P el z&& (match P.info? el with|some i=>Nat.beq i.bytes b|none=>false) &&decide (0<e) &&decide (0<b) |none=>false)
 | .slice t x lo hi none, .slice e x' lo' hi'=>Cb x' x&&Kk lo' lo&&Kk hi' hi&& (match e with|none=>Fs P t Pi|some e=>K6 P t e)
 | .fieldAddr s x f, .faddr off x'=>Cb x' x&& (match Kn P s with|some fs=> (match fs[f]? with|some fd=>Nat.beq fd.offset off&& (match P.info? fd.type with|some i=>Nat.ble 1 i.size|none=>false) |none=>false) |none=>false)
 | .field t x f, .field ag off n x'=>Cb x' x&& (match Kn P t with|some fs=> (match fs[f]? with|some fd=>Nat.beq fd.offset off&&Ma P fd.type n&&R8 P fd.type ag|none=>false) |none=>false)
 | .indexAddr t x i, .iaddr e x' i'=>Cb x' x&&Cb i' i&&K6 P t e
 | .index t x i, .idx x' i'=>Cb x' x&&Cb i' i&&Fs P t Pi
 | .extract x i, .extract x' i'=>Cb x' x&&Nat.beq i i'
 | .makeInterface t x, .mkiface t' x'=>Nat.beq t t'&&Cb x' x&&Fs P t (fun d=> !Rq d)
 | .call { callee:= .value f,args, .. }, .call f' args' _=>Cb f' f&&Qb args' args.toList
 | .call { callee:= .value f,args, .. }, .pcall f' args'=>Cb f' f&&Kr args' args.toList
 | .call { callee:= .builtin .len,args,argTypes }, .len str x=> (match args.toList,argTypes[0]? with| [y],some t=>Cb x y&& (match str with|true=>Fs P t Pi|false=> (Gx P t).isSome) |_,_=>false)
 | .call { callee:= .builtin .append,args,argTypes }, .append e b s x=>
  (match args.toList,argTypes.toList with
   | [s',x'],[t,t']=>Nat.beq t t'&&Cb s s'&&Cb x x'&& (match Gx P t with|some el=>Ml P el e&& (match P.info? el with|some i=>Nat.beq i.bytes b|none=>false) |none=>false) &&decide (0<e) &&decide (0<b)
   |_,_=>false)
 | .call { callee:= .builtin .max,args, .. }, .mnmx true xs=>Kr xs args.toList
 | .call { callee:= .builtin .min,args, .. }, .mnmx false xs=>Kr xs args.toList
 | .slice t x lo hi none, .slicec e x' lo' hi'=>Cb x' x&&Kk lo' lo&&Kk (some hi') hi&&K6 P t e
 | .slice t x lo hi (some mx), .slice3 e x' lo' hi' mx'=>Cb x' x&&Kk lo' lo&&Kk (some hi') hi&&Cb mx' mx&&K6 P t e
 | .call { callee:= .builtin .clear,args,argTypes }, .clear e z x=>
  (match args.toList,argTypes.toList with
   | [x'],[t]=>Cb x x'&& (match Gx P t with|some el=>Nh P el z|none=>false)
   |_,_=>false)
 |_,_=>false
def GR (G:Gi) (w:World) (O:Gz):Prop:=∀n cs,G n=some cs→RD w O (.rptr cs) (.pointer (some ⟨n,0,none⟩))∧∃arr ty fr,w.heap[n]? =some (.cells arr ty fr)∧arr.size=cs.length
theorem GR.mono {G:Gi} {w w':World} {O O':Gz} (E:Ext w O w' O') (h:GR G w O):GR G w' O':=fun n cs hn=>by
 obtain⟨h1,h2⟩:=h n cs hn
 refine⟨h1.mono E, ?_⟩
 cases h1 with
 |rptr _ b o F hO hb hc h1c hr=>
  rw[(E.keep n hb hO).1]
  exact h2
def RE (w:World) (O:Gz) (pl:Pl) (n:Nat) (env:Env) (a:Act):Prop:=∀t,(env.get t).ok=true→RV w O pl n (env.get t) (a.tmps.getD t undef)
theorem RE.mono {w w':World} {O O':Gz} {pl pl':Pl} {n n':Nat} (E:Ext w O w' O') (hp:PlExt n pl pl') (hn:n≤n') {env:Env} {a:Act} (h:RE w O pl n env a):RE w' O' pl' n' env a:=
 fun t ht=> (h t ht).mono E hp hn
theorem Bfi {w:World} {O:Gz} {x:D} {u:Value} (h:Bg8 x u=true):RD w O x u:=by
 unfold Bg8 at h
 split at h<;>simp at h
 ·subst h;exact .bool _
 ·obtain⟨rfl,rfl⟩:=h;exact .int _ _
 ·exact .str _ _ h
 ·exact .vals0 _ _ _
 ·exact .nilp
 ·exact .nilfn
 ·exact .niface
 ·exact .mval0
theorem Bg9 {x:D} {u:Value} (h:Bg8 x u=true):u.oneCell'=true:=by
 unfold Bg8 at h
 split at h<;>first|rfl|simp at h
theorem Bry {xs:List D} {us:List Value} (h:Bdx xs us=true):us.length=xs.length∧∀i,i<xs.length→Bg8 (xs.getD i .nilp) (us.getD i undef)=true:=by
 induction xs generalizing us with
 |nil=>cases us<;>simp[Bdx] at h⊢
 |cons x xs ih=>
  cases us with
  |nil=>simp[Bdx] at h
  |cons u us=>
   simp[Bdx] at h
   obtain⟨h1,h2⟩:=ih h.2
   refine⟨by simp[h1],fun i hi=> ?_⟩
   cases i with
   |zero=>exact h.1
   |succ i=>exact h2 i (by simpa using hi)
theorem Bha {w:World} {O:Gz} {x:D} {u:Value} (h:Bm8 x u=true):RD w O x u:=by
 unfold Bm8 at h
 split at h
 ·rename_i cs us
  obtain⟨h1,h2⟩:=Bry h
  refine .agg cs us (by simpa using h1) (fun i hi=> ?_) (fun i hi=> ?_)
  ·have:=h2 i hi
   simpa[Cd3,Cda] using Bg9 this
  ·have:=Bfi (w:=w) (O:=O) (h2 i hi)
   simpa[Cd3,Cda] using this
 ·exact Bfi h
theorem Bjm {w:World} {O:Gz} {pl:Pl} {n:Nat} {x:V} {u:Value} (h:Boh x u=true):RV w O pl n x u∧u.oneCell'=true:=by
 unfold Boh at h
 split at h
 ·exact⟨.d _ _ (Bfi h),Bg9 h⟩
 ·exact⟨.nils _ _,rfl⟩
 ·simp at h
theorem Bqv {xs:List V} {us:List Value} (h:Zh xs us=true):us.length=xs.length∧∀i,i<xs.length→Boh (xs.getD i .any) (us.getD i undef)=true:=by
 induction xs generalizing us with
 |nil=>cases us<;>simp[Zh] at h⊢
 |cons x xs ih=>
  cases us with
  |nil=>simp[Zh] at h
  |cons u us=>
   simp[Zh] at h
   obtain⟨h1,h2⟩:=ih h.2
   refine⟨by simp[h1],fun i hi=> ?_⟩
   cases i with
   |zero=>exact h.1
   |succ i=>exact h2 i (by simpa using hi)
theorem Q5 {w:World} {O:Gz} {pl:Pl} {n:Nat} {x:V} {u:Value} (h:Bgw x u=true):RV w O pl n x u:=by
 unfold Bgw at h
 split at h
 ·rename_i cs us
  obtain⟨h1,h2⟩:=Bqv h
  refine .agg cs us (by simpa using h1) (fun i hi=> ?_) (fun i hi=> ?_)
  ·have:=(Bjm (w:=w) (O:=O) (pl:=pl) (n:=n) (h2 i hi)).2
   simpa[Cd3,Cda] using this
  ·have:=(Bjm (w:=w) (O:=O) (pl:=pl) (n:=n) (h2 i hi)).1
   simpa[Cd3,Cda] using this
 ·exact .d _ _ (Bha h)
 ·exact .nils _ _
 ·simp at h
section
variable {P:Program} {cl:D6} {G:Gi} {w:World} {pl:Pl} {Bd:Nat→Prop} {H:Hp} {env:Env} {a:Act}
theorem Cu {O:Gz} {n:Nat} {x:AOpd} {X:Operand} (h:Cb x X=true) (hG:GR G w O) (hE:RE w O pl n env a) (hk: (Cw G env x).ok=true):
  RV w O pl n (Cw G env x) (a.eval X):=by
 unfold Cb at h
 split at h
 ·rename_i m m'
  have hm:m=m':=Cd6 h
  subst hm
  exact hE m hk
 ·exact .d _ _ (Bha h)
 ·have:=Cd6 h
  subst this
  exact .d _ _ (.fn _ _ _ rfl (fun i hi=>by simp at hi))
 ·rename_i m m'
  have hm:m=m':=Cd6 h
  subst hm
  cases hg:G m with
  |none=>simp[Cw,hg,V.ok] at hk
  |some cs=>
   have:Cw G env (.g m)= .d (.rptr cs):=by simp[Cw,hg]
   rw[this]
   exact .d _ _ (hG m cs hg).1
 ·exact .nils _ _
 ·exact .und
 ·simp at h
structure Fin (w:World) (pl:Pl) (Bd:Nat→Prop) (H:Hp) (v:V) (H':Hp) (u:Value) (w':World) (pl':Pl):Prop where
 hr:HR w' pl' Bd H'
 rv:RV w' (Bl pl' H') pl' (Bc H') v u
 ext:Ext w (Bl pl H) w' (Bl pl' H')
 ple:PlExt (Bc H) pl pl'
 le:Bc H≤Bc H'
def OpSim (P:Program) (o:Oper) (a:Act) (w:World) (pl:Pl) (Bd:Nat→Prop) (H:Hp) (v:V) (H':Hp):Prop:=
 ∀ (next:Act→World→Prop) (Q:Exit→Act→World→Prop),(∀u w' pl',Fin w pl Bd H v H' u w' pl'→next (a.put o.dst u) w')→o.wp P a w next Q
theorem OpSim.value {o:Oper} {v:V} {H':Hp} {u:Value} {w':World} {pl':Pl} (hrun: (execOp a.eval o).run P w= .ok (.value u) w') (hf:Fin w pl Bd H v H' u w' pl'):OpSim P o a w pl Bd H v H':=by
 intro next Q hn
 unfold Oper.wp
 rw[hrun,Oper.upon_value]
 exact hn u w' pl' hf
theorem OpSim.skip {o:Oper} {H':Hp} {w':World} {pl':Pl} {v:V} (hrun: (execOp a.eval o).run P w= .ok .skip w') (hf:Fin w pl Bd H v H' undef w' pl'):OpSim P o a w pl Bd H v H':=by
 intro next Q hn
 unfold Oper.wp
 rw[hrun,Oper.upon_skip]
 exact hn _ w' pl' hf
theorem OpSim.pure (hH:HR w pl Bd H) {o:Oper} {v:V} {u:Value} (hrun: (execOp a.eval o).run P w= .ok (.value u) w) (hv:RV w (Bl pl H) pl (Bc H) v u):OpSim P o a w pl Bd H v H:=
 .value hrun ⟨hH,hv,Ext.refl _ _,PlExt.refl _ _,Cd7 _⟩
theorem Ze {t n:Nat} (h:Ma P t n=true): ∃i,P.info? t=some i∧i.size=n:=by
 unfold Ma at h
 split at h
 ·rename_i i hi;exact⟨i,hi,Cd6 h⟩
 ·simp at h
theorem Jl {t n:Nat} (h:Ma P t n=true) (w:World): (sizeOf t).run P w= .ok n w:=by
 obtain⟨i,hi,hs⟩:=Ze h
 simp[sizeOf,typeInfo,hi,hs]
theorem Qz {t:Nat} {b:Bool} (h:R8 P t b=true) (w:World): (Go.isAgg t).run P w= .ok b w:=by
 unfold R8 at h
 split at h
 ·rename_i d hd;simp[Go.isAgg,run_underlying hd,h]
 ·rename_i d e hd;simp[Go.isAgg,run_underlying hd,h]
 ·rename_i d h1 h2 hd
  cases d<;>first| (simp[Go.isAgg,run_underlying hd];simpa using h.symm) |exact absurd rfl (h1 _) |exact absurd rfl (h2 _ _)
 ·simp at h
theorem Bub (hG:GR G w (Bl pl H)) (hH:HR w pl Bd H) (hE:RE w (Bl pl H) pl (Bc H) env a) {o:Oper} {X:Operand} (ho:o.op= .move X∨o.op= .assign X) {x:AOpd} (hx:Cb x X=true)
  (hk: (Cw G env x).ok=true):OpSim P o a w pl Bd H (Cw G env x) H:=
 .pure hH (u:=a.eval X) (by rcases ho with ho|ho<;>simp[execOp,ho]) (Cu hx hG hE hk)
theorem Bgr {O:Gz} {n r g i j b e c off:Nat} (hr:r<n) (hp:pl r g=some (b,e,c)) (ho:off=i*e+j):RV w O pl n (.ptr r g i j) (.pointer (some ⟨b,off,none⟩)):=by
 subst ho;exact .ptr r g i j b e c hr hp
theorem Rz {O:Gz} {n r g i k b e c off cap:Nat} (hr:r<n) (hp:pl r g=some (b,e,c)) (hk:i+k≤c) (ho:off=i*e) (hc:cap=c - i):RV w O pl n (.slc r g i k) (.slice (some ⟨b,off,none⟩) k cap):=by
 subst ho;subst hc;exact .slc r g i k b e c hr hp hk
theorem Bk5 {v:V} {b:Bool} (h:v= .d (.bool b)):v.ok=true:=by subst h;rfl
theorem RV.bool_eq {O:Gz} {n:Nat} {b:Bool} {u:Value} (h:RV w O pl n (.d (.bool b)) u):u= .bool b:=by
 cases h with
 |d _ _ h=>cases h;rfl
theorem RV.int_eq {O:Gz} {n:Nat} {k:IntKind} {m:Int} {u:Value} (h:RV w O pl n (.d (.int k m)) u):u= .int k m:=by
 cases h with
 |d _ _ h=>cases h;rfl
theorem RV.str_eq {O:Gz} {n:Nat} {s:List UInt8} {u:Value} (h:RV w O pl n (.d (.str s)) u):u= .string ⟨s.toArray⟩:=by
 cases h with
 |d _ _ h=>cases h;rename_i t ht;cases t;simp at ht;subst ht;simp
theorem Buc (hG:GR G w (Bl pl H)) (hH:HR w pl Bd H) (hE:RE w (Bl pl H) pl (Bc H) env a) {o:Oper} {C X Y:Operand} (ho:o.op= .pick C X Y) {c x y:AOpd} (hc:Cb c C=true) (hx:Cb x X=true) (hy:Cb y Y=true)
  {t:Bool} (ht:Cw G env c= .d (.bool t)) (hk: (bif t then Cw G env x else Cw G env y).ok=true):OpSim P o a w pl Bd H (bif t then Cw G env x else Cw G env y) H:=by
 have hcv:=Cu hc hG hE (Bk5 ht)
 rw[ht] at hcv
 have hce:=hcv.bool_eq
 refine .pure hH (u:=if t then a.eval X else a.eval Y) (by simp[execOp,ho,hce,asBool]) ?_
 cases t
 ·exact Cu hy hG hE hk
 ·exact Cu hx hG hE hk
theorem Xl (hH:HR w pl Bd H) {w':World} {e c:Nat} {xs:List V} {arr:Array Value} {ty:TypeId} {fr:Nat×Nat} (hw:w'.heap=w.heap.push (.cells arr ty fr)) (hs:Same w w') (hsz:arr.size=c*e) (hf:Ms fr arr.size)
  (hx:xs.length≤c) (he: ∀i,i<xs.length→(xs.getD i .any).cells.length=e)
  (hr: ∀i j,i<xs.length→j<e→RV w (Bl pl H) pl (Bc H) ((xs.getD i .any).cells.getD j .any) (arr.getD (i*e+j) undef))
  (h1: ∀i j,i<xs.length→j<e→(arr.getD (i*e+j) undef).oneCell'=true):
  ∃pl',pl' (Bc H) 0=some (w.heap.size,e,c)∧HR w' pl' Bd (Bp H (.row 0 e xs))∧Ext w (Bl pl H) w' (Bl pl' (Bp H (.row 0 e xs)))∧PlExt (Bc H) pl pl':=by
 have hpl:PlExt (Bc H) pl (Ku pl (Bc H) (w.heap.size,e,c)):=fun r hr g p hp=>by rw[Ld (by omega)];exact hp
 obtain⟨h2,h3,h4⟩:=hH.push (w':=w') (.row 0 e xs) (.cells arr ty fr) e c hw hs (by simp[Gq,Co,G7]) (fun O' E=>by
  refine .row 0 e xs w.heap.size c arr ty fr (G7 ..) (by rw[hw];simp) hsz hf hx he (fun i j hi hj=> (hr i j hi hj).mono E hpl (by omega)) h1 (fun g' hg'=> ?_)
  show(if Bc H=Bc H then(if g'=0 then some (w.heap.size,e,c) else none) else pl (Bc H) g')=none
  rw[if_pos rfl,if_neg (by omega)])
 exact⟨_,G7 ..,h2,h3,h4⟩
theorem N7 (n:Nat):Ms (0,0) n:=fun o _ h=>by simp at h
theorem Byh (hG:GR G w (Bl pl H)) (hH:HR w pl Bd H) (hE:RE w (Bl pl H) pl (Bc H) env a) {o:Oper} {t:TypeId} {X:Operand} (ho:o.op= .box t X) {x:AOpd} (hx:Cb x X=true)
  (hk: (Cw G env x).sto=true):OpSim P o a w pl Bd H (.ptr (Bc H) 0 0 0) (Bp H (.row 0 (Cw G env x).cells.length [Cw G env x])):=by
 have hok: (Cw G env x).ok=true:=by revert hk;cases Cw G env x<;>simp[V.sto,V.ok]
 have hv:=Cu hx hG hE hok
 have hc:=hv.cells hk
 obtain⟨pl',h1,h2,h3,h4⟩:=Xl hH (w':= { w with heap:=w.heap.push (.cells (a.eval X).cells t) }) (e:=(Cw G env x).cells.length) (c:=1) (xs:=[Cw G env x]) rfl ⟨rfl,rfl,rfl⟩ (by rw[hc.size];simp) (N7 _) (by simp)
  (fun i hi=>by obtain rfl:i=0:=by simpa using hi
                rfl)
  (fun i j hi hj=>by obtain rfl:i=0:=by simpa using hi
                     simpa using hc.rel j hj)
  (fun i j hi hj=>by obtain rfl:i=0:=by simpa using hi
                     simpa using hc.one j hj)
 refine .value (u:= .pointer (some ⟨w.heap.size,0,none⟩)) (by simp[execOp,ho,Instr.box,newVar,newRow]) ⟨h2, ?_,h3,h4,by rw[Cf];omega⟩
 exact Bgr (by rw[Cf];omega) h1 (by simp)
end
theorem Mr {b:Nat} : ∀ (vs:List Value) (o:Nat) (w:World) {arr:Array Value} {ty:TypeId} {fr:Nat×Nat},w.heap[b]? =some (.cells arr ty fr)→o+vs.length≤arr.size→
  Same w (w.setCells b o vs)∧(w.setCells b o vs).heap.size=w.heap.size∧(∀b',b'≠b→(w.setCells b o vs).heap[b']? =w.heap[b']?)∧
  ∃arr',(w.setCells b o vs).heap[b]? =some (.cells arr' ty fr)∧arr'.size=arr.size∧∀k,arr'.getD k undef=if o≤k∧k<o+vs.length then vs.getD (k - o) undef else arr.getD k undef
 | [],o,w,arr,ty,fr,h,_=> ⟨Same.refl w,rfl,fun _ _=>rfl,arr,h,rfl,fun k=>by rw[if_neg (by simp)]⟩
 |v::r,o,w,arr,ty,fr,h,hl=>by
  have hb:=(Cd4.1 h).1
  have h1: (w.setCell ⟨b,o,none⟩ v).heap[b]? =some (.cells (arr.setIfInBounds o v) ty fr):=by
   simp[World.setCell,Array.getElem?_modify,h]
  obtain⟨s1,s2,s3,arr',s4,s5,s6⟩:=Mr r (o+1) (w.setCell ⟨b,o,none⟩ v) h1 (by simp at hl⊢;omega)
  refine⟨⟨s1.os,s1.tape,s1.output⟩,by rw[World.setCells,s2];simp[World.setCell],fun b' hb'=> ?_,arr',s4,by simpa using s5,fun k=> ?_⟩
  ·rw[World.setCells,s3 b' hb']
   simp[World.setCell,Array.getElem?_modify,Ne.symm hb']
  ·rw[s6 k]
   simp only[Cdc] at hl⊢
   by_cases h1:o+1≤k∧k<o+1+r.length
   ·rw[if_pos h1,if_pos (by omega)]
    obtain⟨m,rfl⟩: ∃m,k=o+1+m:=⟨k - (o+1),by omega⟩
    rw[show o+1+m - o=m+1 by omega,show o+1+m - (o+1)=m by omega]
    rfl
   ·rw[if_neg h1]
    by_cases h2:k=o
    ·subst h2
     rw[if_pos (by omega)]
     simp[show k<arr.size by omega]
    ·rw[if_neg (by omega)]
     simp only[Cd3]
     rw[Array.getElem?_setIfInBounds_ne (Ne.symm h2)]
section
variable {P:Program} {cl:D6} {G:Gi} {w:World} {pl:Pl} {Bd:Nat→Prop} {H:Hp} {env:Env} {a:Act}
theorem Bmd {v:V} (h:v.sto=true):v.ok=true:=by revert h;cases v<;>simp[V.sto,V.ok]
theorem M7 {t:Nat} {z:V} (h:Nh P t z=true): ∃i u,P.info? t=some i∧i.zero=some u∧Bgw z u=true∧i.size=z.cells.length:=by
 unfold Nh at h
 split at h
 ·rename_i i hi
  split at h
  ·rename_i u hu
   simp only[Cdv] at h
   exact⟨i,u,hi,hu,h.1,Cd6 h.2⟩
  ·simp at h
 ·simp at h
theorem Rm {t n:Nat} (h:Ml P t n=true): ∃i u,P.info? t=some i∧i.zero=some u∧u.cells.size=n∧i.size=n:=by
 unfold Ml at h
 split at h
 ·rename_i i hi
  split at h
  ·rename_i u hu
   simp only[Cdv] at h
   exact⟨i,u,hi,hu,Cd6 h.1,Cd6 h.2⟩
  ·simp at h
 ·simp at h
theorem Bxc (hH:HR w pl Bd H) {v:V} {u:Value} (hv:RV w (Bl pl H) pl (Bc H) v u) (hk:v.sto=true) (t:TypeId):
  ∃pl',Fin w pl Bd H (.ptr (Bc H) 0 0 0) (Bp H (.row 0 v.cells.length [v])) (.pointer (some ⟨w.heap.size,0,none⟩)) { w with heap:=w.heap.push (.cells u.cells t) } pl':=by
 have hc:=hv.cells hk
 obtain⟨pl',h1,h2,h3,h4⟩:=Xl hH (w':= { w with heap:=w.heap.push (.cells u.cells t) }) (e:=v.cells.length) (c:=1) (xs:=[v]) rfl ⟨rfl,rfl,rfl⟩ (by rw[hc.size];simp) (N7 _) (by simp)
  (fun i hi=>by obtain rfl:i=0:=by simpa using hi
                rfl)
  (fun i j hi hj=>by obtain rfl:i=0:=by simpa using hi
                     simpa using hc.rel j hj)
  (fun i j hi hj=>by obtain rfl:i=0:=by simpa using hi
                     simpa using hc.one j hj)
 exact⟨pl',h2,Bgr (by rw[Cf];omega) h1 (by simp),h3,h4,by rw[Cf];omega⟩
theorem Bqa (hH:HR w pl Bd H) {o:Oper} {t:TypeId} (ho:o.op= .alloc t) {z:V} (hz:Nh P t z=true) (hk:z.sto=true):
  OpSim P o a w pl Bd H (.ptr (Bc H) 0 0 0) (Bp H (.row 0 z.cells.length [z])):=by
 obtain⟨i,u,hi,hu,hc,_⟩:=M7 hz
 obtain⟨pl',hf⟩:=Bxc hH (Q5 hc) hk t
 exact .value (by simp[execOp,ho,Instr.alloc,zeroValue,typeInfo,hi,hu,newVar,newRow]) hf
theorem Jp {r g:Nat} {e:Nat} {xs:List V} (h:C8 H r g=some (e,xs)):Cc H r=some (.row g e xs):=by
 unfold C8 at h
 split at h
 ·rename_i g' e' xs' hg
  cases hb:Nat.beq g' g
  ·simp[hb] at h
  ·have:=Cd6 hb
   subst this
   simp[hb] at h
   rw[hg,h.1,h.2]
 ·simp at h
theorem Jb (hH:HR w pl Bd H) {r g e:Nat} {xs:List V} (h:C8 H r g=some (e,xs)):
  ∃b c arr ty fr,pl r g=some (b,e,c)∧w.heap[b]? =some (.cells arr ty fr)∧arr.size=c*e∧Ms fr arr.size∧xs.length≤c∧(∀i,i<xs.length→(xs.getD i .any).cells.length=e)∧
   (∀i j,i<xs.length→j<e→RV w (Bl pl H) pl (Bc H) ((xs.getD i .any).cells.getD j .any) (arr.getD (i*e+j) undef))∧
   (∀i j,i<xs.length→j<e→(arr.getD (i*e+j) undef).oneCell'=true)∧
   (∀m,Bd m→r<m→∀i j,i<xs.length→j<e→RV w (Bl pl H) pl m ((xs.getD i .any).cells.getD j .any) (arr.getD (i*e+j) undef)):=by
 have hg:=Jp h
 have hor:=hH.obj r _ hg
 cases hor with
 |row _ _ _ b c arr ty fr hp hh hs hf hx he hr h1 hgg=>
  refine⟨b,c,arr,ty,fr,hp,hh,hs,hf,hx,he,hr,h1,fun m hm hlt=> ?_⟩
  have hor2:=hH.bd m hm r _ hlt hg
  cases hor2 with
  |row _ _ _ b' c' arr' ty' fr' hp' hh' hs' hf' hx' he' hr' h1' hgg'=>
   rw[hp] at hp'
   simp only[Cdt,Cd2] at hp'
   obtain⟨rfl,_,rfl⟩:=hp'
   rw[hh] at hh'
   simp only[Cdt,Go.Obj.cells.injEq] at hh'
   obtain⟨rfl,rfl,rfl⟩:=hh'
   exact hr'
theorem F4 {b k:Nat} {arr:Array Value} {ty:TypeId} {fr:Nat×Nat} (hh:w.heap[b]? =some (.cells arr ty fr)) (hk:k<arr.size):w.cell? ⟨b,k,none⟩=some (arr.getD k undef):=by
 simp[World.cell?,hh,Cd5 hk,hk]
theorem Du {i j e c:Nat} (hi:i<c) (hj:j<e):i*e+j<c*e:=by
 have: (i+1)*e≤c*e:=Cd8 _ hi
 rw[Nat.add_mul] at this
 omega
theorem Bh3 (hH:HR w pl Bd H) {r g i j n:Nat} {cs:List V} (h:Dq H r g i j n=some cs) {u:Value} (hu:RV w (Bl pl H) pl (Bc H) (.ptr r g i j) u):
  ∃b off us,u= .pointer (some ⟨b,off,none⟩)∧RCs w (Bl pl H) pl (Bc H) cs us∧us.size=n∧∀k,k<n→w.cell? ⟨b,off+k,none⟩=some (us.getD k undef):=by
 unfold Dq at h
 split at h
 ·rename_i e xs hrow
  split at h
  ·rename_i x hx
   split at h
   ·rename_i hle
    simp only[Cdt] at h
    subst h
    obtain⟨b,c,arr,ty,fr,hp,hh,hs,hf,hxc,he,hr,h1,_⟩:=Jb hH hrow
    have hil:i<xs.length:=(List.getElem?_eq_some_iff.1 hx).1
    have hxd:xs.getD i .any=x:=by simp[Cda,hx]
    have hxe:x.cells.length=e:=by rw[←hxd];exact he i hil
    cases hu with
    |ptr _ _ _ _ b' e' c' hlt hp'=>
     rw[hp] at hp'
     simp only[Cdt,Cd2] at hp'
     obtain⟨rfl,rfl,rfl⟩:=hp'
     refine⟨b,i*e+j,((List.range n).map fun k=>arr.getD (i*e+j+k) undef).toArray,rfl,⟨by simp;omega,fun k hk=> ?_,fun k hk=> ?_⟩,by simp,fun k hk=> ?_⟩
     ·have hk':k<n:=by simp at hk;omega
      have:=hr i (j+k) hil (by omega)
      rw[hxd,←Nat.add_assoc] at this
      rw[Ko x.cells .any j n k hk']
      simpa[Cd3,hk'] using this
     ·have hk':k<n:=by simp at hk;omega
      have:=h1 i (j+k) hil (by omega)
      rw[←Nat.add_assoc] at this
      simpa[Cd3,hk'] using this
     ·have hlt2:i*e+(j+k)<c*e:=Du (by omega) (by omega)
      rw[F4 hh (by omega)]
      simp[Cd3,hk]
   ·simp at h
  ·simp at h
 ·simp at h
theorem Tn {t n:Nat} {ag:Bool} (hag:R8 P t ag=true) (hsz:Ma P t n=true) {b off:Nat} {us:Array Value} (hn:us.size=n) (h: ∀k,k<n→w.cell? ⟨b,off+k,none⟩=some (us.getD k undef))
  {cs:List V} {O:Gz} {m:Nat} (hc:RCs w O pl m cs us) {v:V} (hv:Lc ag cs=some v): ∃u,(loadVar t ⟨b,off,none⟩).run P w= .ok u w∧RV w O pl m v u:=by
 cases ag
 ·have hv': ∃v',cs=[v']∧v'=v:=by
   match cs,hv with
   | [v'],hv=>exact⟨v',rfl,by simpa[Lc] using hv⟩
   | [],hv=>simp[Lc] at hv
   |_::_::_,hv=>simp[Lc] at hv
  obtain⟨v',rfl,rfl⟩:=hv'
  ·have hn1:n=1:=by rw[←hn,hc.size];rfl
   subst hn1
   refine⟨us.getD 0 undef, ?_,by simpa using hc.rel 0 (by simp)⟩
   have h0:=h 0 (by omega)
   rw[Nat.add_zero] at h0
   simp[loadVar,Qz hag,h0]
 ·simp[Lc] at hv
  subst hv
  refine⟨.agg us, ?_,hc.mkAgg⟩
  have hl:=run_loadCells (P:=P) w ⟨b,off,none⟩ n (fun k=>us.getD k undef) (fun k hk=>by rw[Addr.add_lit];exact h k hk)
  have: ((List.range n).map fun k=>us.getD k undef).toArray=us:=by
   apply Array.ext
   ·simp[hn]
   ·intro i h1 h2;simp[Cd3,h2]
  rw[this] at hl
  simp[loadVar,Qz hag,Jl hsz,hl]
theorem Bua (hG:GR G w (Bl pl H)) (hH:HR w pl Bd H) (hE:RE w (Bl pl H) pl (Bc H) env a) {o:Oper} {t:TypeId} {A:Operand} (ho:o.op= .load t A) {x:AOpd} (hx:Cb x A=true) {ag:Bool} {n:Nat}
  (hag:R8 P t ag=true) (hsz:Ma P t n=true) {r g i j:Nat} (hp:Cw G env x= .ptr r g i j) {cs:List V} (hl:Dq H r g i j n=some cs) {v:V} (hv:Lc ag cs=some v):OpSim P o a w pl Bd H v H:=by
 have hu:=Cu hx hG hE (by rw[hp];rfl)
 rw[hp] at hu
 obtain⟨b,off,us,hue,hc,hn,hk⟩:=Bh3 hH hl hu
 obtain⟨u,hrun,hrv⟩:=Tn hag hsz hn hk hc hv
 exact .pure hH (u:=u) (by simp[execOp,ho,Instr.loadAt,hue,Instr.sureAddr,hrun]) hrv
theorem Bqi (hG:GR G w (Bl pl H)) (hH:HR w pl Bd H) (hE:RE w (Bl pl H) pl (Bc H) env a) {o:Oper} {t:TypeId} {A:Operand} (ho:o.op= .load t A) {x:AOpd} (hx:Cb x A=true) {ag:Bool} {n:Nat}
  (hag:R8 P t ag=true) (hsz:Ma P t n=true) {cs:List D} (hp:Cw G env x= .d (.rptr cs)) (hl:n≤cs.length) {v:V} (hv:Lc ag ((cs.take n).map .d)=some v):OpSim P o a w pl Bd H v H:=by
 have hu:=Cu hx hG hE (by rw[hp];rfl)
 rw[hp] at hu
 cases hu with
 |d _ _ hu=>
  generalize hue:a.eval A=u at hu
  cases hu with
  |rptr _ b off F hO hb hc h1 hr=>
   have hcs:RCs w (Bl pl H) pl (Bc H) ((cs.take n).map .d) ((List.range n).map F).toArray:=by
    refine⟨by simp;omega,fun k hk=> ?_,fun k hk=> ?_⟩<;>have hk':k<n:=by(simp at hk;omega)
    ·have:=RV.d (pl:=pl) (n:=Bc H) _ _ (hr k (by omega))
     have hkc:k<cs.length:=by omega
     simpa[Cda,Cd3,hk',List.getElem?_take_of_lt hk',hkc] using this
    ·simpa[Cd3,hk'] using h1 k (by omega)
   obtain⟨u,hrun,hrv⟩:=Tn hag hsz (b:=b) (off:=off) (us:=((List.range n).map F).toArray) (by simp) (fun k hk=>by rw[hc k (by omega)];simp[Cd3,hk]) hcs hv
   exact .pure hH (u:=u) (by simp[execOp,ho,Instr.loadAt,hue,Instr.sureAddr,hrun]) hrv
end
theorem RV.lower1 {w:World} {O:Gz} {pl:Pl} {n m r:Nat} {v:V} {u:Value} (h:RV w O pl n v u) (hb:Fz r v=true) (hr:r≤m):RV w O pl m v u:=by
 cases h with
 |d x u h=>exact .d x u h
 |nils e a=>exact .nils e a
 |any u=>exact .any u
 |slc r' g i k b e c hlt hp hk=>exact .slc r' g i k b e c (by simp[Fz] at hb;omega) hp hk
 |slc0 r' g i a cap hi hlt=>exact .slc0 r' g i a cap hi (by simp[Fz] at hb;omega)
 |ptr r' g i j b e c hlt hp=>exact .ptr r' g i j b e c (by simp[Fz] at hb;omega) hp
 |_=>simp[Fz] at hb
theorem RV.lower {w:World} {O:Gz} {pl:Pl} {n m r:Nat} {v:V} {u:Value} (h:RV w O pl n v u) (hb:J3 r v=true) (hr:r≤m):RV w O pl m v u:=by
 cases h with
 |d x u h=>exact .d x u h
 |agg cs us hl h1 h=>
  refine .agg cs us hl h1 fun i hi=> (h i hi).lower1 (r:=r) ?_ hr
  simp only[J3,Cdl] at hb
  have:cs.getD i .any=cs[i]:=by simp[Cda,hi]
  rw[this]
  exact hb _ (Cdr hi)
 |nils e a=>exact .nils e a
 |any u=>exact .any u
 |slc r' g i k b e c hlt hp hk=>exact RV.lower1 (.slc r' g i k b e c hlt hp hk) hb hr
 |slc0 r' g i a cap hi hlt=>exact RV.lower1 (.slc0 r' g i a cap hi hlt) hb hr
 |ptr r' g i j b e c hlt hp=>exact RV.lower1 (.ptr r' g i j b e c hlt hp) hb hr
 |_=>simp[J3,Fz] at hb
def N8 (Bd:Nat→Prop) (B:Bn):Prop:=∀m,Bd m→m≤B.n∨m∈B.ts
theorem Bcb {w:World} {O:Gz} {pl:Pl} {Bd:Nat→Prop} {n r m:Nat} {B:Bn} {v:V} {u:Value} (h:RV w O pl n v u) (hb:Ru B r v=true) (hn:N8 Bd B) (hm:m=n∨(Bd m∧r<m)):RV w O pl m v u:=by
 rcases hm with rfl| ⟨hm,hlt⟩
 ·exact h
 ·simp only[Ru,Bool.or_eq_true,Cdv,Cdl] at hb
  rcases hb with hb| ⟨hb,ht⟩
  ·exact h.lower hb (by omega)
  ·have h1:=Nat.le_of_ble_eq_true hb
   rcases hn m hm with h2|h2
   ·omega
   ·rcases ht m h2 with h3|h3
    ·have:=Nat.le_of_ble_eq_true h3
     omega
    ·exact h.lower h3 (Cd7 _)
theorem Bht {α:Type} (xs:List α) (i k:Nat) (x d:α): (xs.set i x).getD k d=if k=i∧i<xs.length then x else xs.getD k d:=by
 simp only[Cda,List.getElem?_set]
 by_cases h:i=k
 ·subst h
  by_cases hl:i<xs.length<;>simp[hl]
 ·have: ¬ (k=i):=fun e=>h e.symm
  simp[h,this]
theorem Pz (cs vs:List V) (j k:Nat) (hj:j+vs.length≤cs.length): (cs.take j++vs++cs.drop (j+vs.length)).getD k .any=if j≤k∧k<j+vs.length then vs.getD (k - j) .any else cs.getD k .any:=by
 have hj':min j cs.length=j:=by omega
 simp only[Cda,List.getElem?_append,List.length_append,List.length_take,hj',List.getElem?_take,List.getElem?_drop]
 by_cases h1:k<j
 ·rw[if_pos (by omega),if_pos h1,if_pos h1,if_neg (by omega)]
 ·by_cases h2:k<j+vs.length
  ·rw[if_pos h2,if_neg h1,if_pos ⟨by omega,h2⟩]
  ·rw[if_neg h2,if_neg (by omega)]
   congr 2
   omega
section
variable {P:Program} {cl:D6} {G:Gi} {w:World} {pl:Pl} {Bd:Nat→Prop} {H:Hp} {env:Env} {a:Act}
theorem Q9 {v:V} (h:v.isAgg=false):v.cells=[v]:=by
 cases v<;>first|rfl| (simp[V.isAgg] at h;done) |skip
 rename_i d
 cases d<;>first|rfl| (simp[V.isAgg] at h;done)
theorem Bh5 (cs:List V): (Mw cs).cells=cs:=by
 unfold Mw
 split
 ·rename_i ds hd
  have:=Kc hd
  subst this
  rfl
 ·rfl
theorem Bgi {x y:V} {cs:List V} (h:Lh x cs=some y):y.cells=cs:=by
 unfold Lh at h
 split at h
 ·simp at h;subst h;exact Bh5 _
 ·split at h
  ·simp at h
  ·rename_i hv
   simp at h;subst h
   exact Q9 hv
 ·simp at h
theorem Bhx {r g i j:Nat} {vs:List V} {H':Hp} (h:Lr H r g i j vs=some H'):
  ∃e xs x y,C8 H r g=some (e,xs)∧xs[i]? =some x∧j+vs.length≤x.cells.length∧y.cells=x.cells.take j++vs++x.cells.drop (j+vs.length)∧H'=Bw H r (.row g e (xs.set i y)):=by
 unfold Lr at h
 split at h
 ·rename_i e xs hrow
  split at h
  ·rename_i x hx
   split at h
   ·rename_i hle
    split at h
    ·rename_i y hy
     exact⟨e,xs,x,y,hrow,hx,hle,Bgi hy,by simpa using h.symm⟩
    ·simp at h
   ·simp at h
  ·simp at h
 ·simp at h
theorem Bgq {t n:Nat} (hsz:Ma P t n=true) {u:Value} (hn:u.cells.size=n) (h1: ∀k,k<n→(u.cells.getD k undef).oneCell'=true) {b off:Nat} {arr:Array Value} {ty:TypeId} {fr:Nat×Nat}
  (hh:w.heap[b]? =some (.cells arr ty fr)) (hl:off+n≤arr.size) (hf:Ms fr arr.size): (storeVar t ⟨b,off,none⟩ u).run P w= .ok () (w.setCells b off u.cells.toList):=by
 have hst:=run_storeCells_cells (P:=P) b off u.cells.toList 0 w
  (fun j hj=>by rw[Nat.add_zero,F4 hh (by simp at hj;omega)];rfl)
  (fun j hj=>by
   have:=hf (off+0+j) (by simp at hj;omega)
   simp only[World.frozen?,hh]
   simp only[Bool.and_eq_false_iff,decide_eq_false_iff_not]
   omega)
  (fun v hv=>by
   obtain⟨k,hk,rfl⟩:=List.mem_iff_getElem.1 hv
   have:=h1 k (by simpa[hn] using hk)
   have hk2:k<u.cells.size:=by simpa using hk
   simp only[Cd3,Cd5 hk2,Cdu] at this
   simpa using this)
 rw[Nat.add_zero] at hst
 simp[storeVar,Jl hsz,hn,hst]
theorem Bql {B:Bn} (hn0:N8 Bd B) (hG:GR G w (Bl pl H)) (hH:HR w pl Bd H) (hE:RE w (Bl pl H) pl (Bc H) env a) {o:Oper} {t:TypeId} {A X:Operand} (ho:o.op= .store t A X) {p x:AOpd} (hp:Cb p A=true) (hx:Cb x X=true) {n:Nat}
  (hsz:Ma P t n=true) {r g i j:Nat} (hpe:Cw G env p= .ptr r g i j) (hvn: (Cw G env x).cells.length=n) (hk: (Cw G env x).sto=true) (hb:Ru B r (Cw G env x)=true) {H':Hp} (hs:Lr H r g i j (Cw G env x).cells=some H'):
  OpSim P o a w pl Bd H .und H':=by
 have hu:=Cu hp hG hE (by rw[hpe];rfl)
 rw[hpe] at hu
 have hv:=Cu hx hG hE (Bmd hk)
 obtain⟨e,xs,y,z,hrow,hy,hle,hz,rfl⟩:=Bhx hs
 obtain⟨b,c,arr,ty,fr,hpl,hh,hsa,hf,hxc,he,hr,h1,hbd⟩:=Jb hH hrow
 have hil:i<xs.length:=(List.getElem?_eq_some_iff.1 hy).1
 have hyd:xs.getD i .any=y:=by simp[Cda,hy]
 have hye:y.cells.length=e:=by rw[←hyd];exact he i hil
 have hc:=hv.cells hk
 have hzl:z.cells.length=e:=by rw[hz];simp;omega
 generalize hue:a.eval A=u at hu
 generalize hve:a.eval X=uv at hv hc
 cases hu with
 |ptr _ _ _ _ b' e' c' hlt hp'=>
  rw[hpl] at hp'
  simp only[Cdt,Cd2] at hp'
  obtain⟨rfl,rfl,rfl⟩:=hp'
  have hfit:i*e+j+n≤arr.size:=by
   have: (i+1)*e≤c*e:=Cd8 _ (by omega)
   rw[Nat.add_mul] at this
   omega
  have hrun:=Bgq (P:=P) hsz (u:=uv) (by rw[hc.size,hvn]) (fun k hk'=>hc.one k (by omega)) hh hfit hf
  obtain⟨s1,s2,s3,arr',s4,s5,s6⟩:=Mr uv.cells.toList (i*e+j) w hh (by simp[hc.size,hvn];omega)
  have Bc:uv.cells.toList.length=n:=by simp[hc.size,hvn]
  rw[Bc] at s6
  have hnew: ∀ (R:V→Value→Prop),(∀k,k<n→R ((Cw G env x).cells.getD k .any) (uv.cells.getD k undef))→(∀i j,i<xs.length→j<e→R ((xs.getD i .any).cells.getD j .any) (arr.getD (i*e+j) undef))→
    ∀i' j',i'< (xs.set i z).length→j'<e→R (((xs.set i z).getD i' .any).cells.getD j' .any) (arr'.getD (i'*e+j') undef):=by
   intro R h1 h2 i' j' hi' hj'
   rw[List.length_set] at hi'
   rw[Bht,s6]
   by_cases hii:i'=i
   ·subst hii
    rw[if_pos ⟨rfl,hi'⟩,hz,Pz _ _ _ _ hle,hvn]
    by_cases hjj:j≤j'∧j'<j+n
    ·rw[if_pos hjj,if_pos (by omega),show i'*e+j' - (i'*e+j)=j' - j by omega]
     have:=h1 (j' - j) (by omega)
     simpa[Cda,Cd3] using this
    ·rw[if_neg hjj,if_neg (by omega)]
     have:=h2 i' j' hi' hj'
     rwa[hyd] at this
   ·rw[if_neg (by omega),if_neg (by
     intro hcon
     rcases Nat.lt_or_gt_of_ne hii with hlt'|hgt'
     ·have: (i'+1)*e≤i*e:=Cd8 _ hlt'
      rw[Nat.add_mul] at this
      omega
     ·have: (i+1)*e≤i'*e:=Cd8 _ hgt'
      rw[Nat.add_mul] at this
      omega)]
    exact h2 i' j' hi' hj'
  obtain⟨k1,k2,k3⟩:=hH.setRow (w':=w.setCells b (i*e+j) uv.cells.toList) (g':=g) (b':=b) (c':=c) (xs':=xs.set i z) (arr':=arr') (Jp hrow) hpl (Cd7 _) (fun _=>rfl) s1 (by omega)
   (fun b'' _ hne=>s3 b'' hne) (.inl rfl) s4 (by omega) (by rw[s5];exact hf) (by simpa using hxc)
   (fun i' hi'=>by
    rw[List.length_set] at hi'
    rw[Bht]
    split
    ·exact hzl
    ·exact he i' hi')
   (fun i' j' hi' hj'=>hnew (fun _ u=>u.oneCell'=true) (fun k hk'=>hc.one k (by omega)) h1 i' j' hi' hj')
   (fun m hm i' j' hi' hj'=>hnew (fun v u=>RV w (Bl pl H) pl m v u) (fun k hk'=>by
     have hvm:RV w (Bl pl H) pl m (Cw G env x) uv:=Bcb hv hb hn0 hm
     exact(hvm.cells hk).rel k (by omega)) (by
     rcases hm with rfl| ⟨hm,hlt'⟩
     ·exact hr
     ·exact hbd m hm hlt') i' j' hi' hj')
  refine .skip (w':=w.setCells b (i*e+j) uv.cells.toList) (by simp[execOp,ho,Instr.storeAt,hue,hve,Instr.sureAddr,hrun]) ⟨k1, .und,k2,k3,by rw[Bt];omega⟩
end
section
variable {P:Program} {cl:D6} {G:Gi} {w:World} {pl:Pl} {Bd:Nat→Prop} {H:Hp} {env:Env} {a:Act}
theorem RV.dd {O:Gz} {n:Nat} {x:D} {u:Value} (h:RV w O pl n (.d x) u):RD w O x u:=by cases h with|d _ _ h=>exact h
theorem RD.int_eq {O:Gz} {k:IntKind} {m:Int} {u:Value} (h:RD w O (.int k m) u):u= .int k m:=by cases h;rfl
theorem RD.bool_eq {O:Gz} {b:Bool} {u:Value} (h:RD w O (.bool b) u):u= .bool b:=by cases h;rfl
theorem RD.str_eq {O:Gz} {s:List UInt8} {u:Value} (h:RD w O (.str s) u): ∃t:ByteArray,u= .string t∧t.toList=s∧t.size=s.length:=by
 cases h
 rename_i t ht
 exact⟨t,rfl,by rw[ByteArray.toList_eq,ht],by rw[←ht];simp⟩
def Zd:D→Value
 | .int k n=> .int k n
 | .bool b=> .bool b
 | .str s=> .string ⟨s.toArray⟩
 |_=>undef
def Bxj:D→Bool
 | .int _ _=>true
 | .bool _=>true
 | .str _=>true
 |_=>false
theorem Bgv {O:Gz} {z:D} (h:Bxj z=true):RD w O z (Zd z):=by
 cases z<;>simp[Bxj] at h
 ·exact .bool _
 ·exact .int _ _
 ·exact .str _ _ (by simp)
theorem Be5 {op:BinOp} {k yk:IntKind} {x y:Int} {z:D} (h:Z7 op k x y=some z) (t:TypeId) (X Y:Operand) (hop:op= .shl∨op= .shr):
  (do eqGuard op t X Y (.int k x) (.int yk y);binOp op t (.int k x) (.int yk y):Sem Value).run P w= .ok (Zd z) w∧Bxj z=true:=by
 unfold Z7 at h
 split at h
 ·simp at h
 ·rename_i hy
  rcases hop with rfl|rfl<;>simp at h<;>subst h<;>refine⟨?_,rfl⟩<;>simp[eqGuard,binOp,Op.shift,hy,Zd]
theorem Bl0 {op:BinOp} {k:IntKind} {x y:Int} {z:D} (h:Gu op k x y=some z) (t:TypeId) (X Y:Operand) (h1:op≠ .shl) (h2:op≠ .shr):
  (do eqGuard op t X Y (.int k x) (.int k y);binOp op t (.int k x) (.int k y):Sem Value).run P w= .ok (Zd z) w∧Bxj z=true:=by
 cases op
 case shl=>exact absurd rfl h1
 case shr=>exact absurd rfl h2
 case quo=>
  simp only[Gu] at h
  split at h
  ·simp at h
  ·rename_i h0
   simp at h;subst h
   exact⟨by simp[eqGuard,binOp,Op.intDiv,h0,Zd],rfl⟩
 case rem=>
  simp only[Gu] at h
  split at h
  ·simp at h
  ·rename_i h0
   simp at h;subst h
   exact⟨by simp[eqGuard,binOp,Op.intDiv,h0,Zd],rfl⟩
 case eql=>simp only[Gu,Cdt] at h;subst h;exact⟨by simp only[eqGuard_at_int,binOp_eql,Sem.run_bind,Sem.run_pure,Result.andThen_ok,Zd];rfl,rfl⟩
 case neq=>simp only[Gu,Cdt] at h;subst h;exact⟨by simp only[eqGuard_at_int,binOp_neq,Sem.run_bind,Sem.run_pure,Result.andThen_ok,Zd];rfl,rfl⟩
 case and=>simp only[Gu,U5,Cdt] at h;subst h;exact⟨by simp only[eqGuard_at_int,binOp_and,Sem.run_bind,Sem.run_pure,Result.andThen_ok,Zd];rfl,rfl⟩
 case or=>simp only[Gu,U5,Cdt] at h;subst h;exact⟨by simp only[eqGuard_at_int,binOp_or,Sem.run_bind,Sem.run_pure,Result.andThen_ok,Zd];rfl,rfl⟩
 case xor=>simp only[Gu,U5,Cdt] at h;subst h;exact⟨by simp only[eqGuard_at_int,binOp_xor,Sem.run_bind,Sem.run_pure,Result.andThen_ok,Zd];rfl,rfl⟩
 case andNot=>simp only[Gu,U5,Cdt] at h;subst h;exact⟨by simp only[eqGuard_at_int,binOp_andNot,Sem.run_bind,Sem.run_pure,Result.andThen_ok,Zd];rfl,rfl⟩
 all_goals (simp only[Gu,Cdt] at h;subst h;exact⟨by simp[eqGuard,binOp,Op.intArith,Op.intCmp,Zd],rfl⟩)
theorem Bl1 {op:BinOp} {x y:List UInt8} {z:D} (h:M9 op x y=some z) (t:TypeId) (X Y:Operand) {s s':ByteArray} (hs:s.toList=x) (hs':s'.toList=y):
  ∃u,(do eqGuard op t X Y (.string s) (.string s');binOp op t (.string s) (.string s'):Sem Value).run P w= .ok u w∧RD w (Bl pl H) z u:=by
 have hz:s.size=x.length:=by rw[←hs,ByteArray.toList_eq];simp
 have hz':s'.size=y.length:=by rw[←hs',ByteArray.toList_eq];simp
 have hbeq: (s.toList==s'.toList)=decide (x=y):=by rw[hs,hs',Bool.eq_iff_iff];simp
 have hlt:Op.bytesLess s.toList s'.toList=Op.bytesLess x y:=by rw[hs,hs']
 cases op<;>simp only[M9,Cdt,reduceCtorEq] at h
 case add=>
  split at h
  ·rename_i hroom
   simp only[Cdt] at h
   subst h
   refine⟨.string (s++s'), ?_, .str _ _ ?_⟩
   ·have: ¬ (((s.size+s'.size:Nat):Int)>IntKind.i64.max):=by rw[hz,hz'];simp[Kl] at hroom⊢;omega
    simp only[eqGuard_at_string,binOp,Op.stringOp,Sem.run_bind,Sem.run_pure,Result.andThen_ok,if_neg this]
   ·rw[←hs,←hs',ByteArray.toList_eq,ByteArray.toList_eq]
    simp
  ·simp at h
 all_goals
  subst h
  refine⟨.bool _,by simp only[eqGuard_at_string,binOp,Op.stringOp,Sem.run_bind,Sem.run_pure,Result.andThen_ok];rfl, ?_⟩
  try rw[hbeq]
  try rw[hlt]
  exact .bool _
theorem Dt {t:Nat} {p:TypeDesc→Bool} (h:Fs P t p=true): ∃d,P.underlying t=some d∧p d=true:=by
 unfold Fs at h
 split at h
 ·rename_i d hd;exact⟨d,hd,h⟩
 ·simp at h
theorem Bl3 {d:Nat} {k:SK} {x y:D} {b:Bool} {t:Nat} (h:Bc0 k x y=some b) (ht:Fs P t (Wh k)=true) {O:Gz} {u v:Value} (hu:RD w O x u) (hv:RD w O y v):
  (Op.equalIn (d+1) t u v).run P w= .ok b w:=by
 obtain⟨ds,hds,hk⟩:=Dt ht
 unfold Bc0 at h
 split at h
 ·split at h
  ·rename_i k1 a1 k2 b1 hkk
   subst hkk
   simp at h;subst h
   rw[hu.int_eq,hv.int_eq]
   cases ds<;>simp[Wh] at hk
   rw[run_equalIn_int w d t k1 _ a1 b1 hds]
   rfl
  ·simp at h
 ·rename_i a1 b1
  simp at h;subst h
  obtain⟨s1,rfl,e1,_⟩:=hu.str_eq
  obtain⟨s2,rfl,e2,_⟩:=hv.str_eq
  cases ds<;>simp[Wh] at hk
  rw[run_equalIn_string w d t s1 s2 hds,e1,e2]
  congr 1
  rw[Bool.eq_iff_iff];simp
 ·rename_i a1 b1
  simp at h;subst h
  rw[hu.bool_eq,hv.bool_eq]
  cases ds<;>simp[Wh] at hk
  exact run_equalIn_bool' w d t a1 b1 hds
 ·simp at h
theorem Z6: ∀ {ks:List SK} {ags bs:List D} {r:Bool},Jj ks ags bs=some r→ags.length=ks.length∧bs.length=ks.length
 | [],[],[],_,_=> ⟨rfl,rfl⟩
 | [],[],_::_,_,h=>by simp[Jj] at h
 | [],_::_,_,_,h=>by simp[Jj] at h
 |_::_,[],_,_,h=>by simp[Jj] at h
 |_::_,_::_,[],_,h=>by simp[Jj] at h
 |k::ks,a::ags,b::bs,r,h=>by
  simp only[Jj] at h
  split at h
  ·rename_i x y h1 h2
   obtain⟨l1,l2⟩:=Z6 h2
   exact⟨by simp[l1],by simp[l2]⟩
  ·simp at h
theorem Be4 {t:Nat} (hsz:Ma P t 1=true) {k:SK} (hk:Fs P t (Wh k)=true) {xs:Array Value} {n:Nat} (hn:n<xs.size): (part t xs n).run P w= .ok (xs.getD n undef) w:=by
 obtain⟨ds,hds,hkk⟩:=Dt hk
 have hag:R8 P t false=true:=by
  unfold R8;rw[hds];cases ds<;>first|rfl| (cases k<;>simp[Wh] at hkk)
 simp[part,Qz hag,Cd5 hn,hn]
theorem Yb {d:Nat} {xs ys:Array Value} {O:Gz} : ∀ (fs:List Field) (ks:List SK) (n:Nat) (ags bs:List D) (r:Bool),Mj P n fs ks=true→Jj ks ags bs=some r→
  n+ags.length≤xs.size→n+bs.length≤ys.size→(∀i,i<ags.length→RD w O (ags.getD i .nilp) (xs.getD (n+i) undef))→(∀i,i<bs.length→RD w O (bs.getD i .nilp) (ys.getD (n+i) undef))→
  (Op.eqFields (d+1) xs ys fs).run P w= .ok r w
 | [],[],n,ags,bs,r,_,h,_,_,_,_=>by
  match ags,bs,h with
  | [],[],h=>simp[Jj] at h;subst h;rfl
  | [],_::_,h=>simp[Jj] at h
  |_::_,_,h=>simp[Jj] at h
 | [],_::_,_,_,_,_,hf,_,_,_,_,_=>by simp[Mj] at hf
 |_::_,[],_,_,_,_,hf,_,_,_,_,_=>by simp[Mj] at hf
 |f::fs,k::ks,n,ags,bs,r,hf,h,hx,hy,h1,h2=>by
  match ags,bs,h with
  | [],_,h=>simp[Jj] at h
  |_::_,[],h=>simp[Jj] at h
  |a::ags,b::bs,h=>
   simp only[Mj,Cdv,decide_eq_true_eq] at hf
   obtain⟨⟨⟨⟨f1,f2⟩,f3⟩,f4⟩,f5⟩:=hf
   have f1:=Cd6 f1
   simp only[Jj] at h
   split at h
   ·rename_i p q hp hq
    simp at h;subst h
    simp only[Cdc] at hx hy h1 h2
    have ih:=Yb (d:=d) (xs:=xs) (ys:=ys) (O:=O) fs ks (n+1) ags bs q f5 hq (by omega) (by omega)
     (fun i hi=>by have:=h1 (i+1) (by omega);rw[show n+1+i=n+(i+1) by omega];simpa using this)
     (fun i hi=>by have:=h2 (i+1) (by omega);rw[show n+1+i=n+(i+1) by omega];simpa using this)
    have ha:=h1 0 (by omega)
    have hb:=h2 0 (by omega)
    have he:=Bl3 (P:=P) (d:=d) hp f3 ha hb
    simp only[Op.eqFields,if_pos f4,f1,Sem.run_bind,Be4 f2 f3 (show n<xs.size by omega),Be4 f2 f3 (show n<ys.size by omega),Result.andThen_ok]
    rw[show xs.getD n undef=xs.getD (n+0) undef from rfl,show ys.getD n undef=ys.getD (n+0) undef from rfl,he]
    cases p
    ·simp
    ·simp[ih]
   ·simp at h
theorem Bt1 {d t:Nat} {ms:Array (String×TypeId)} (h:P.underlying t=some (.interface ms)): (Op.equalIn (d+1) t .nilIface .nilIface).run P w= .ok true w:=by simp[Op.equalIn,run_underlying h]
theorem Bt0 {d t k:Nat} {u:Value} {ms:Array (String×TypeId)} (h:P.underlying t=some (.interface ms)): (Op.equalIn (d+1) t .nilIface (.iface k u)).run P w= .ok false w:=by simp[Op.equalIn,run_underlying h]
theorem Btz {d t k:Nat} {u:Value} {ms:Array (String×TypeId)} (h:P.underlying t=some (.interface ms)): (Op.equalIn (d+1) t (.iface k u) .nilIface).run P w= .ok false w:=by simp[Op.equalIn,run_underlying h]
theorem Bi3 {ty:BTy} {t:Nat} {X Y:Operand} {x y:D} {b:Bool} (hty:ty≠ .val) (h:Bbe ty x y=some b) (hc:Ba5 P ty t Y=true) {O:Gz} {u v:Value} (hu:RD w O x u) (hv:RD w O y v):
  (do eqGuard .eql t X Y u v;binOp .eql t u v:Sem Value).run P w= .ok (.bool b) w∧(do eqGuard .neq t X Y u v;binOp .neq t u v:Sem Value).run P w= .ok (.bool !b) w:=by
 unfold Bbe at h
 split at h
 ·rename_i p q
  simp at h;subst h
  rw[hu.bool_eq,hv.bool_eq]
  obtain⟨ds,hds,hk⟩:=Dt (show Fs P t Bkx=true from hc)
  cases ds<;>simp[Bkx] at hk
  have he:=run_equalIn_bool' (P:=P) w 9999 t p q hds
  simp only[eqGuard_at_bool,binOp,Op.equal,Op.maxDepth,Sem.run_bind,Sem.run_pure,Result.andThen_ok,he]
  exact⟨trivial,trivial⟩
 ·rename_i ks ags bs
  have Bc:=Z6 h
  simp only[Ba5,Cdv,Bool.not_eq_true'] at hc
  obtain⟨⟨c1,c2⟩,c3⟩:=hc
  cases hu with
  |agg _ us hl1 _ hu=>
   cases hv with
   |agg _ vs hl2 _ hv=>
    cases hfs:Kn P t with
    |none=>rw[hfs] at c1;simp at c1
    |some fs=>
     rw[hfs] at c1
     have hund:P.underlying t=some (.struct fs):=by
      unfold Kn at hfs
      split at hfs
      ·rename_i fs' h';simp at hfs;subst hfs;exact h'
      ·simp at hfs
     have hfo:P.fieldsOf t=fs:=by simp[Program.fieldsOf,hund]
     have hrun:=Yb (P:=P) (w:=w) (d:=9998) (xs:=us) (ys:=vs) fs.toList ks 0 ags bs b c1 h (by omega) (by omega) (fun i hi=>by rw[Nat.zero_add];exact hu i hi) (fun i hi=>by rw[Nat.zero_add];exact hv i hi)
     have he:=run_equalIn_struct (P:=P) w 9999 t us vs (by rw[hfo];exact hund) c2
     rw[hfo] at he
     simp only[Sem.run_bind,run_eqGuard_agg w _ t X Y us vs c3,Result.andThen_ok,run_eql_struct,run_neq_struct,he,hrun]
     exact⟨trivial,trivial⟩
 ·simp at h;subst h
  cases hu;cases hv
  simp only[Ba5,Cdv] at hc
  obtain⟨ds,hds,hk⟩:=Dt hc.1
  cases ds<;>simp[Rq] at hk
  cases Y<;>simp at hc
  have he:=Bt1 (P:=P) (w:=w) (d:=9999) hds
  simp only[eqGuard_nil_constR,binOp,Op.equal,Op.maxDepth,Sem.run_bind,Sem.run_pure,Result.andThen_ok,he]
  exact⟨trivial,trivial⟩
 ·simp at h;subst h
  cases hu
  simp only[Ba5,Cdv] at hc
  obtain⟨ds,hds,hk⟩:=Dt hc.1
  cases ds<;>simp[Rq] at hk
  cases hv
  rename_i x v hv
  have he:=fun k=>Bt0 (P:=P) (w:=w) (d:=9999) (k:=k) (u:=v) hds
  simp only[eqGuard_nil_iface,binOp,Op.equal,Op.maxDepth,Sem.run_bind,Sem.run_pure,Result.andThen_ok]
  simp only[he,Result.andThen_ok]
  exact⟨trivial,trivial⟩
 ·simp at h;subst h
  cases hv
  simp only[Ba5,Cdv] at hc
  obtain⟨ds,hds,hk⟩:=Dt hc.1
  cases ds<;>simp[Rq] at hk
  cases hu
  rename_i x v hu
  have he:=fun k=>Btz (P:=P) (w:=w) (d:=9999) (k:=k) (u:=v) hds
  simp only[eqGuard_at_iface,binOp,Op.equal,Op.maxDepth,Sem.run_bind,Sem.run_pure,Result.andThen_ok]
  simp only[he,Result.andThen_ok]
  exact⟨trivial,trivial⟩
 ·simp at h
theorem Byg (hG:GR G w (Bl pl H)) (hH:HR w pl Bd H) (hE:RE w (Bl pl H) pl (Bc H) env a) {o:Oper} {op:BinOp} {t ty':TypeId} {X Y:Operand} (ho:o.op= .binOp op t X Y ty') {x y:AOpd} (hx:Cb x X=true) (hy:Cb y Y=true)
  {ty:BTy} (hc:Ba5 P ty t Y=true) {p q z:D} (hp:Cw G env x= .d p) (hq:Cw G env y= .d q) (hz:Bab op ty p q=some z):OpSim P o a w pl Bd H (.d z) H:=by
 have hu:=Cu hx hG hE (by rw[hp];rfl)
 have hv:=Cu hy hG hE (by rw[hq];rfl)
 rw[hp] at hu
 rw[hq] at hv
 have hu:=hu.dd
 have hv:=hv.dd
 suffices hs: ∃u,(do eqGuard op t X Y (a.eval X) (a.eval Y);binOp op t (a.eval X) (a.eval Y):Sem Value).run P w= .ok u w∧RD w (Bl pl H) z u by
  obtain⟨u,hrun,hrd⟩:=hs
  exact .pure hH (u:=u) (by simp only[execOp,ho];rw[Sem.run_bind,hrun];rfl) (.d _ _ hrd)
 generalize a.eval X=u at*
 generalize a.eval Y=v at*
 unfold Bab at hz
 split at hz
 ·split at hz
  ·rw[hu.int_eq,hv.int_eq]
   obtain⟨h1,h2⟩:=Be5 (P:=P) (w:=w) hz t X Y (.inl rfl)
   exact⟨_,h1,Bgv h2⟩
  ·rw[hu.int_eq,hv.int_eq]
   obtain⟨h1,h2⟩:=Be5 (P:=P) (w:=w) hz t X Y (.inr rfl)
   exact⟨_,h1,Bgv h2⟩
  ·split at hz
   ·rename_i hn1 hn2 hk
    subst hk
    rw[hu.int_eq,hv.int_eq]
    have h1:op≠ .shl:=by rintro rfl;exact absurd rfl (by first|exact hn1 _ _ _ _ rfl rfl|exact fun _=>hn1 _ _ _ _ rfl rfl rfl|assumption)
    have h2:op≠ .shr:=by rintro rfl;exact absurd rfl (by first|exact hn2 _ _ _ _ rfl rfl|exact fun _=>hn2 _ _ _ _ rfl rfl rfl|assumption)
    obtain⟨h1,h2⟩:=Bl0 (P:=P) (w:=w) hz t X Y h1 h2
    exact⟨_,h1,Bgv h2⟩
   ·simp at hz
  ·obtain⟨s1,rfl,e1,_⟩:=hu.str_eq
   obtain⟨s2,rfl,e2,_⟩:=hv.str_eq
   exact Bl1 hz t X Y e1 e2
  ·simp at hz
 ·rename_i hty
  split at hz
  ·split at hz
   ·rename_i b hb
    simp at hz;subst hz
    exact⟨_,(Bi3 (X:=X) (by intro h;exact hty h) hb hc hu hv).1, .bool _⟩
   ·simp at hz
  ·split at hz
   ·rename_i b hb
    simp at hz;subst hz
    exact⟨_,(Bi3 (X:=X) (by intro h;exact hty h) hb hc hu hv).2, .bool _⟩
   ·simp at hz
  ·simp at hz
end
section
variable {P:Program} {cl:D6} {G:Gi} {w:World} {pl:Pl} {Bd:Nat→Prop} {H:Hp} {env:Env} {a:Act}
theorem Un (hG:GR G w (Bl pl H)) (hH:HR w pl Bd H) (hE:RE w (Bl pl H) pl (Bc H) env a) {o:Oper} {X:Operand} (ho:o.op= .nilCheck X) {x:AOpd} (hx:Cb x X=true) {v:V} (hp:Cw G env x=v)
  (hv: (∃r g i j,v= .ptr r g i j)∨(∃cs,v= .d (.rptr cs))∨(∃k cs,v= .fn (.func k) cs)∨(∃k cs,v= .d (.fn (.func k) cs))):OpSim P o a w pl Bd H v H:=by
 have hu:=Cu hx hG hE (by rw[hp];rcases hv with⟨_,_,_,_,rfl⟩ | ⟨_,rfl⟩ | ⟨_,_,rfl⟩ | ⟨_,_,rfl⟩<;>rfl)
 rw[hp] at hu
 refine .pure hH (u:=a.eval X) ?_ hu
 simp only[execOp,ho]
 generalize a.eval X=u at hu
 rcases hv with⟨_,_,_,_,rfl⟩ | ⟨_,rfl⟩ | ⟨_,_,rfl⟩ | ⟨_,_,rfl⟩
 ·cases hu;rfl
 ·have hu:=hu.dd;cases hu;rfl
 ·cases hu;rfl
 ·have hu:=hu.dd;cases hu;rfl
theorem B1m (hG:GR G w (Bl pl H)) (hH:HR w pl Bd H) (hE:RE w (Bl pl H) pl (Bc H) env a) {o:Oper} {op:UnOp} {t:TypeId} {X:Operand} (ho:o.op= .unOp op t X) {x:AOpd} (hx:Cb x X=true) {p z:D} (hp:Cw G env x= .d p)
  (hz:unD op p=some z):OpSim P o a w pl Bd H (.d z) H:=by
 have hu:=Cu hx hG hE (by rw[hp];rfl)
 rw[hp] at hu
 have hu:=hu.dd
 unfold unD at hz
 split at hz
 ·simp at hz;subst hz
  have he:=hu.int_eq
  exact .pure hH (u:= .int _ _) (by simp only[execOp,ho,he,Op.unary,Op.intArith,Int.zero_sub];rfl) (.d _ _ (.int _ _))
 ·simp at hz;subst hz
  have he:=hu.bool_eq
  exact .pure hH (u:= .bool _) (by simp only[execOp,ho,he,Op.unary];rfl) (.d _ _ (.bool _))
 ·simp at hz
theorem Bqe (hG:GR G w (Bl pl H)) (hH:HR w pl Bd H) (hE:RE w (Bl pl H) pl (Bc H) env a) {o:Oper} {R3 dst:TypeId} {X:Operand} (ho:o.op= .convert R3 dst X) {x:AOpd} (hx:Cb x X=true) {k k':IntKind} {n:Int} (hp:Cw G env x= .d (.int k' n))
  (hd:Fs P dst (Bss k)=true) (hs: (P.underlying R3).isSome=true):OpSim P o a w pl Bd H (.d (.int k (k.wrap n))) H:=by
 have hu:=Cu hx hG hE (by rw[hp];rfl)
 rw[hp] at hu
 have he:=hu.dd.int_eq
 obtain⟨ds,hds,hk⟩:=Dt hd
 obtain⟨ss,hss⟩:=Option.isSome_iff_exists.1 hs
 cases ds<;>simp[Bss] at hk
 subst hk
 exact .pure hH (u:= .int k (k.wrap n)) (by simp[execOp,ho,he,convert,run_underlying hss,run_underlying hds,Conv.intToInt]) (.d _ _ (.int _ _))
theorem Bt8 (hG:GR G w (Bl pl H)) (hH:HR w pl Bd H) (hE:RE w (Bl pl H) pl (Bc H) env a) {o:Oper} {R3 dst:TypeId} {X:Operand} (ho:o.op= .convert R3 dst X) {x:AOpd} (hx:Cb x X=true) {s:List UInt8} (hp:Cw G env x= .d (.str s))
  (hd:Fs P dst Pi=true) (hs: (P.underlying R3).isSome=true):OpSim P o a w pl Bd H (.d (.str s)) H:=by
 have hu:=Cu hx hG hE (by rw[hp];rfl)
 rw[hp] at hu
 obtain⟨t,he,_,_⟩:=hu.dd.str_eq
 obtain⟨ds,hds,hk⟩:=Dt hd
 obtain⟨ss,hss⟩:=Option.isSome_iff_exists.1 hs
 cases ds<;>simp[Pi] at hk
 refine .pure hH (u:=a.eval X) ?_ hu
 simp only[execOp,ho,he]
 cases ss<;>simp[convert,run_underlying hss,run_underlying hds]
theorem Bi9 (hG:GR G w (Bl pl H)) (hH:HR w pl Bd H) (hE:RE w (Bl pl H) pl (Bc H) env a) {o:Oper} {f:Fn} {first caps:Array Operand} (ho:o.op= .makeFunc f first caps) (hf:first.size=0) {cs:List AOpd} (hc:Kr cs caps.toList=true)
  (hk: ∀c∈cs,(Cw G env c).ok=true) {v:V} (hv: (∃xs,Gr (cs.map (Cw G env))=some xs∧v= .d (.fn f xs))∨v= .fn f (cs.map (Cw G env))):OpSim P o a w pl Bd H v H:=by
 have hl: ∀ (cs:List AOpd) (ys:List Operand),Kr cs ys=true→ys.length=cs.length∧∀i,i<cs.length→Cb (cs.getD i .u) (ys.getD i (.tmp 0))=true:=by
  intro cs
  induction cs with
  |nil=>intro ys h;cases ys<;>simp[Kr] at h⊢
  |cons c cs ih=>
   intro ys h
   cases ys with
   |nil=>simp[Kr] at h
   |cons y ys=>
    simp only[Kr,Cdv] at h
    obtain⟨h1,h2⟩:=ih ys h.2
    refine⟨by simp[h1],fun i hi=> ?_⟩
    cases i with
    |zero=>exact h.1
    |succ i=>exact h2 i (by simpa using hi)
 obtain⟨h1,h2⟩:=hl cs caps.toList hc
 have hrel: ∀i,i< (cs.map (Cw G env)).length→RV w (Bl pl H) pl (Bc H) ((cs.map (Cw G env)).getD i .any) ((caps.map a.eval).getD i undef):=by
  intro i hi
  have hi':i<cs.length:=by simpa using hi
  have hi2:i<caps.size:=by simp at h1;omega
  have h3:=h2 i hi'
  have hcs:cs.getD i .u=cs[i]:=by simp[Cda,hi']
  have hys:caps.toList.getD i (.tmp 0)=caps[i]:=by simp[Cda,hi2]
  rw[hcs,hys] at h3
  have:=Cu h3 hG hE (hk _ (Cdr hi'))
  simpa[Cda,Cd3,hi',hi2] using this
 have hsz: (caps.map a.eval).size=(cs.map (Cw G env)).length:=by simp at h1⊢;omega
 have hfi:first.map a.eval= #[]:=by
  have:first= #[]:=Array.eq_empty_of_size_eq_zero hf
  rw[this];simp
 refine .pure hH (u:= .func f #[] (caps.map a.eval)) (by simp[execOp,ho,Instr.makeFunc,hfi]) ?_
 rcases hv with⟨xs,hx,rfl⟩ |rfl
 ·have hxe:=Kc hx
  rw[hxe] at hrel hsz
  refine .d _ _ (.fn f xs _ (by simpa using hsz) fun i hi=> ?_)
  have:=hrel i (by simpa using hi)
  simp only[Cda,List.getElem?_map,Cdh hi,Option.map_some,Cdu] at this⊢
  exact this.dd
 ·exact .fn f _ _ hsz hrel
theorem Bi8 (hG:GR G w (Bl pl H)) (hH:HR w pl Bd H) (hE:RE w (Bl pl H) pl (Bc H) env a) {o:Oper} {X:Operand} {i:Nat} (ho:o.op= .extract X i) {x:AOpd} (hx:Cb x X=true) {vs:List V} (hp:Cw G env x= .tup vs) {v:V} (hv:vs[i]? =some v):OpSim P o a w pl Bd H v H:=by
 have hu:=Cu hx hG hE (by rw[hp];rfl)
 rw[hp] at hu
 generalize hue:a.eval X=u at hu
 have hil:=(List.getElem?_eq_some_iff.1 hv).1
 cases hu with
 |tup _ us hl h=>
  have:=h i hil
  have hi2:i<us.size:=by omega
  simp only[Cda,hv,Cdu,Cd3,Cd5 hi2] at this
  exact .pure hH (u:=us[i]) (by simp[execOp,ho,hue,Instr.extract,hi2]) this
theorem Bja (hG:GR G w (Bl pl H)) (hH:HR w pl Bd H) (hE:RE w (Bl pl H) pl (Bc H) env a) {o:Oper} {t:TypeId} {X:Operand} (ho:o.op= .makeInterface t X) {x:AOpd} (hx:Cb x X=true) {p:D} (hp:Cw G env x= .d p)
  (hd:Fs P t (fun d=> !Rq d)=true):OpSim P o a w pl Bd H (.d (.iface t p)) H:=by
 have hu:=Cu hx hG hE (by rw[hp];rfl)
 rw[hp] at hu
 obtain⟨ds,hds,hk⟩:=Dt hd
 refine .pure hH (u:= .iface t (a.eval X)) ?_ (.d _ _ (.iface t _ _ hu.dd))
 cases ds<;>first| (simp[Rq] at hk;done) |simp[execOp,ho,Instr.makeInterface,run_underlying hds]
theorem Fw {t e:Nat} (h:Gx P t=some e):P.underlying t=some (.slice e):=by
 unfold Gx at h
 split at h
 ·rename_i e' h';simp at h;subst h;exact h'
 ·simp at h
theorem Baz (hG:GR G w (Bl pl H)) (hH:HR w pl Bd H) (hE:RE w (Bl pl H) pl (Bc H) env a) {o:Oper} {X:Operand} {t:TypeId} {ags:Array Operand} {ts:Array TypeId} (ho:o.op= .call { callee:= .builtin .len,args:=ags,argTypes:=ts }) (has:ags.toList=[X]) (hts:ts[0]? =some t) {x:AOpd} (hx:Cb x X=true)
  {n:Nat} (hp: (Fs P t Pi=true∧∃s,Cw G env x= .d (.str s)∧n=s.length)∨((Gx P t).isSome=true∧((∃e xs,Cw G env x= .d (.vals e xs)∧n=xs.length)∨(∃e,Cw G env x= .nils e∧n=0)∨(∃r g i,Cw G env x= .slc r g i n)))):
  OpSim P o a w pl Bd H (.d (.int .i64 (n:Int))) H:=by
 have hu:=Cu hx hG hE (by rcases hp with⟨_,_,h,_⟩ | ⟨_,⟨_,_,h,_⟩ | ⟨_,h,_⟩ | ⟨_,_,_,h⟩⟩<;>rw[h]<;>rfl)
 have has':ags= #[X]:=by cases ags;simp at has;subst has;rfl
 refine .pure hH (u:= .int .i64 n) ?_ (.d _ _ (.int _ _))
 simp only[execOp,ho,resolve,has',Sem.run_bind,Sem.run_pure,Result.andThen_ok,invoke,builtin,List.map_toArray,Cdd,List.map_nil]
 generalize a.eval X=u at hu
 rcases hp with⟨hd,s,h,hn⟩ | ⟨hd,hp⟩
 ·rw[h] at hu
  obtain⟨t',rfl,_,hsz⟩:=hu.dd.str_eq
  obtain⟨ds,hds,hk⟩:=Dt hd
  cases ds<;>simp[Pi] at hk
  simp[Builtin.len_,hts,run_underlying hds,hsz,hn,goInt]
 ·obtain⟨e,he⟩:=Option.isSome_iff_exists.1 hd
  have hds:=Fw he
  have hs: ∃A c,u= .slice A n c:=by
   rcases hp with⟨_,_,h,hn⟩ | ⟨_,h,hn⟩ | ⟨_,_,_,h⟩<;>rw[h] at hu
   ·have hu:=hu.dd
    subst hn
    cases hu
    ·exact⟨_,_,rfl⟩
    ·exact⟨_,_,rfl⟩
   ·subst hn;cases hu;exact⟨_,_,rfl⟩
   ·cases hu
    ·exact⟨_,_,rfl⟩
    ·exact⟨_,_,rfl⟩
  obtain⟨A,c,rfl⟩:=hs
  simp[Builtin.len_,hts,run_underlying hds,goInt]
theorem Bme {vs:List V} {s:List UInt8} (h:Z8 vs=some s): ∃ns:List Int,vs=ns.map (fun n=>V.d (.int .u8 n))∧s=ns.map (fun n=>UInt8.ofNat n.toNat):=by
 induction vs generalizing s with
 |nil=>simp[Z8] at h;subst h;exact⟨[],rfl,rfl⟩
 |cons v r ih=>
  unfold Z8 at h
  split at h
  ·rename_i heq;simp at heq
  ·rename_i n r' heq
   simp only[List.cons.injEq] at heq
   obtain⟨rfl,rfl⟩:=heq
   split at h
   ·rename_i s' hs'
    simp at h;subst h
    obtain⟨ns,h1,h2⟩:=ih hs'
    exact⟨n::ns,by simp[h1],by simp[h2]⟩
   ·simp at h
  ·simp at h
end
section
variable {P:Program} {cl:D6} {G:Gi} {w:World} {pl:Pl} {Bd:Nat→Prop} {H:Hp} {env:Env} {a:Act}
theorem W9 {v:V} {n:Int} (h:asI v=some n): ∃k,v= .d (.int k n):=by
 unfold asI at h
 split at h
 ·simp at h;subst h;exact⟨_,rfl⟩
 ·simp at h
theorem Byi (hG:GR G w (Bl pl H)) (hH:HR w pl Bd H) (hE:RE w (Bl pl H) pl (Bc H) env a) {o:Oper} {t:TypeId} {X I:Operand} (ho:o.op= .index t X I) {x i:AOpd} (hx:Cb x X=true) (hi:Cb i I=true) (hd:Fs P t Pi=true)
  {s:List UInt8} (hp:Cw G env x= .d (.str s)) {k:Int} (hk:asI (Cw G env i)=some k) (h0:0≤k) (h1:k< (s.length:Int)):OpSim P o a w pl Bd H (.d (.int .u8 ((s.getD k.toNat 0).toNat:Int))) H:=by
 obtain⟨kk,hke⟩:=W9 hk
 have hu:=Cu hx hG hE (by rw[hp];rfl)
 have hv:=Cu hi hG hE (by rw[hke];rfl)
 rw[hp] at hu
 rw[hke] at hv
 obtain⟨t',he,htl,hsz⟩:=hu.dd.str_eq
 have hie:=hv.dd.int_eq
 obtain⟨ds,hds,hkd⟩:=Dt hd
 cases ds<;>simp[Pi] at hkd
 have hlt:k.toNat<t'.size:=by omega
 refine .pure hH (u:= .int .u8 ((s.getD k.toNat 0).toNat:Int)) ?_ (.d _ _ (.int _ _))
 have hg:t'[k.toNat]? =some (s.getD k.toNat 0):=by
  rw[ByteArray.toList_eq] at htl
  have h2:t'.data.toList[k.toNat]? =s[k.toNat]? :=by rw[htl]
  have h3:k.toNat<s.length:=by omega
  have h4:t'[k.toNat]? =some (t'[k.toNat]'hlt):=by simp[hlt]
  rw[h4]
  congr 1
  have h5:t'.data.toList[k.toNat]? =some (t'[k.toNat]'hlt):=by
   rw[Array.getElem?_toList]
   show t'.data[k.toNat]? =_
   rw[Cd5 (by simpa using hlt)]
   rfl
  rw[h5,Cdh h3] at h2
  simp only[Cdt] at h2
  rw[h2]
  simp[Cda,h3]
 simp[execOp,ho,Instr.index,he,hie,asIntOf,run_underlying hds,h0,hg]
theorem RD.drop_take {O:Gz} {e:Nat} {xs:List D} {u:Value} (h:RD w O (.vals e xs) u) {l n:Nat} (hn:n≤xs.length) (hl:l≤n):
  ∃A cap,u= .slice A xs.length cap∧xs.length≤cap∧∀A',(l=cap∨A'=A.map (·.add (l*e))∨l=n)→RD w O (.vals e ((xs.take n).drop l)) (.slice A' (n - l) (cap - l)):=by
 have Bc: ((xs.take n).drop l).length=n - l:=by simp;omega
 by_cases hz:n - l=0
 ·have hnil: (xs.take n).drop l=[]:=List.eq_nil_of_length_eq_zero (by omega)
  rw[hnil,hz]
  cases h with
  |vals0 _ A cap=>exact⟨A,cap,rfl,Nat.zero_le _,fun A' _=> .vals0 _ _ _⟩
  |vals _ _ b o cap F hcap=>exact⟨_,cap,rfl,hcap,fun A' _=> .vals0 _ _ _⟩
 ·cases h with
  |vals0=>simp at hn;omega
  |vals _ _ b o cap F hcap hO hb he hc h1 hr=>
   refine⟨_,cap,rfl,hcap,fun A' hA=> ?_⟩
   have hA':A'=some ⟨b,o+l*e,none⟩:=by
    rcases hA with h|h|h
    ·omega
    ·rw[h];simp[Addr.add_lit]
    ·omega
   subst hA'
   rw[←Bc]
   have Cc: ∀i,i<n - l→((xs.take n).drop l).getD i .nilp=xs.getD (l+i) .nilp:=fun i hi=>by
    simp only[Cda,List.getElem?_drop]
    rw[List.getElem?_take_of_lt (by omega)]
   refine .vals e _ b (o+l*e) (cap - l) (fun i j=>F (l+i) j) (by omega) hO hb (fun i hi=> ?_) (fun i j hi hj=> ?_) (fun i j hi hj=>h1 _ _ (by omega) hj) (fun i j hi hj=> ?_)
   ·rw[Cc i (by omega)];exact he _ (by omega)
   ·have:=hc (l+i) j (by omega) hj
    rwa[Nat.add_mul,←Nat.add_assoc] at this
   ·rw[Cc i (by omega)];exact hr _ _ (by omega) hj
theorem Jz {lim dflt n:Nat} {x:Option AOpd} {X:Option Operand} (hx:Kk x X=true) (h:Db G env dflt lim x=some n) (hd:dflt≤lim) (hG:GR G w (Bl pl H)) (hE:RE w (Bl pl H) pl (Bc H) env a) (c:BoundsCode):
  n≤lim∧((X=none∧n=dflt)∨∃Y k,X=some Y∧a.eval Y= .int k n∧(Instr.sliceBound (.int k n) lim c).run P w= .ok n w):=by
 unfold Db at h
 split at h
 ·simp at h;subst h
  cases X<;>simp[Kk] at hx
  exact⟨hd, .inl ⟨rfl,rfl⟩⟩
 ·rename_i y
  cases X with
  |none=>simp[Kk] at hx
  |some Y=>
   split at h
   ·rename_i m hm
    split at h
    ·rename_i hmm
     simp at h;subst h
     obtain⟨k,hke⟩:=W9 hm
     have hv:=Cu (show Cb y Y=true from hx) hG hE (by rw[hke];rfl)
     rw[hke] at hv
     have he:=hv.dd.int_eq
     have hmn: ((m.toNat:Nat):Int)=m:=by omega
     refine⟨by omega, .inr ⟨Y,k,rfl,by rw[he,hmn], ?_⟩⟩
     rw[hmn]
     simp[Instr.sliceBound,asIntOf,hmm]
    ·simp at h
   ·simp at h
theorem Ry {len cap l h:Nat} {lo hi:Option AOpd} {Lo Hi:Option Operand} (hlo:Kk lo Lo=true) (hhi:Kk hi Hi=true) (hh:Db G env len len hi=some h) (hl:Db G env 0 h lo=some l) (hc:len≤cap) (isSlice:Bool) (hG:GR G w (Bl pl H)) (hE:RE w (Bl pl H) pl (Bc H) env a):
  h≤len∧l≤h∧(Instr.sliceBounds isSlice len cap (Lo.map a.eval) (Hi.map a.eval) none).run P w= .ok (l,h,cap) w:=by
 obtain⟨h1,h2⟩:=Jz (P:=P) hhi hh (Cd7 _) hG hE .sliceAlen
 obtain⟨l1,l2⟩:=Jz (P:=P) hlo hl (Nat.zero_le _) hG hE .sliceB
 refine⟨h1,l1, ?_⟩
 have hbnd: ∀ (k:IntKind) (n lim:Nat) (c:BoundsCode),n≤lim→(Instr.sliceBound (.int k n) lim c).run P w= .ok n w:=fun k n lim c hn=>by
  simp[Instr.sliceBound,asIntOf,hn]
 have hz: ∀ (k:IntKind) (lim:Nat) (c:BoundsCode),(Instr.sliceBound (.int k 0) lim c).run P w= .ok 0 w:=fun k lim c=>by
  simp[Instr.sliceBound,asIntOf]
 rcases h2 with⟨rfl,rfl⟩ | ⟨Y,k,rfl,hY,_⟩
 ·rcases l2 with⟨rfl,rfl⟩ | ⟨Z,k2,rfl,hZ,_⟩
  ·simp[Instr.sliceBounds]
  ·simp[Instr.sliceBounds,hZ,hbnd k2 l h .sliceB l1]
 ·have hb: (Instr.sliceBound (.int k h) cap (if isSlice=true then .sliceAcap else .sliceAlen)).run P w= .ok h w:=hbnd _ _ _ _ (by omega)
  rcases l2 with⟨rfl,rfl⟩ | ⟨Z,k2,rfl,hZ,_⟩
  ·simp only[Instr.sliceBounds,Option.map_some,Option.map_none,hY,Sem.run_bind,Sem.run_pure,Result.andThen_ok,hb]
  ·simp only[Instr.sliceBounds,Option.map_some,hY,hZ,Sem.run_bind,Sem.run_pure,Result.andThen_ok,hb]
   simp[hbnd k2 l h .sliceB l1]
theorem Bgt (hG:GR G w (Bl pl H)) (hH:HR w pl Bd H) (hE:RE w (Bl pl H) pl (Bc H) env a) {o:Oper} {t:TypeId} {X:Operand} {Lo Hi:Option Operand} (ho:o.op= .slice t X Lo Hi none) {x:AOpd} {lo hi:Option AOpd} (hx:Cb x X=true) (hlo:Kk lo Lo=true) (hhi:Kk hi Hi=true)
  (hd:Fs P t Pi=true) {s:List UInt8} (hp:Cw G env x= .d (.str s)) {h l:Nat} (hh:Db G env s.length s.length hi=some h) (hl:Db G env 0 h lo=some l):OpSim P o a w pl Bd H (.d (.str ((s.take h).drop l))) H:=by
 have hu:=Cu hx hG hE (by rw[hp];rfl)
 rw[hp] at hu
 obtain⟨t',he,htl,hsz⟩:=hu.dd.str_eq
 obtain⟨ds,hds,hkd⟩:=Dt hd
 cases ds<;>simp[Pi] at hkd
 rw[←hsz] at hh
 obtain⟨h1,h2,h3⟩:=Ry (P:=P) hlo hhi hh hl (Cd7 _) false hG hE
 refine .pure hH (u:= .string (t'.extract l h)) ?_ (.d _ _ (.str _ _ ?_))
 ·simp[execOp,ho,Instr.sliceAt,run_underlying hds,he,Instr.slice,h3]
 ·rw[ByteArray.toList_eq] at htl
  rw[←htl]
  simp[ByteArray.data_extract,Array.toList_extract]
  rw[List.drop_take]
theorem Bdp (hG:GR G w (Bl pl H)) (hH:HR w pl Bd H) (hE:RE w (Bl pl H) pl (Bc H) env a) {o:Oper} {t:TypeId} {X:Operand} {Lo Hi:Option Operand} (ho:o.op= .slice t X Lo Hi none) {x:AOpd} {lo hi:Option AOpd} (hx:Cb x X=true) (hlo:Kk lo Lo=true) (hhi:Kk hi Hi=true)
  {e:Nat} (hd:K6 P t e=true) {xs:List D} (hp:Cw G env x= .d (.vals e xs)) {h l:Nat} (hh:Db G env xs.length xs.length hi=some h) (hl:Db G env 0 h lo=some l):OpSim P o a w pl Bd H (.d (.vals e ((xs.take h).drop l))) H:=by
 have hu:=Cu hx hG hE (by rw[hp];rfl)
 rw[hp] at hu
 unfold K6 at hd
 split at hd
 ·rename_i el hel
  have hds:=Fw hel
  have hhl:h≤xs.length:=(Jz (P:=P) hhi hh (Cd7 _) hG hE .sliceAlen).1
  have hlh:l≤h:=(Jz (P:=P) hlo hl (Nat.zero_le _) hG hE .sliceAlen).1
  obtain⟨A,cap,hue,hcap,hrd⟩:=hu.dd.drop_take hhl hlh
  obtain⟨h1,h2,h3⟩:=Ry (P:=P) hlo hhi hh hl hcap true hG hE
  refine .pure hH (u:= .slice (if cap=l then A else A.map (·.add (l*e))) (h - l) (cap - l)) ?_ (.d _ _ (hrd _ ?_))
  ·simp[execOp,ho,Instr.sliceAt,run_underlying hds,hue,Instr.slice,h3,Jl hd]
  ·split
   ·rename_i hcl;exact .inl hcl.symm
   ·exact .inr (.inl rfl)
 ·simp at hd
theorem Bgs (hG:GR G w (Bl pl H)) (hH:HR w pl Bd H) (hE:RE w (Bl pl H) pl (Bc H) env a) {o:Oper} {t:TypeId} {X:Operand} {Lo Hi:Option Operand} (ho:o.op= .slice t X Lo Hi none) {x:AOpd} {lo hi:Option AOpd} (hx:Cb x X=true) (hlo:Kk lo Lo=true) (hhi:Kk hi Hi=true)
  {e:Nat} (hd:K6 P t e=true) {r g i n:Nat} (hp:Cw G env x= .slc r g i n) {xs:List V} (hrow:C8 H r g=some (e,xs)) {h l:Nat} (hh:Db G env n n hi=some h) (hl:Db G env 0 h lo=some l):OpSim P o a w pl Bd H (.slc r g (i+l) (h - l)) H:=by
 have hu:=Cu hx hG hE (by rw[hp];rfl)
 rw[hp] at hu
 obtain⟨b,c,arr,ty,fr,hpl,_⟩:=Jb hH hrow
 unfold K6 at hd
 split at hd
 ·rename_i el hel
  have hds:=Fw hel
  have hhl:h≤n:=(Jz (P:=P) hhi hh (Cd7 _) hG hE .sliceAlen).1
  have hlh:l≤h:=(Jz (P:=P) hlo hl (Nat.zero_le _) hG hE .sliceAlen).1
  generalize hue:a.eval X=u at hu
  cases hu with
  |slc _ _ _ _ b' e' c' hlt hp' hk=>
   rw[hpl] at hp'
   simp only[Cdt,Cd2] at hp'
   obtain⟨rfl,rfl,rfl⟩:=hp'
   obtain⟨h1,h2,h3⟩:=Ry (P:=P) hlo hhi hh hl (show n≤c - i by omega) true hG hE
   refine .pure hH (u:= .slice (if c - i=l then some ⟨b,i*e,none⟩ else some ⟨b,i*e+l*e,none⟩) (h - l) (c - i - l)) ?_ ?_
   ·simp[execOp,ho,Instr.sliceAt,run_underlying hds,hue,Instr.slice,h3,Jl hd,Addr.add_lit]
   ·split
    ·rename_i hcl
     have hz:h - l=0:=by omega
     rw[hz]
     by_cases h0:i+l=0
     ·obtain⟨rfl,rfl⟩:i=0∧l=0:=by omega
      exact Rz hlt hpl (by omega) (by simp) (by omega)
     ·exact .slc0 _ _ _ _ _ (by omega) hlt
    ·exact Rz hlt hpl (by omega) (by rw[Nat.add_mul]) (by omega)
  |slc0 _ _ _ A cap hi' hlt=>
   obtain⟨h1,h2,h3⟩:=Ry (P:=P) hlo hhi hh hl (show 0≤cap by omega) true hG hE
   refine .pure hH (u:= .slice (if cap=l then A else A.map (·.add (l*e))) (h - l) (cap - l)) ?_ ?_
   ·simp[execOp,ho,Instr.sliceAt,run_underlying hds,hue,Instr.slice,h3,Jl hd]
   ·have hz:h - l=0:=by omega
    rw[hz]
    exact .slc0 _ _ _ _ _ (by omega) hlt
 ·simp at hd
theorem Bs0 {v:V} {n:Nat} {O:Gz} {m:Nat} {u:Value} (h:Bh0 v=some n) (hu:RV w O pl m v u): ∃A cap,u= .slice A n cap∧n≤cap:=by
 unfold Bh0 at h
 split at h
 ·simp only[Cdt] at h
  subst h
  have hd:=hu.dd
  cases hd with
  |vals0=>exact⟨_,_,rfl,Nat.zero_le _⟩
  |vals _ _ b o cap F hcap=>exact⟨_,_,rfl,hcap⟩
 ·simp only[Cdt] at h
  subst h
  cases hu with
  |slc r g i k b e c hr hp hk=>exact⟨_,_,rfl,by omega⟩
  |slc0=>exact⟨_,_,rfl,Nat.zero_le _⟩
 ·simp at h
theorem Bmb (hG:GR G w (Bl pl H)) (hH:HR w pl Bd H) (hE:RE w (Bl pl H) pl (Bc H) env a) {o:Oper} {t:TypeId} {X M:Operand} {Lo Hi:Option Operand} (ho:o.op= .slice t X Lo Hi (some M)) {x hi mx:AOpd} {lo:Option AOpd} (hx:Cb x X=true) (hlo:Kk lo Lo=true) (hhi:Kk (some hi) Hi=true) (hmx:Cb mx M=true)
  {e:Nat} (hd:K6 P t e=true) {n m h l:Nat} (hn:Bh0 (Cw G env x)=some n) (hm:Db G env n n (some mx)=some m) (hh:Db G env m m (some hi)=some h) (hl:Db G env 0 h lo=some l):OpSim P o a w pl Bd H .any H:=by
 have hk: (Cw G env x).ok=true:=by
  revert hn
  generalize Cw G env x=v
  cases v<;>simp[Bh0,V.ok]
 have hu:=Cu hx hG hE hk
 obtain⟨A,cap,hue,hcap⟩:=Bs0 hn hu
 unfold K6 at hd
 split at hd
 ·rename_i el hel
  have hds:=Fw hel
  obtain⟨m1,m2⟩:=Jz (P:=P) (X:=some M) (x:=some mx) (show Kk (some mx) (some M)=true from hmx) hm (Cd7 _) hG hE .slice3Acap
  obtain⟨h1,h2⟩:=Jz (P:=P) hhi hh (Cd7 _) hG hE .slice3B
  obtain⟨l1,l2⟩:=Jz (P:=P) hlo hl (Nat.zero_le _) hG hE .slice3C
  have hbnd: ∀ (k:IntKind) (n lim:Nat) (c:BoundsCode),n≤lim→(Instr.sliceBound (.int k n) lim c).run P w= .ok n w:=fun k n lim c hn=>by
   simp[Instr.sliceBound,asIntOf,hn]
  rcases m2 with⟨hc,_⟩ | ⟨Y,k,hY,hmv,_⟩
  ·simp at hc
  simp only[Cdt] at hY
  subst hY
  rcases h2 with⟨hc,_⟩ | ⟨Z,k2,rfl,hhv,_⟩
  ·subst hc;simp[Kk] at hhi
  have b1: (Instr.sliceBound (.int k m) cap .slice3Acap).run P w= .ok m w:=hbnd _ _ _ _ (by omega)
  have b2: (Instr.sliceBound (.int k2 h) m .slice3B).run P w= .ok h w:=hbnd _ _ _ _ h1
  have hbs: (Instr.sliceBounds true n cap (Lo.map a.eval) (some (a.eval Z)) (some (a.eval M))).run P w= .ok (l,h,m) w:=by
   rcases l2 with⟨rfl,rfl⟩ | ⟨W,k3,rfl,hlv,_⟩
   ·simp[Instr.sliceBounds,hmv,hhv,b1,b2]
   ·have b3: (Instr.sliceBound (.int k3 l) h .slice3C).run P w= .ok l w:=hbnd _ _ _ _ l1
    simp[Instr.sliceBounds,hmv,hhv,hlv,b1,b2,b3]
  refine .pure hH (u:= .slice (if m=l then A else A.map (·.add (l*e))) (h - l) (m - l)) ?_ (.any _)
  simp[execOp,ho,Instr.sliceAt,run_underlying hds,hue,Instr.slice,hbs,Jl hd]
 ·simp at hd
theorem Bmc (hG:GR G w (Bl pl H)) (hH:HR w pl Bd H) (hE:RE w (Bl pl H) pl (Bc H) env a) {o:Oper} {t:TypeId} {X:Operand} {Lo Hi:Option Operand} (ho:o.op= .slice t X Lo Hi none) {x hi:AOpd} {lo:Option AOpd} (hx:Cb x X=true) (hlo:Kk lo Lo=true) (hhi:Kk (some hi) Hi=true)
  {e:Nat} (hd:K6 P t e=true) {r g n:Nat} (hp:Cw G env x= .slc r g 0 n) {xs:List V} (hrow:C8 H r g=some (e,xs)) {h l:Nat} (hh:Db G env xs.length xs.length (some hi)=some h) (hl:Db G env 0 h lo=some l):OpSim P o a w pl Bd H (.slc r g l (h - l)) H:=by
 have hu:=Cu hx hG hE (by rw[hp];rfl)
 rw[hp] at hu
 obtain⟨b,c,arr,ty,fr,hpl,_,_,_,hxc,_⟩:=Jb hH hrow
 unfold K6 at hd
 split at hd
 ·rename_i el hel
  have hds:=Fw hel
  obtain⟨h1,h2⟩:=Jz (P:=P) hhi hh (Cd7 _) hG hE .sliceAcap
  obtain⟨l1,l2⟩:=Jz (P:=P) hlo hl (Nat.zero_le _) hG hE .sliceB
  have hbnd: ∀ (k:IntKind) (n lim:Nat) (c:BoundsCode),n≤lim→(Instr.sliceBound (.int k n) lim c).run P w= .ok n w:=fun k n lim c hn=>by
   simp[Instr.sliceBound,asIntOf,hn]
  rcases h2 with⟨hc,_⟩ | ⟨Z,k2,rfl,hhv,_⟩
  ·subst hc;simp[Kk] at hhi
  generalize hue:a.eval X=u at hu
  cases hu with
  |slc _ _ _ _ b' e' c' hlt hp' hk=>
   rw[hpl] at hp'
   simp only[Cdt,Cd2] at hp'
   obtain⟨rfl,rfl,rfl⟩:=hp'
   rw[Nat.sub_zero,Nat.zero_mul] at hue
   have b2: (Instr.sliceBound (.int k2 h) c .sliceAcap).run P w= .ok h w:=hbnd _ _ _ _ (by omega)
   have hbs: (Instr.sliceBounds true n c (Lo.map a.eval) (some (a.eval Z)) none).run P w= .ok (l,h,c) w:=by
    rcases l2 with⟨rfl,rfl⟩ | ⟨W,k3,rfl,hlv,_⟩
    ·simp[Instr.sliceBounds,hhv,b2]
    ·have b3: (Instr.sliceBound (.int k3 l) h .sliceB).run P w= .ok l w:=hbnd _ _ _ _ l1
     simp[Instr.sliceBounds,hhv,hlv,b2,b3]
   refine .pure hH (u:= .slice (if c=l then some ⟨b,0,none⟩ else some ⟨b,l*e,none⟩) (h - l) (c - l)) ?_ ?_
   ·simp[execOp,ho,Instr.sliceAt,run_underlying hds,hue,Instr.slice,hbs,Jl hd,Addr.add_lit]
   ·split
    ·rename_i hcl
     have hz:h - l=0:=by omega
     rw[hz]
     by_cases h0:l=0
     ·subst h0
      exact Rz hlt hpl (by omega) (by simp) (by omega)
     ·exact .slc0 _ _ _ _ _ (by omega) hlt
    ·exact Rz hlt hpl (by omega) rfl (by omega)
  |slc0 _ _ _ A cap hi' hlt=>exact absurd hi' (Nat.lt_irrefl 0)
 ·simp at hd
end
section
variable {P:Program} {cl:D6} {G:Gi} {w:World} {pl:Pl} {Bd:Nat→Prop} {H:Hp} {env:Env} {a:Act}
theorem Qk {t:Nat} {fs:Array Field} (h:Kn P t=some fs):P.underlying t=some (.struct fs):=by
 unfold Kn at h
 split at h
 ·rename_i fs' h';simp at h;subst h;exact h'
 ·simp at h
def Baq (P:Program) (s f off:Nat):Bool:=match Kn P s with|some fs=> (match fs[f]? with|some fd=>Nat.beq fd.offset off&& (match P.info? fd.type with|some i=>Nat.ble 1 i.size|none=>false) |none=>false) |none=>false
theorem Z0 {s f off:Nat} (h:Baq P s f off=true) {b o:Nat} : (Instr.fieldAt s (.pointer (some ⟨b,o,none⟩)) f).run P w= .ok (.pointer (some ⟨b,o+off,none⟩)) w:=by
 unfold Baq at h
 split at h
 ·rename_i fs hfs
  split at h
  ·rename_i fd hfd
   simp only[Cdv] at h
   obtain⟨h1,h2⟩:=h
   have h1:=Cd6 h1
   split at h2
   ·rename_i i hi
    have h2:=Nat.le_of_ble_eq_true h2
    have hne: ¬ (i.size=0):=by omega
    simp[Instr.fieldAt,run_underlying (Qk hfs),hfd,Instr.sureAddr,fieldPlace,sizeOf,typeInfo,hi,hne,Addr.add_lit,h1]
   ·simp at h2
  ·simp at h
 ·simp at h
theorem Bqg (hG:GR G w (Bl pl H)) (hH:HR w pl Bd H) (hE:RE w (Bl pl H) pl (Bc H) env a) {o:Oper} {s f:Nat} {X:Operand} (ho:o.op= .fieldAddr s X f) {x:AOpd} (hx:Cb x X=true) {off:Nat} (hc:Baq P s f off=true)
  {r g i j:Nat} (hp:Cw G env x= .ptr r g i j):OpSim P o a w pl Bd H (.ptr r g i (j+off)) H:=by
 have hu:=Cu hx hG hE (by rw[hp];rfl)
 rw[hp] at hu
 generalize hue:a.eval X=u at hu
 cases hu with
 |ptr _ _ _ _ b e c hlt hpl=>
  exact .pure hH (u:= .pointer (some ⟨b,i*e+j+off,none⟩)) (by simp[execOp,ho,hue,Z0 hc]) (Bgr hlt hpl (by omega))
theorem Bl7 (hG:GR G w (Bl pl H)) (hH:HR w pl Bd H) (hE:RE w (Bl pl H) pl (Bc H) env a) {o:Oper} {s f:Nat} {X:Operand} (ho:o.op= .fieldAddr s X f) {x:AOpd} (hx:Cb x X=true) {off:Nat} (hc:Baq P s f off=true)
  {cs:List D} (hp:Cw G env x= .d (.rptr cs)):OpSim P o a w pl Bd H (.d (.rptr (cs.drop off))) H:=by
 have hu:=Cu hx hG hE (by rw[hp];rfl)
 rw[hp] at hu
 have hu:=hu.dd
 generalize hue:a.eval X=u at hu
 cases hu with
 |rptr _ b o2 F hO hb hcell h1 hr=>
  refine .pure hH (u:= .pointer (some ⟨b,o2+off,none⟩)) (by simp[execOp,ho,hue,Z0 hc]) (.d _ _ (.rptr _ b (o2+off) (fun j=>F (off+j)) hO hb (fun j hj=> ?_) (fun j hj=>h1 _ (by simp at hj;omega)) (fun j hj=> ?_)))
  ·have:=hcell (off+j) (by simp at hj;omega)
   rwa[←Nat.add_assoc] at this
  ·have:=hr (off+j) (by simp at hj;omega)
   simpa[Cda] using this
theorem Bt2 {t n off:Nat} {ag:Bool} (hag:R8 P t ag=true) (hsz:Ma P t n=true) {cs:List V} {us:Array Value} {O:Gz} {m:Nat} (hc:RCs w O pl m cs us) (hl:off+n≤cs.length) {v:V} (hv:Lc ag ((cs.drop off).take n)=some v):
  ∃u,(part t us off).run P w= .ok u w∧RV w O pl m v u:=by
 have hs:=hc.size
 cases ag
 ·have hv': ∃v',(cs.drop off).take n=[v']∧v'=v:=by
   match hcs: (cs.drop off).take n,hv with
   | [v'],hv=>exact⟨v',rfl,by simpa[Lc] using hv⟩
   | [],hv=>simp[Lc] at hv
   |_::_::_,hv=>simp[Lc] at hv
  obtain⟨v',hcs,rfl⟩:=hv'
  have hn1:n=1:=by have:=congrArg List.length hcs;simp at this;omega
  subst hn1
  have h0:off<us.size:=by omega
  refine⟨us[off],by simp[part,Qz hag,h0], ?_⟩
  have:=(hc.part hl).rel 0 (by simp;omega)
  rw[hcs] at this
  have h3: (us.extract off (off+1)).getD 0 undef=us[off]:=by rw[Rl (by omega) (by omega)];simp[h0]
  rw[h3] at this
  exact this
 ·simp[Lc] at hv
  subst hv
  refine⟨.agg (us.extract off (off+n)),by simp[part,Qz hag,Jl hsz],(hc.part hl).mkAgg⟩
theorem Bri {O:Gz} {m:Nat} {v:V} {u:Value} (h:RV w O pl m v u) (ha:v.isAgg=true): ∃us,u= .agg us∧RCs w O pl m v.cells us:=by
 have hs:v.sto=true:=by revert ha;cases v<;>simp[V.isAgg,V.sto]
 have hc:=h.cells hs
 cases h with
 |d x u h=>
  cases x<;>first| (simp[V.isAgg] at ha;done) |skip
  cases h with
  |agg _ us=>exact⟨us,rfl,hc⟩
 |agg cs us=>exact⟨us,rfl,hc⟩
 |_=>simp[V.isAgg] at ha
theorem Bqh (hG:GR G w (Bl pl H)) (hH:HR w pl Bd H) (hE:RE w (Bl pl H) pl (Bc H) env a) {o:Oper} {t f:Nat} {X:Operand} (ho:o.op= .field t X f) {x:AOpd} (hx:Cb x X=true) {ag:Bool} {off n:Nat}
  (hc: (match Kn P t with|some fs=> (match fs[f]? with|some fd=>Nat.beq fd.offset off&&Ma P fd.type n&&R8 P fd.type ag|none=>false) |none=>false)=true)
  (hl:off+n≤(Cw G env x).cells.length) (ha: (Cw G env x).isAgg=true) {v:V} (hv:Lc ag (((Cw G env x).cells.drop off).take n)=some v):OpSim P o a w pl Bd H v H:=by
 have hu:=Cu hx hG hE (by revert ha;cases Cw G env x<;>simp[V.isAgg,V.ok])
 obtain⟨us,hue,hcs⟩:=Bri hu ha
 split at hc
 ·rename_i fs hfs
  split at hc
  ·rename_i fd hfd
   simp only[Cdv] at hc
   obtain⟨⟨h1,h2⟩,h3⟩:=hc
   have h1:=Cd6 h1
   obtain⟨u,hrun,hrv⟩:=Bt2 (P:=P) h3 h2 hcs hl hv
   exact .pure hH (u:=u) (by simp[execOp,ho,Instr.field,run_underlying (Qk hfs),hfd,hue,asAgg,h1,hrun]) hrv
  ·simp at hc
 ·simp at hc
theorem Z4 {t e:Nat} (hd:K6 P t e=true) {b off len cap:Nat} {k:IntKind} {i:Int} (h0:0≤i) (h1:i< (len:Int)):
  (Instr.indexAt t (.slice (some ⟨b,off,none⟩) len cap) (.int k i)).run P w= .ok (.pointer (some ⟨b,off+i.toNat*e,none⟩)) w:=by
 unfold K6 at hd
 split at hd
 ·rename_i el hel
  have hds:=Fw hel
  simp[Instr.indexAt,asIntOf,run_underlying hds,h0,h1,Jl hd,Addr.add_lit]
 ·simp at hd
theorem Bl8 (hG:GR G w (Bl pl H)) (hH:HR w pl Bd H) (hE:RE w (Bl pl H) pl (Bc H) env a) {o:Oper} {t:Nat} {X I:Operand} (ho:o.op= .indexAddr t X I) {x i:AOpd} (hx:Cb x X=true) (hi:Cb i I=true) {e:Nat} (hd:K6 P t e=true)
  {k:Int} (hk:asI (Cw G env i)=some k) {xs:List D} (hp:Cw G env x= .d (.vals e xs)) (h0:0≤k) (h1:k< (xs.length:Int)):OpSim P o a w pl Bd H (.d (.rptr (xs.getD k.toNat .nilp).cells)) H:=by
 obtain⟨kk,hke⟩:=W9 hk
 have hu:=Cu hx hG hE (by rw[hp];rfl)
 have hv:=Cu hi hG hE (by rw[hke];rfl)
 rw[hp] at hu
 rw[hke] at hv
 have hie:=hv.dd.int_eq
 have hu:=hu.dd
 generalize hue:a.eval X=u at hu
 cases hu with
 |vals0=>simp at h1;omega
 |vals _ _ b off cap F hcap hO hb he hc h1c hr=>
  have hkl:k.toNat<xs.length:=by omega
  have Bc:=he k.toNat hkl
  refine .pure hH (u:= .pointer (some ⟨b,off+k.toNat*e,none⟩)) (by simp[execOp,ho,hue,hie,Z4 hd h0 h1]) (.d _ _ (.rptr _ b _ (fun j=>F k.toNat j) hO hb (fun j hj=> ?_) (fun j hj=> ?_) (fun j hj=> ?_)))
  ·exact hc _ _ hkl (by omega)
  ·exact h1c _ _ hkl (by omega)
  ·exact hr _ _ hkl (by omega)
theorem Bl9 (hG:GR G w (Bl pl H)) (hH:HR w pl Bd H) (hE:RE w (Bl pl H) pl (Bc H) env a) {o:Oper} {t:Nat} {X I:Operand} (ho:o.op= .indexAddr t X I) {x i:AOpd} (hx:Cb x X=true) (hi:Cb i I=true) {e:Nat} (hd:K6 P t e=true)
  {k:Int} (hk:asI (Cw G env i)=some k) {r g j n:Nat} (hp:Cw G env x= .slc r g j n) (h0:0≤k) (h1:k< (n:Int)) {xs:List V} (hrow:C8 H r g=some (e,xs)):OpSim P o a w pl Bd H (.ptr r g (j+k.toNat) 0) H:=by
 obtain⟨kk,hke⟩:=W9 hk
 have hu:=Cu hx hG hE (by rw[hp];rfl)
 have hv:=Cu hi hG hE (by rw[hke];rfl)
 rw[hp] at hu
 rw[hke] at hv
 have hie:=hv.dd.int_eq
 obtain⟨b,c,arr,ty,fr,hpl,_⟩:=Jb hH hrow
 generalize hue:a.eval X=u at hu
 cases hu with
 |slc _ _ _ _ b' e' c' hlt hp' hkc=>
  rw[hpl] at hp'
  simp only[Cdt,Cd2] at hp'
  obtain⟨rfl,rfl,rfl⟩:=hp'
  exact .pure hH (u:= .pointer (some ⟨b,j*e+k.toNat*e,none⟩)) (by simp[execOp,ho,hue,hie,Z4 hd h0 h1]) (Bgr hlt hpl (by rw[Nat.add_mul];omega))
 |slc0=>omega
theorem Bn9 (vs:List Value): ∀ (cs:Array Value) (off k0:Nat),off+k0+vs.length≤cs.size→
  ((vs.zipIdx k0).foldl (fun (cs:Array Value) (p:Value×Nat)=>cs.setIfInBounds (off+p.2) p.1) cs).size=cs.size∧
  ∀k,((vs.zipIdx k0).foldl (fun (cs:Array Value) (p:Value×Nat)=>cs.setIfInBounds (off+p.2) p.1) cs).getD k undef=if off+k0≤k∧k<off+k0+vs.length then vs.getD (k - (off+k0)) undef else cs.getD k undef:=by
 induction vs with
 |nil=>intro cs off k0 _;exact⟨rfl,fun k=>by rw[if_neg (by simp)];rfl⟩
 |cons v vs ih=>
  intro cs off k0 hl
  simp only[Cdc] at hl
  simp only[List.zipIdx_cons,List.foldl_cons]
  obtain⟨h1,h2⟩:=ih (cs.setIfInBounds (off+k0) v) off (k0+1) (by simp;omega)
  refine⟨by simpa using h1,fun k=> ?_⟩
  rw[h2 k]
  simp only[Cdc]
  by_cases hk:off+(k0+1)≤k∧k<off+(k0+1)+vs.length
  ·rw[if_pos hk,if_pos (by omega)]
   obtain⟨m,rfl⟩: ∃m,k=off+k0+1+m:=⟨k - (off+k0+1),by omega⟩
   rw[show off+k0+1+m - (off+(k0+1))=m by omega,show off+k0+1+m - (off+k0)=m+1 by omega]
   rfl
  ·rw[if_neg hk]
   by_cases h0:k=off+k0
   ·subst h0
    rw[if_pos (by omega)]
    simp[show off+k0<cs.size by omega]
   ·rw[if_neg (by omega)]
    simp only[Cd3]
    rw[Array.getElem?_setIfInBounds_ne (Ne.symm h0)]
theorem Bng (vs:Array Value) (cs:Array Value) (off:Nat):vs.zipIdx.foldl (fun cs (c,j)=>cs.setIfInBounds (off+j) c) cs=(vs.toList.zipIdx 0).foldl (fun (cs:Array Value) (p:Value×Nat)=>cs.setIfInBounds (off+p.2) p.1) cs:=by
 rw[←Array.foldl_toList,Array.toList_zipIdx]
theorem RCs.setAt {O:Gz} {m:Nat} {cs vs:List V} {us uv:Array Value} (hc:RCs w O pl m cs us) (hv:RCs w O pl m vs uv) {off:Nat} (hl:off+vs.length≤cs.length):
  RCs w O pl m (Be6 cs off vs) (uv.zipIdx.foldl (fun cs (c,j)=>cs.setIfInBounds (off+j) c) us):=by
 have h1:=hc.size
 have h2:=hv.size
 rw[Bng]
 obtain⟨h3,h4⟩:=Bn9 uv.toList us off 0 (by simp;omega)
 have hsp:=Pz cs vs off
 refine⟨by rw[h3,Ev.Be6];simp;omega,fun i hi=> ?_,fun i hi=> ?_⟩<;>rw[h4 i]<;>simp only[Nat.add_zero,Array.length_toList,h2]<;>
  have hi':i<cs.length:=by(simp[Ev.Be6] at hi;omega)
 ·rw[Ev.Be6,hsp i hl]
  split
  ·rename_i hk
   have:=hv.rel (i - off) (by omega)
   simpa[Cda,Cd3] using this
  ·exact hc.rel i hi'
 ·split
  ·rename_i hk
   have:=hv.one (i - off) (by omega)
   simpa[Cda,Cd3] using this
  ·exact hc.one i hi'
theorem Bhq {O:Gz} {m:Nat} (hG:GR G w O) (hE:RE w O pl m env a) (hO:O=Bl pl H) {fs:Array Field} {sz:Nat→Nat} : ∀ (qs:List (Nat×Nat×AOpd)) (ps:List (Nat×Operand)) (cs:List V) (us:Array Value) (cs':List V),
  Rx P fs qs ps=true→Qs G env cs qs=some cs'→RCs w O pl m cs us→(∀ (i:Nat) f,fs[i]? =some f→Ma P f.type (sz i)=true)→
  ∃us',Instr.fill (fun i=> (fs[i]?).map fun f=> (f.offset,sz i)) us (ps.map fun (i,x)=> (i,a.eval x))=some us'∧RCs w O pl m cs' us'
 | [],[],cs,us,cs',_,hf,hc,_=>by simp[Qs] at hf;subst hf;exact⟨us,rfl,hc⟩
 | [],_::_,_,_,_,hp,_,_,_=>by simp[Rx] at hp
 |_::_,[],_,_,_,hp,_,_,_=>by simp[Rx] at hp
 | (off,n,x)::qs,(i,y)::ps,cs,us,cs',hp,hf,hc,hs=>by
  simp only[Rx,Cdv] at hp
  obtain⟨⟨h1,h2⟩,h3⟩:=hp
  split at h1
  ·rename_i f hfi
   simp only[Cdv] at h1
   obtain⟨e1,e2⟩:=h1
   have e1:=Cd6 e1
   have hsi:=hs i f hfi
   obtain⟨i1,hi1,hi2⟩:=Ze hsi
   obtain⟨i3,hi3,hi4⟩:=Ze e2
   rw[hi1] at hi3
   simp only[Cdt] at hi3
   subst hi3
   simp only[Qs] at hf
   split at hf
   ·rename_i hcond
    obtain⟨k1,k2,k3⟩:=hcond
    have hv:=(Cu h2 hG hE (Bmd k1)).cells k1
    obtain⟨us',hr1,hr2⟩:=Bhq hG hE hO qs ps (Be6 cs off (Cw G env x).cells) _ cs' h3 hf (hc.setAt hv (by omega)) hs
    refine⟨us', ?_,hr2⟩
    have hvs:=hv.size
    have hcs:=hc.size
    have hcond2: ¬ (((a.eval y).cells.size≠sz i||off+(a.eval y).cells.size>us.size)=true):=by simp;omega
    simp only[Cdd,Instr.fill,hfi,Option.map_some,e1]
    rw[if_neg (by simpa using hcond2)]
    exact hr1
   ·simp at hf
  ·simp at h1
theorem Bqb (hG:GR G w (Bl pl H)) (hH:HR w pl Bd H) (hE:RE w (Bl pl H) pl (Bc H) env a) {o:Oper} {t:Nat} {ps:Array (Nat×Operand)} (ho:o.op= .build t ps) {z:List V} {qs:List (Nat×Nat×AOpd)}
  (hc: (match Kn P t with|some fs=>Rx P fs qs ps.toList&&fs.all (fun f=> (P.info? f.type).isSome) |none=>false)=true) (hz:Nh P t (.agg z)=true) {cs:List V} (hf:Qs G env z qs=some cs):OpSim P o a w pl Bd H (Mw cs) H:=by
 split at hc
 ·rename_i fs hfs
  simp only[Cdv] at hc
  obtain⟨hp,hall⟩:=hc
  obtain⟨iz,u,hi,hu,hcst,_⟩:=M7 hz
  have hzr:=Q5 (w:=w) (O:=Bl pl H) (pl:=pl) (n:=Bc H) hcst
  obtain⟨us,rfl,hzc⟩:=Bri hzr rfl
  have hall': ∀f∈fs,(P.info? f.type).isSome=true:=Array.all_eq_true_iff_forall_mem.1 hall
  let sz:Nat→Nat:=fun i=> ((fs[i]?).bind fun f=> (P.info? f.type).map (·.size)).getD 0
  have hsz: ∀ (i:Nat) f,fs[i]? =some f→Ma P f.type (sz i)=true:=by
   intro i f hfi
   obtain⟨inf,hinf⟩:=Option.isSome_iff_exists.1 (hall' f (Array.mem_of_getElem? hfi))
   simp[Ma,hinf,sz,hfi]
  obtain⟨us',hr1,hr2⟩:=Bhq hG hE rfl qs ps.toList z us cs hp hf hzc hsz
  let sz':Field→Nat:=fun f=> ((P.info? f.type).map (·.size)).getD 0
  have hm: (fs.mapM fun f=>do pure (f.offset,←sizeOf f.type):Sem (Array (Nat×Nat))).run P w= .ok (fs.map fun f=> (f.offset,sz' f)) w:=by
   rw[Array.mapM_eq_mapM_toList]
   have hl: ∀ (l:List Field),(∀f∈l,(P.info? f.type).isSome=true)→(l.mapM fun f=>do pure (f.offset,←sizeOf f.type):Sem (List (Nat×Nat))).run P w= .ok (l.map fun f=> (f.offset,sz' f)) w:=by
    intro l
    induction l with
    |nil=>intro _;rfl
    |cons f l ih=>
     intro h
     obtain⟨inf,hinf⟩:=Option.isSome_iff_exists.1 (h f (by simp))
     have:=ih (fun g hg=>h g (by simp[hg]))
     simp only[List.mapM_cons,Sem.run_bind,sizeOf,typeInfo,run_program,hinf,Result.andThen_ok,Sem.run_pure] at this⊢
     rw[this]
     simp[sz',hinf]
   have:=hl fs.toList (fun f hf=>hall' f (by simpa using hf))
   have h5: (fs.toList.map fun f=> (f.offset,sz' f)).toArray=fs.map fun f=> (f.offset,sz' f):=by apply Array.ext';simp
   rw[←h5,Sem.run_map,this,Result.andThen_ok]
  have hplace: (fun i=> (fs.map fun f=> (f.offset,sz' f))[i]?)=fun i=> (fs[i]?).map fun f=> (f.offset,sz i):=by
   funext i
   rw[Array.getElem?_map]
   cases hfi:fs[i]? with
   |none=>rfl
   |some f=>simp[sz,sz',hfi]
  have hruns: (Instr.build t (ps.map fun (i,x)=> (i,a.eval x))).run P w= .ok (.agg us') w:=by
   have hcells: (Value.agg us).cells=us:=rfl
   simp only[Instr.build,Sem.run_bind,zeroValue,typeInfo,run_program,hi,Result.andThen_ok,Sem.run_pure,hu,run_underlying (Qk hfs),hm,hcells]
   have h4: (ps.map fun (i,x)=> (i,a.eval x)).toList=ps.toList.map fun (i,x)=> (i,a.eval x):=by simp
   rw[h4,hplace,hr1]
   rfl
  exact .pure hH (u:= .agg us') (by simp only[execOp,ho];rw[Sem.run_bind,hruns];rfl) hr2.mkAgg
 ·simp at hc
end
structure Lies (w:World) (O:Gz) (pl:Pl) (n e:Nat) (ys:List V) (A:Option Addr) (news:List Value):Prop where
 len:news.length=ys.length*e
 cell:ys.length=0∨∃b off,A=some ⟨b,off,none⟩∧∀j u,news[j]? =some u→w.cell? ⟨b,off+j,none⟩=some u
 el: ∀i,i<ys.length→(ys.getD i .any).cells.length=e
 rel: ∀i j,i<ys.length→j<e→RV w O pl n ((ys.getD i .any).cells.getD j .any) (news.getD (i*e+j) undef)
 one: ∀i j,i<ys.length→j<e→(news.getD (i*e+j) undef).oneCell'=true
theorem Mt {i j e:Nat} (hj:j<e): (i*e+j) / e=i∧(i*e+j) % e=j:=by
 have he:0<e:=by omega
 rw[Nat.mul_comm]
 constructor
 ·rw[Nat.mul_add_div he,Nat.div_eq_of_lt hj,Nat.add_zero]
 ·rw[Nat.mul_add_mod,Nat.mod_eq_of_lt hj]
theorem Yr {k n e:Nat} (h:k<n*e):k / e<n∧k % e<e∧k / e*e+k % e=k:=by
 have he:0<e:=by
  rcases Nat.eq_zero_or_pos e with h0|h0
  ·subst h0;simp at h
  ·exact h0
 refine⟨(Nat.div_lt_iff_lt_mul he).2 h,Nat.mod_lt _ he, ?_⟩
 rw[Nat.mul_comm];exact Nat.div_add_mod k e
section
variable {P:Program} {cl:D6} {G:Gi} {w:World} {pl:Pl} {Bd:Nat→Prop} {H:Hp} {env:Env} {a:Act}
theorem Dh (ds:List D) (i:Nat) (hi:i<ds.length): (ds.map V.d).getD i .any= .d (ds.getD i .nilp):=by
 simp[Cda,hi]
theorem Lm (x:D): (V.d x).cells=x.cells.map .d:=by
 cases x<;>rfl
theorem Bc7 (hH:HR w pl Bd H) {v:V} {e:Nat} {ys:List V} {Us:Bool} (h:R3 H v=some (e,ys,Us)) {u:Value} (hu:RV w (Bl pl H) pl (Bc H) v u):
  ∃A cap news,u= .slice A ys.length cap∧ys.length≤cap∧Lies w (Bl pl H) pl (Bc H) e ys A news∧(Us=true→∃ds:List D,ys=ds.map .d):=by
 unfold R3 at h
 split at h
 ·rename_i e' xs
  simp only[Cdt,Cd2] at h
  obtain⟨rfl,rfl,rfl⟩:=h
  have hu:=hu.dd
  cases hu with
  |vals0 _ A cap=>exact⟨A,cap,[],by simp,by simp,⟨by simp, .inl (by simp),fun i hi=>by simp at hi,fun i j hi=>by simp at hi,fun i j hi=>by simp at hi⟩,fun _=> ⟨[],rfl⟩⟩
  |vals _ _ b off cap F hcap hO hb he hc h1 hr=>
   have hl: (xs.map V.d).length=xs.length:=by simp
   refine⟨_,cap,(List.range (xs.length*e')).map fun k=>F (k / e') (k % e'),by rw[hl],by rw[hl];exact hcap,⟨by simp, .inr ⟨b,off,rfl,fun j u hj=> ?_⟩,fun i hi=> ?_,fun i j hi hj=> ?_,fun i j hi hj=> ?_⟩,fun _=> ⟨xs,rfl⟩⟩
   ·have hjl:j<xs.length*e':=by
     have:=(List.getElem?_eq_some_iff.1 hj).1
     simpa using this
    obtain⟨d1,d2,d3⟩:=Yr hjl
    simp[List.getElem?_map,List.getElem?_range hjl] at hj
    subst hj
    have:=hc (j / e') (j % e') d1 d2
    rwa[Nat.add_assoc,d3] at this
   ·rw[hl] at hi
    rw[Dh xs i hi,Lm]
    simpa using he i hi
   ·rw[hl] at hi
    have hk:=Du hi hj
    have hcl:=he i hi
    rw[Dh xs i hi,Lm,Dh _ j (by omega)]
    have h3: ((List.range (xs.length*e')).map fun k=>F (k / e') (k % e')).getD (i*e'+j) undef=F i j:=by
     simp[Cda,List.getElem?_range hk,(Mt hj).1,(Mt hj).2]
    rw[h3]
    exact .d _ _ (hr i j hi hj)
   ·rw[hl] at hi
    have hk:=Du hi hj
    have h3: ((List.range (xs.length*e')).map fun k=>F (k / e') (k % e')).getD (i*e'+j) undef=F i j:=by
     simp[Cda,List.getElem?_range hk,(Mt hj).1,(Mt hj).2]
    rw[h3]
    exact h1 i j hi hj
 ·simp only[Cdt,Cd2] at h
  obtain⟨rfl,rfl,rfl⟩:=h
  cases hu with
  |nils _ A=>exact⟨A,0,[],by simp,by simp,⟨by simp, .inl (by simp),fun i hi=>by simp at hi,fun i j hi=>by simp at hi,fun i j hi=>by simp at hi⟩,fun _=> ⟨[],rfl⟩⟩
 ·rename_i r g i n
  split at h
  ·rename_i e' xs hrow
   split at h
   ·rename_i hle
    simp only[Cdt,Cd2] at h
    obtain⟨rfl,rfl,rfl⟩:=h
    obtain⟨b,c,arr,ty,fr,hpl,hh,hsa,hf,hxc,he,hr,h1,hbd⟩:=Jb hH hrow
    have hl: ((xs.drop i).take n).length=n:=by simp;omega
    have hgd: ∀k,k<n→((xs.drop i).take n).getD k .any=xs.getD (i+k) .any:=fun k hk=>Ko xs .any i n k hk
    cases hu with
    |slc _ _ _ _ b' e2 c' hlt hp' hk=>
     rw[hpl] at hp'
     simp only[Cdt,Cd2] at hp'
     obtain⟨rfl,rfl,rfl⟩:=hp'
     have h3: ∀k j,k<n→j<e'→((List.range (n*e')).map fun m=>arr.getD (i*e'+m) undef).getD (k*e'+j) undef=arr.getD ((i+k)*e'+j) undef:=by
      intro k j hk hj
      have:=Du hk hj
      simp[Cda,List.getElem?_range this,Nat.add_mul,Nat.add_assoc]
     refine⟨_,c - i,(List.range (n*e')).map fun m=>arr.getD (i*e'+m) undef,by rw[hl],by rw[hl];omega,⟨by rw[hl];simp, .inr ⟨b,i*e',rfl,fun j u hj=> ?_⟩,fun k hk=> ?_,fun k j hk hj=> ?_,fun k j hk hj=> ?_⟩,fun hd=>by simp at hd⟩
     ·have hjl:j<n*e':=by
       have:=(List.getElem?_eq_some_iff.1 hj).1
       simpa using this
      simp[List.getElem?_map,List.getElem?_range hjl] at hj
      subst hj
      obtain⟨d1,d2,d3⟩:=Yr hjl
      have:=Du (i:=i+j / e') (j:=j % e') (e:=e') (c:=c) (by omega) d2
      rw[Nat.add_mul,Nat.add_assoc,d3] at this
      rw[F4 hh (by omega)]
      simp[Cd3]
     ·rw[hl] at hk;rw[hgd k hk];exact he _ (by omega)
     ·rw[hl] at hk;rw[hgd k hk,h3 k j hk hj];exact hr _ _ (by omega) hj
     ·rw[hl] at hk;rw[h3 k j hk hj];exact h1 _ _ (by omega) hj
    |slc0 _ _ _ A cap hi' hlt=>
     exact⟨A,cap,[],by rw[hl],by rw[hl];omega,⟨by simp, .inl hl,fun k hk=>by simp at hk,fun k j hk=>by simp at hk,fun k j hk=>by simp at hk⟩,fun hd=>by simp at hd⟩
   ·simp at h
  ·simp at h
 ·simp at h
theorem Bqf (hG:GR G w (Bl pl H)) (hH:HR w pl Bd H) (hE:RE w (Bl pl H) pl (Bc H) env a) {o:Oper} {srcT dst:TypeId} {X:Operand} (ho:o.op= .convert srcT dst X) {x:AOpd} (hx:Cb x X=true) (hk: (Cw G env x).ok=true)
  (hd:Fs P dst Pi=true) (hs: (match Gx P srcT with|some e=>Fs P e B05|none=>false)=true) {vs:List V} {Us:Bool} (hsrc:R3 H (Cw G env x)=some (1,vs,Us)) {s:List UInt8} (hst:Z8 vs=some s):OpSim P o a w pl Bd H (.d (.str s)) H:=by
 have hu:=Cu hx hG hE hk
 obtain⟨A,cap,news,hue,hcap,hl,_⟩:=Bc7 hH hsrc hu
 obtain⟨ns,hvs,hss⟩:=Bme hst
 split at hs
 ·rename_i el hel
  have hds:=Fw hel
  obtain⟨de,hde,hke⟩:=Dt hs
  obtain⟨dd,hdd,hkd⟩:=Dt hd
  have hde':P.underlying el=some (.int .u8):=by
   cases de<;>simp[B05] at hke
   rename_i k
   cases k<;>simp at hke
   exact hde
  have hdd':P.underlying dst=some .string:=by cases dd<;>simp[Pi] at hkd;exact hdd
  rcases hl.cell with h0| ⟨b,off,hA,hc⟩
  ·have hns:ns=[]:=by rw[hvs] at h0;simpa using h0
   subst hns
   have hs0:s=[]:=by rw[hss];rfl
   subst hs0
   rw[h0] at hue
   have hrun: (convert srcT dst (.slice A 0 cap)).run P w= .ok (.string ByteArray.empty) w:=by
    cases A with
    |none=>exact run_convert_bytes_nil w srcT el hds hde' 0 cap dst hdd'
    |some ad=>
     rw[run_convert_bytes_string w srcT dst el _ 0 cap hds hde' hdd']
     simp[Conv.bytesToString,loadCells,loadCellsFrom]
   exact .pure hH (u:= .string ByteArray.empty) (by simp only[execOp,ho,hue];rw[Sem.run_bind,hrun];rfl) (.d _ _ (.str _ _ rfl))
  ·subst hA
   have Bc:ns.length=vs.length:=by rw[hvs];simp
   have hrun:=run_convert_bytes_arg (P:=P) w srcT el hds hde' b off vs.length cap ns Bc (fun i hi=>by
    have hr:=hl.rel i 0 hi (by omega)
    have hlc:i<news.length:=by rw[hl.len];omega
    have hci:=hc i _ (Cdh hlc)
    have hin:i<ns.length:=by omega
    have hvi: (vs.getD i .any).cells.getD 0 .any= .d (.int .u8 (ns.getD i 0)):=by
     rw[hvs]
     simp[Cda,hin,V.cells]
    rw[hvi,Nat.mul_one,Nat.add_zero] at hr
    have hni:news.getD i undef=news[i]:=by simp[Cda,hlc]
    rw[hni] at hr
    rw[hci,hr.dd.int_eq]) dst hdd'
   refine .pure hH (u:= .string (strOfNums ns)) (by simp only[execOp,ho,hue];rw[Sem.run_bind,hrun];rfl) (.d _ _ (.str _ _ ?_))
   rw[hss];rfl
 ·simp at hs
theorem Bsi (hH:HR w pl Bd H) {w':World} {ob:Go.Obj} (hw:w'.heap=w.heap.push ob) (hs:Same w w') {v:V} {u:Value} (hv:Ext w (Bl pl H) w' (Bl pl H)→RV w' (Bl pl H) pl (Bc H) v u):Fin w pl Bd H v H u w' pl:=by
 have hget': ∀b,b<w.heap.size→w'.heap[b]? =w.heap[b]? :=fun b hb=>by rw[hw,Array.getElem?_push_lt hb,Cd5 hb]
 have E:Ext w (Bl pl H) w' (Bl pl H):=⟨hs.os,hs.tape,hs.output,by rw[hw];simp,fun b hb hO=> ⟨hget' b hb,hO⟩⟩
 have hor: ∀r o m,Cc H r=some o→OR w (Bl pl H) pl m r o→OR w' (Bl pl H) pl m r o:=by
  intro r o m ho h
  cases h with
  |dead=>exact .dead
  |row g e xs b c arr ty fr hp hh hs hf hx he hr h1 hg=>
   exact .row g e xs b c arr ty fr hp ((hget' b (Cd4.1 hh).1).trans hh) hs hf hx he (fun i j hi hj=> (hr i j hi hj).mono E (PlExt.refl _ _) (Cd7 _)) h1 hg
  |map ks vs b e c es clock hp hh hk hv hrk hrv=>
   exact .map ks vs b e c es clock hp ((hget' b (Cd4.1 hh).1).trans hh) hk hv (fun i hi=> (hrk i hi).mono E (PlExt.refl _ _) (Cd7 _)) (fun i hi=> (hrv i hi).mono E (PlExt.refl _ _) (Cd7 _))
 exact⟨⟨fun r o ho=>hor r o _ ho (hH.obj r o ho),hH.inj,fun m hm r o hlt ho=>hor r o m ho (hH.bd m hm r o hlt ho),hH.le⟩,hv E,E,PlExt.refl _ _,Cd7 _⟩
theorem Bdh (hH:HR w pl Bd H): ¬Bl pl H w.heap.size:=fun h=>by have:=hH.owned_lt h;omega
end
end Go.Ev

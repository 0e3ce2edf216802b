/- Lemmas (several texts in one). -/
import Derived.Test.YtedlandcnpjghaaGreatDoorMRecord24
set_option maxRecDepth 100000
set_option maxHeartbeats 2000000
set_option linter.unusedSimpArgs false
set_option linter.unusedVariables false
namespace Go.Proofs.YtedlandcnpjghaaGreatDoor.Code
open Go Go.Ev Go.Proofs
def U4 (xs:List Bl) (f:Bool) (ts:List Bl):List Bl×Bool:=if Dc xs=true then(if Dc ts=true∧xs.length+ts.length≤16 then(Bif xs f ts,true) else(xs,false)) else([],false)
def Bc4 (xs:List Bl) (f:Bool):List Bl×Bl×Bool:=if Dc xs=true∧0<xs.length then(if f=true then(xs.tail,xs.getD 0 [],true) else(xs.take (xs.length - 1),xs.getD (xs.length - 1) [],true)) else([],[],false)
def Bi7 (xs:List Bl) (k:Int) (t:Bl):List Bl×Bool:=if Dc xs=true then(match Bao xs k t with|some ys=> (ys,true) |none=> (xs,false)) else([],false)
def Bai (xs:List Bl) (c:Int) (t:Bl):List Bl×Int:=if Dc xs=true∧Js c=true then((Y5 xs c t).1,(Y5 xs c t).2) else([],0)
def Wu (xs:List Bl) (f t:Int):List Bl:=if Dc xs=true∧Js f=true∧Js t=true then Te xs f t else[]
def U5 (xs ts:List Bl):List Bl×Int×Bool:=if Gx xs=true then(if Dc ts=true∧(M6 xs ts).length≤16 then(M6 xs ts,(M6 xs ts).length - xs.length,true) else(xs,0,false)) else([],0,false)
def Tq (xs ys:List Bl):List Bl×Int:=if Gx xs=true then(M7 xs ys,xs.length - (M7 xs ys).length) else([],0)
def Btr (xs ys:List Bl):List Bl:=if Gx xs=true∧Gx ys=true then Bsg xs ys else[]
def Bzq (xs ys:List Bl):List Bl:=if Gx xs=true∧Gx ys=true then M6 xs ys else[]
def Btt (xs ys:List Bl):List Bl:=if Gx xs=true∧Gx ys=true then M7 xs ys else[]
def Tt (xs:List Sc) (t:Bl):List Sc×Bool:=if Fe xs=true then(Jf xs t,decide ((Jf xs t).length<xs.length)) else([],false)
def Btx (xs:List Sc) (f t:Int):List Sc:=if Fe xs=true∧Js f=true∧Js t=true then Bcp xs f t else[]
def Tn (xs:List Pr) (t:Bl):List Pr×Bool:=if Fp xs=true then(if Qi xs t=true then Mx xs (Y0 xs t) else xs,Qi xs t) else([],false)
def Tp (xs:List Pr) (t:Bl):Bl×Bool:=if Fp xs=true∧Qi xs t=true then((xs.getD (Y0 xs t) ([],[])).2,true) else([],false)
theorem B22 (xs:List Bl) (f:Bool) (ts:List Bl) (hx:xs.length≤1000000) (ht:ts.length≤1000000):Be (ev R) 89 [.d (Bf xs), .d (.bool f), .d (Bf ts)]=some (.tup [.d (Bf (U4 xs f ts).1), .d (.bool (U4 xs f ts).2)]):=by
 rw[B58 xs f ts hx ht];unfold U4;split<;> (try split)<;>rfl
theorem B23 (xs:List Bl) (f:Bool) (hx:xs.length≤1000000):Be (ev R) 90 [.d (Bf xs), .d (.bool f)]=some (.tup [.d (Bf (Bc4 xs f).1), .d (.str (Bc4 xs f).2.1), .d (.bool (Bc4 xs f).2.2)]):=by
 rw[B59 xs f hx];unfold Bc4;split<;> (try split)<;>rfl
theorem B60 (xs:List Bl) (k:Int) (t:Bl) (hx:xs.length≤1000000) (hk:Bqe k):Be (ev R) 91 [.d (Bf xs), .d (.int .i64 k), .d (.str t)]=some (.tup [.d (Bf (Bi7 xs k t).1), .d (.bool (Bi7 xs k t).2)]):=by
 rw[B6a xs k t hx hk];unfold Bi7;cases Dc xs<;>cases Bao xs k t<;>rfl
theorem B61 (xs:List Bl) (c:Int) (t:Bl) (hx:xs.length≤1000000):Be (ev R) 92 [.d (Bf xs), .d (.int .i64 c), .d (.str t)]=some (.tup [.d (Bf (Bai xs c t).1), .d (.int .i64 (Bai xs c t).2)]):=by
 rw[B6b xs c t hx];unfold Bai;split<;> (try split)<;>rfl
theorem B24 (xs:List Bl) (f t:Int) (hx:xs.length≤1000000):Be (ev R) 93 [.d (Bf xs), .d (.int .i64 f), .d (.int .i64 t)]=some (.d (Bf (Wu xs f t))):=B6c xs f t hx
theorem B62 (xs ts:List Bl) (hx:xs.length≤500000) (ht:ts.length≤500000):Be (ev R) 95 [.d (Bf xs), .d (Bf ts)]=some (.tup [.d (Bf (U5 xs ts).1), .d (.int .i64 (U5 xs ts).2.1), .d (.bool (U5 xs ts).2.2)]):=by
 rw[B6d xs ts hx ht];unfold U5;split<;> (try split)<;>rfl
theorem B63 (xs ys:List Bl) (hx:xs.length≤1000000) (hy:ys.length≤1000000):Be (ev R) 96 [.d (Bf xs), .d (Bf ys)]=some (.tup [.d (Bf (Tq xs ys).1), .d (.int .i64 (Tq xs ys).2)]):=by
 rw[B6e xs ys hx hy];unfold Tq;split<;> (try split)<;>rfl
theorem B64 (xs ys:List Bl) (hx:xs.length≤1000000) (hy:ys.length≤1000000):Be (ev R) 99 [.d (Bf xs), .d (Bf ys)]=some (.d (Bf (Btr xs ys))):=B6f xs ys hx hy
theorem B2x (xs ys:List Bl) (hx:xs.length≤500000) (hy:ys.length≤500000):Be (ev R) 100 [.d (Bf xs), .d (Bf ys)]=some (.d (Bf (Bzq xs ys))):=B2c xs ys hx hy
theorem B2y (xs ys:List Bl) (hx:xs.length≤1000000) (hy:ys.length≤1000000):Be (ev R) 101 [.d (Bf xs), .d (Bf ys)]=some (.d (Bf (Btt xs ys))):=B2d xs ys hx hy
theorem B2z (xs:List Sc) (t:Bl) (hx:xs.length≤1000000):Be (ev R) 102 [.d (Fw xs), .d (.str t)]=some (.tup [.d (Fw (Tt xs t).1), .d (.bool (Tt xs t).2)]):=by
 rw[B2e xs t hx];unfold Tt;split<;> (try split)<;>rfl
theorem B20 (xs:List Sc) (f t:Int) (hx:xs.length≤1000000):Be (ev R) 106 [.d (Fw xs), .d (.int .i64 f), .d (.int .i64 t)]=some (.d (Fw (Btx xs f t))):=B2f xs f t hx
theorem B21 (xs:List Pr) (t:Bl) (hx:xs.length≤1000000):Be (ev R) 109 [.d (Jw xs), .d (.str t)]=some (.tup [.d (Jw (Tn xs t).1), .d (.bool (Tn xs t).2)]):=by
 rw[B2i xs t hx];unfold Tn;split<;> (try split)<;>rfl
theorem Byc (xs:List Pr) (t:Bl) (hx:xs.length≤1000000):Be (ev R) 108 [.d (Jw xs), .d (.str t)]=some (.tup [.d (.str (Tp xs t).1), .d (.bool (Tp xs t).2)]):=by
 rw[B2h xs t hx];unfold Tp;split<;> (try split)<;>rfl
def TxQ (xs:List Bl):Prop:=xs.length≤1000∧∀x∈xs,x.length≤1000000
theorem TxQ.nil:TxQ []:=⟨by simp,by simp⟩
theorem TxQ.of {xs ys:List Bl} (h:TxQ xs) (hl:ys.length≤xs.length) (hm: ∀y∈ys,y∈xs):TxQ ys:=⟨Nat.le_trans hl h.1,fun y hy=>h.2 y (hm y hy)⟩
theorem Bnb (xs:List Bl) (f:Bool) (ts:List Bl) (hx:TxQ xs):TxQ (U4 xs f ts).1:=by
 unfold U4
 split
 ·split
  ·rename_i h1 h2
   refine⟨?_,fun x hm=> ?_⟩
   ·cases f<;>simp[Bif]<;>omega
   ·have:x∈xs∨x∈ts:=by
     cases f<;>simp[Bif] at hm
     ·exact hm
     ·exact hm.symm
    rcases this with h|h
    ·have:=Nr h1 x h;omega
    ·have:=Nr h2.1 x h;omega
  ·exact hx
 ·exact TxQ.nil
theorem Btu (xs:List Bl) (f:Bool) (hx:TxQ xs):TxQ (Bc4 xs f).1:=by
 unfold Bc4
 split
 ·split
  ·exact hx.of (by simp) fun y hy=>List.mem_of_mem_tail hy
  ·exact hx.of (by simp) fun y hy=>List.mem_of_mem_take hy
 ·exact TxQ.nil
theorem Bzr (xs:List Bl) (k:Int) (t:Bl) (hx:TxQ xs):TxQ (Bi7 xs k t).1:=by
 unfold Bi7
 split
 ·split
  ·rename_i ys hy
   unfold Bao at hy
   split at hy
   ·rename_i h
    simp only[Option.some.injEq] at hy
    subst hy
    refine⟨by rw[List.length_set];exact hx.1,fun y hy=> ?_⟩
    rcases List.mem_or_eq_of_mem_set hy with h1|h1
    ·exact hx.2 y h1
    ·subst h1;have:=h.2.1;omega
   ·simp at hy
  ·exact hx
 ·exact TxQ.nil
theorem Zm (xs:List Bl) (t:Bl) (c m:Int): (J4 xs t c m).1.length≤xs.length∧∀y∈(J4 xs t c m).1,y∈xs:=by
 unfold J4
 have key: ∀ (n i:Nat) (s:List Bl×Nat),i+n=xs.length→s.1.length≤i→(∀y∈s.1,y∈xs)→((List.range' i n).foldl (fun s i=>K6 xs t c m i s) s).1.length≤xs.length∧∀y∈((List.range' i n).foldl (fun s i=>K6 xs t c m i s) s).1,y∈xs:=by
  intro n
  induction n with
  |zero=>intro i s h1 h2 h3;exact⟨by simp only[List.range'_zero,List.foldl_nil];omega,h3⟩
  |succ n ih=>
   intro i s h1 h2 h3
   rw[List.range'_succ,List.foldl_cons]
   refine ih (i+1) _ (by omega) ?_ ?_
   ·unfold K6
    split
    ·dsimp only;omega
    ·dsimp only;rw[List.length_append];simp;omega
   ·unfold K6
    split
    ·exact h3
    ·intro y hy
     simp only[List.mem_append,List.mem_singleton] at hy
     rcases hy with hy|rfl
     ·exact h3 y hy
     ·exact Mm (by omega)
 exact key xs.length 0 ([],0) (by omega) (by simp) (by simp)
theorem Bv2 (xs:List Bl) (c:Int) (t:Bl) (hx:TxQ xs):TxQ (Bai xs c t).1:=by
 unfold Bai
 split
 ·unfold Y5
  split
  ·have:=Zm xs.reverse t c (-c)
   refine hx.of ?_ fun y hy=> ?_
   ·simpa using this.1
   ·have:=this.2 y (by simpa using hy)
    simpa using this
  ·have:=Zm xs t c c
   exact hx.of this.1 this.2
 ·exact TxQ.nil
theorem Btv (xs:List Bl) (f t:Int) (hx:TxQ xs):TxQ (Wu xs f t):=by
 unfold Wu
 split
 ·unfold Te
  refine hx.of ?_ fun y hy=> ?_
  ·rw[List.length_drop,List.length_take];omega
  ·exact List.mem_of_mem_take (List.mem_of_mem_drop hy)
 ·exact TxQ.nil
theorem Bsj {xs:List Bl} {t y:Bl} (h:y∈Bde xs t):y=t∨y∈xs:=by
 unfold Bde at h
 split at h
 ·exact .inr h
 ·exact Bd9 h
theorem Bh9: ∀ {ts xs:List Bl} {y:Bl},y∈M6 xs ts→y∈xs∨y∈ts
 | [],xs,y,h=> .inl h
 |t::ts,xs,y,h=>by
  have h:y∈M6 (Bde xs t) ts:=h
  rcases Bh9 h with h1|h1
  ·rcases Bsj h1 with rfl|h2
   ·exact .inr (by simp)
   ·exact .inl h2
  ·exact .inr (by simp[h1])
theorem Bv3 (xs ts:List Bl) (hx:TxQ xs):TxQ (U5 xs ts).1:=by
 unfold U5
 split
 ·split
  ·rename_i h1 h2
   refine⟨by dsimp only;omega,fun y hy=> ?_⟩
   rcases Bh9 hy with h|h
   ·exact hx.2 y h
   ·have:=Nr h2.1 y h;omega
  ·exact hx
 ·exact TxQ.nil
theorem Btw (xs ys:List Bl) (hx:TxQ xs):TxQ (Tq xs ys).1:=by
 unfold Tq
 split
 ·exact hx.of (List.length_filter_le _ _) fun y hy=> (List.mem_filter.1 hy).1
 ·exact TxQ.nil
def ScQ (xs:List Sc):Prop:=xs.length≤1000∧∀x∈xs,x.1.length≤1000000∧ -2000000000≤x.2∧x.2≤2000000000
theorem ScQ.nil:ScQ []:=⟨by simp,by simp⟩
theorem ScQ.of {xs ys:List Sc} (h:ScQ xs) (hl:ys.length≤xs.length) (hm: ∀y∈ys,y∈xs):ScQ ys:=⟨Nat.le_trans hl h.1,fun y hy=>h.2 y (hm y hy)⟩
theorem Bnc (xs:List Sc) (x:Sc) (hx:ScQ xs):ScQ (Na xs x).1:=by
 unfold Na
 split
 ·split
  ·rename_i h1 h2
   have:=Bcx h2
   exact⟨by dsimp only;omega,fun y hy=>by have:=this.2 y hy;omega⟩
  ·exact hx
 ·exact ScQ.nil
theorem Bty (xs:List Sc) (t:Bl) (hx:ScQ xs):ScQ (Tt xs t).1:=by
 unfold Tt
 split
 ·exact hx.of (List.length_filter_le _ _) fun y hy=> (List.mem_filter.1 hy).1
 ·exact ScQ.nil
theorem Bzs (xs:List Sc) (f t:Int) (hx:ScQ xs):ScQ (Btx xs f t):=by
 unfold Btx
 split
 ·unfold Bcp
  refine hx.of ?_ fun y hy=> ?_
  ·rw[List.length_drop,List.length_take];omega
  ·exact List.mem_of_mem_take (List.mem_of_mem_drop hy)
 ·exact ScQ.nil
theorem B2q (xs:List Sc) (f t:Int) (hx:ScQ xs):ScQ (rBy xs f t):=by
 unfold rBy
 split
 ·exact hx.of (List.length_filter_le _ _) fun y hy=> (List.mem_filter.1 hy).1
 ·exact ScQ.nil
def PrQ (xs:List Pr):Prop:=xs.length≤1000∧∀x∈xs,x.1.length≤1000000∧x.2.length≤1000000
theorem PrQ.nil:PrQ []:=⟨by simp,by simp⟩
theorem PrQ.of {xs ys:List Pr} (h:PrQ xs) (hl:ys.length≤xs.length) (hm: ∀y∈ys,y∈xs):PrQ ys:=⟨Nat.le_trans hl h.1,fun y hy=>h.2 y (hm y hy)⟩
theorem Bna (xs:List Pr) (x:Pr) (hx:PrQ xs):PrQ (M9 xs x).1:=by
 unfold M9
 split
 ·split
  ·rename_i h1 h2
   have:=Bbt h2
   exact⟨by dsimp only;omega,fun y hy=>by have:=this.2 y hy;omega⟩
  ·exact hx
 ·exact PrQ.nil
theorem Bnp {α:Type} {xs:List α} {k:Nat} {y:α} (h:y∈Mx xs k):y∈xs:=by
 unfold Mx at h
 rw[List.mem_append] at h
 rcases h with h|h
 ·exact List.mem_of_mem_take h
 ·exact List.mem_of_mem_drop h
theorem Bqw {α:Type} (xs:List α) (k:Nat): (Mx xs k).length≤xs.length:=by
 unfold Mx
 rw[List.length_append,List.length_take,List.length_drop];omega
theorem Bts (xs:List Pr) (t:Bl) (hx:PrQ xs):PrQ (Tn xs t).1:=by
 unfold Tn
 split
 ·dsimp only
  split
  ·exact hx.of (Bqw _ _) fun y hy=>Bnp hy
  ·exact hx
 ·exact PrQ.nil
end Go.Proofs.YtedlandcnpjghaaGreatDoor.Code

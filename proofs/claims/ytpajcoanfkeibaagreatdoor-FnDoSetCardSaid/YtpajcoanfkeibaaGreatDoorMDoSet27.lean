/- Lemmas (several texts in one). -/
import Derived.Test.YtpajcoanfkeibaaGreatDoorMDoSet20
set_option maxRecDepth 100000
set_option maxHeartbeats 2000000
set_option linter.unusedSimpArgs false
set_option linter.unusedVariables false
namespace Go.Proofs.YtpajcoanfkeibaaGreatDoor.Code
open Go Go.Ev Go.Proofs
def U6 (xs:List Bq) (f:Bool) (ts:List Bq):List Bq×Bool:=if Ci xs=true then(if Ci ts=true∧xs.length+ts.length≤16 then(Bii xs f ts,true) else(xs,false)) else([],false)
def Bc5 (xs:List Bq) (f:Bool):List Bq×Bq×Bool:=if Ci xs=true∧0<xs.length then(if f=true then(xs.tail,xs.getD 0 [],true) else(xs.take (xs.length - 1),xs.getD (xs.length - 1) [],true)) else([],[],false)
def Bja (xs:List Bq) (k:Int) (t:Bq):List Bq×Bool:=if Ci xs=true then(match Bag xs k t with|some ys=> (ys,true) |none=> (xs,false)) else([],false)
def Z7 (xs:List Bq) (c:Int) (t:Bq):List Bq×Int:=if Ci xs=true∧Kc c=true then((Y3 xs c t).1,(Y3 xs c t).2) else([],0)
def Wv (xs:List Bq) (f t:Int):List Bq:=if Ci xs=true∧Kc f=true∧Kc t=true then Tn xs f t else[]
def U7 (xs ts:List Bq):List Bq×Int×Bool:=if Gn xs=true then(if Ci ts=true∧(Na xs ts).length≤16 then(Na xs ts,(Na xs ts).length - xs.length,true) else(xs,0,false)) else([],0,false)
def Ua (xs ys:List Bq):List Bq×Int:=if Gn xs=true then(Nb xs ys,xs.length - (Nb xs ys).length) else([],0)
def Btw (xs ys:List Bq):List Bq:=if Gn xs=true∧Gn ys=true then Bsy xs ys else[]
def B07 (xs ys:List Bq):List Bq:=if Gn xs=true∧Gn ys=true then Na xs ys else[]
def Bty (xs ys:List Bq):List Bq:=if Gn xs=true∧Gn ys=true then Nb xs ys else[]
def Ub (xs:List Sc) (t:Bq):List Sc×Bool:=if Dr xs=true then(Ju xs t,decide ((Ju xs t).length<xs.length)) else([],false)
def Bt2 (xs:List Sc) (f t:Int):List Sc:=if Dr xs=true∧Kc f=true∧Kc t=true then Bco xs f t else[]
def Tz (xs:List Pr) (t:Bq):List Pr×Bool:=if Du xs=true then(if Qu xs t=true then Gx xs (Yx xs t) else xs,Qu xs t) else([],false)
def T9 (xs:List Pr) (t:Bq):Bq×Bool:=if Du xs=true∧Qu xs t=true then((xs.getD (Yx xs t) ([],[])).2,true) else([],false)
theorem Bzn (xs:List Bq) (f:Bool) (ts:List Bq) (hx:xs.length≤1000000) (ht:ts.length≤1000000):Bc (ev R) 206 [.d (Bf xs), .d (.bool f), .d (Bf ts)]=some (.tup [.d (Bf (U6 xs f ts).1), .d (.bool (U6 xs f ts).2)]):=by
 rw[B5z xs f ts hx ht];unfold U6;split<;> (try split)<;>rfl
theorem Bzo (xs:List Bq) (f:Bool) (hx:xs.length≤1000000):Bc (ev R) 207 [.d (Bf xs), .d (.bool f)]=some (.tup [.d (Bf (Bc5 xs f).1), .d (.str (Bc5 xs f).2.1), .d (.bool (Bc5 xs f).2.2)]):=by
 rw[B50 xs f hx];unfold Bc5;split<;> (try split)<;>rfl
theorem B6y (xs:List Bq) (k:Int) (t:Bq) (hx:xs.length≤1000000) (hk:Bq1 k):Bc (ev R) 208 [.d (Bf xs), .d (.int .i64 k), .d (.str t)]=some (.tup [.d (Bf (Bja xs k t).1), .d (.bool (Bja xs k t).2)]):=by
 rw[B51 xs k t hx hk];unfold Bja;cases Ci xs<;>cases Bag xs k t<;>rfl
theorem B6z (xs:List Bq) (c:Int) (t:Bq) (hx:xs.length≤1000000):Bc (ev R) 209 [.d (Bf xs), .d (.int .i64 c), .d (.str t)]=some (.tup [.d (Bf (Z7 xs c t).1), .d (.int .i64 (Z7 xs c t).2)]):=by
 rw[B52 xs c t hx];unfold Z7;split<;> (try split)<;>rfl
theorem Bzp (xs:List Bq) (f t:Int) (hx:xs.length≤1000000):Bc (ev R) 210 [.d (Bf xs), .d (.int .i64 f), .d (.int .i64 t)]=some (.d (Bf (Wv xs f t))):=B53 xs f t hx
theorem B60 (xs ts:List Bq) (hx:xs.length≤500000) (ht:ts.length≤500000):Bc (ev R) 212 [.d (Bf xs), .d (Bf ts)]=some (.tup [.d (Bf (U7 xs ts).1), .d (.int .i64 (U7 xs ts).2.1), .d (.bool (U7 xs ts).2.2)]):=by
 rw[B54 xs ts hx ht];unfold U7;split<;> (try split)<;>rfl
theorem B61 (xs ys:List Bq) (hx:xs.length≤1000000) (hy:ys.length≤1000000):Bc (ev R) 213 [.d (Bf xs), .d (Bf ys)]=some (.tup [.d (Bf (Ua xs ys).1), .d (.int .i64 (Ua xs ys).2)]):=by
 rw[B55 xs ys hx hy];unfold Ua;split<;> (try split)<;>rfl
theorem B62 (xs ys:List Bq) (hx:xs.length≤1000000) (hy:ys.length≤1000000):Bc (ev R) 216 [.d (Bf xs), .d (Bf ys)]=some (.d (Bf (Btw xs ys))):=B56 xs ys hx hy
theorem B63 (xs ys:List Bq) (hx:xs.length≤500000) (hy:ys.length≤500000):Bc (ev R) 217 [.d (Bf xs), .d (Bf ys)]=some (.d (Bf (B07 xs ys))):=B57 xs ys hx hy
theorem B64 (xs ys:List Bq) (hx:xs.length≤1000000) (hy:ys.length≤1000000):Bc (ev R) 218 [.d (Bf xs), .d (Bf ys)]=some (.d (Bf (Bty xs ys))):=B58 xs ys hx hy
theorem B65 (xs:List Sc) (t:Bq) (hx:xs.length≤1000000):Bc (ev R) 219 [.d (Dj xs), .d (.str t)]=some (.tup [.d (Dj (Ub xs t).1), .d (.bool (Ub xs t).2)]):=by
 rw[B59 xs t hx];unfold Ub;split<;> (try split)<;>rfl
theorem B66 (xs:List Sc) (f t:Int) (hx:xs.length≤1000000):Bc (ev R) 223 [.d (Dj xs), .d (.int .i64 f), .d (.int .i64 t)]=some (.d (Dj (Bt2 xs f t))):=B6a xs f t hx
theorem B67 (xs:List Pr) (t:Bq) (hx:xs.length≤1000000):Bc (ev R) 226 [.d (Fw xs), .d (.str t)]=some (.tup [.d (Fw (Tz xs t).1), .d (.bool (Tz xs t).2)]):=by
 rw[B6d xs t hx];unfold Tz;split<;> (try split)<;>rfl
theorem Bzq (xs:List Pr) (t:Bq) (hx:xs.length≤1000000):Bc (ev R) 225 [.d (Fw xs), .d (.str t)]=some (.tup [.d (.str (T9 xs t).1), .d (.bool (T9 xs t).2)]):=by
 rw[B6c xs t hx];unfold T9;split<;> (try split)<;>rfl
def TxQ (xs:List Bq):Prop:=xs.length≤1000∧∀x∈xs,x.length≤1000000
theorem TxQ.nil:TxQ []:=⟨by simp,by simp⟩
theorem TxQ.of {xs ys:List Bq} (h:TxQ xs) (hl:ys.length≤xs.length) (hm: ∀y∈ys,y∈xs):TxQ ys:=⟨Nat.le_trans hl h.1,fun y hy=>h.2 y (hm y hy)⟩
theorem Bn5 (xs:List Bq) (f:Bool) (ts:List Bq) (hx:TxQ xs):TxQ (U6 xs f ts).1:=by
 unfold U6
 split
 ·split
  ·rename_i h1 h2
   refine⟨?_,fun x hm=> ?_⟩
   ·cases f<;>simp[Bii]<;>omega
   ·have:x∈xs∨x∈ts:=by
     cases f<;>simp[Bii] at hm
     ·exact hm
     ·exact hm.symm
    rcases this with h|h
    ·have:=Pd h1 x h;omega
    ·have:=Pd h2.1 x h;omega
  ·exact hx
 ·exact TxQ.nil
theorem Btz (xs:List Bq) (f:Bool) (hx:TxQ xs):TxQ (Bc5 xs f).1:=by
 unfold Bc5
 split
 ·split
  ·exact hx.of (by simp) fun y hy=>List.mem_of_mem_tail hy
  ·exact hx.of (by simp) fun y hy=>List.mem_of_mem_take hy
 ·exact TxQ.nil
theorem B08 (xs:List Bq) (k:Int) (t:Bq) (hx:TxQ xs):TxQ (Bja xs k t).1:=by
 unfold Bja
 split
 ·split
  ·rename_i ys hy
   unfold Bag at hy
   split at hy
   ·rename_i h
    simp only[Option.some.injEq] at hy
    subst hy
    refine⟨by rw[List.length_set];exact hx.1,fun y hy=> ?_⟩
    rcases List.mem_or_eq_of_mem_set hy with h1|h1
    ·exact hx.2 y h1
    ·subst h1;have:=h.2.1;omega
   ·simp at hy
  ·exact hx
 ·exact TxQ.nil
theorem Zj (xs:List Bq) (t:Bq) (c m:Int): (Kj xs t c m).1.length≤xs.length∧∀y∈(Kj xs t c m).1,y∈xs:=by
 unfold Kj
 have key: ∀ (n i:Nat) (s:List Bq×Nat),i+n=xs.length→s.1.length≤i→(∀y∈s.1,y∈xs)→((List.range' i n).foldl (fun s i=>Lh xs t c m i s) s).1.length≤xs.length∧∀y∈((List.range' i n).foldl (fun s i=>Lh xs t c m i s) s).1,y∈xs:=by
  intro n
  induction n with
  |zero=>intro i s h1 h2 h3;exact⟨by simp only[List.range'_zero,List.foldl_nil];omega,h3⟩
  |succ n ih=>
   intro i s h1 h2 h3
   rw[List.range'_succ,List.foldl_cons]
   refine ih (i+1) _ (by omega) ?_ ?_
   ·unfold Lh
    split
    ·dsimp only;omega
    ·dsimp only;rw[List.length_append];simp;omega
   ·unfold Lh
    split
    ·exact h3
    ·intro y hy
     simp only[List.mem_append,List.mem_singleton] at hy
     rcases hy with hy|rfl
     ·exact h3 y hy
     ·exact Jp (by omega)
 exact key xs.length 0 ([],0) (by omega) (by simp) (by simp)
theorem Bx2 (xs:List Bq) (c:Int) (t:Bq) (hx:TxQ xs):TxQ (Z7 xs c t).1:=by
 unfold Z7
 split
 ·unfold Y3
  split
  ·have:=Zj xs.reverse t c (-c)
   refine hx.of ?_ fun y hy=> ?_
   ·simpa using this.1
   ·have:=this.2 y (by simpa using hy)
    simpa using this
  ·have:=Zj xs t c c
   exact hx.of this.1 this.2
 ·exact TxQ.nil
theorem Bt0 (xs:List Bq) (f t:Int) (hx:TxQ xs):TxQ (Wv xs f t):=by
 unfold Wv
 split
 ·unfold Tn
  refine hx.of ?_ fun y hy=> ?_
  ·rw[List.length_drop,List.length_take];omega
  ·exact List.mem_of_mem_take (List.mem_of_mem_drop hy)
 ·exact TxQ.nil
theorem Bs1 {xs:List Bq} {t y:Bq} (h:y∈Bdh xs t):y=t∨y∈xs:=by
 unfold Bdh at h
 split at h
 ·exact .inr h
 ·exact Bd7 h
theorem Bid: ∀ {ts xs:List Bq} {y:Bq},y∈Na xs ts→y∈xs∨y∈ts
 | [],xs,y,h=> .inl h
 |t::ts,xs,y,h=>by
  have h:y∈Na (Bdh xs t) ts:=h
  rcases Bid h with h1|h1
  ·rcases Bs1 h1 with rfl|h2
   ·exact .inr (by simp)
   ·exact .inl h2
  ·exact .inr (by simp[h1])
theorem Bx3 (xs ts:List Bq) (hx:TxQ xs):TxQ (U7 xs ts).1:=by
 unfold U7
 split
 ·split
  ·rename_i h1 h2
   refine⟨by dsimp only;omega,fun y hy=> ?_⟩
   rcases Bid hy with h|h
   ·exact hx.2 y h
   ·have:=Pd h2.1 y h;omega
  ·exact hx
 ·exact TxQ.nil
theorem Bt1 (xs ys:List Bq) (hx:TxQ xs):TxQ (Ua xs ys).1:=by
 unfold Ua
 split
 ·exact hx.of (List.length_filter_le _ _) fun y hy=> (List.mem_filter.1 hy).1
 ·exact TxQ.nil
def ScQ (xs:List Sc):Prop:=xs.length≤1000∧∀x∈xs,x.1.length≤1000000∧ -2000000000≤x.2∧x.2≤2000000000
theorem ScQ.nil:ScQ []:=⟨by simp,by simp⟩
theorem ScQ.of {xs ys:List Sc} (h:ScQ xs) (hl:ys.length≤xs.length) (hm: ∀y∈ys,y∈xs):ScQ ys:=⟨Nat.le_trans hl h.1,fun y hy=>h.2 y (hm y hy)⟩
theorem Bn6 (xs:List Sc) (x:Sc) (hx:ScQ xs):ScQ (Nh xs x).1:=by
 unfold Nh
 split
 ·split
  ·rename_i h1 h2
   have:=Bcy h2
   exact⟨by dsimp only;omega,fun y hy=>by have:=this.2 y hy;omega⟩
  ·exact hx
 ·exact ScQ.nil
theorem Bt3 (xs:List Sc) (t:Bq) (hx:ScQ xs):ScQ (Ub xs t).1:=by
 unfold Ub
 split
 ·exact hx.of (List.length_filter_le _ _) fun y hy=> (List.mem_filter.1 hy).1
 ·exact ScQ.nil
theorem B09 (xs:List Sc) (f t:Int) (hx:ScQ xs):ScQ (Bt2 xs f t):=by
 unfold Bt2
 split
 ·unfold Bco
  refine hx.of ?_ fun y hy=> ?_
  ·rw[List.length_drop,List.length_take];omega
  ·exact List.mem_of_mem_take (List.mem_of_mem_drop hy)
 ·exact ScQ.nil
theorem B6p (xs:List Sc) (f t:Int) (hx:ScQ xs):ScQ (rBy xs f t):=by
 unfold rBy
 split
 ·exact hx.of (List.length_filter_le _ _) fun y hy=> (List.mem_filter.1 hy).1
 ·exact ScQ.nil
def PrQ (xs:List Pr):Prop:=xs.length≤1000∧∀x∈xs,x.1.length≤1000000∧x.2.length≤1000000
theorem PrQ.nil:PrQ []:=⟨by simp,by simp⟩
theorem PrQ.of {xs ys:List Pr} (h:PrQ xs) (hl:ys.length≤xs.length) (hm: ∀y∈ys,y∈xs):PrQ ys:=⟨Nat.le_trans hl h.1,fun y hy=>h.2 y (hm y hy)⟩
theorem Bn4 (xs:List Pr) (x:Pr) (hx:PrQ xs):PrQ (Ng xs x).1:=by
 unfold Ng
 split
 ·split
  ·rename_i h1 h2
   have:=Bbm h2
   exact⟨by dsimp only;omega,fun y hy=>by have:=this.2 y hy;omega⟩
  ·exact hx
 ·exact PrQ.nil
theorem Boh {α:Type} {xs:List α} {k:Nat} {y:α} (h:y∈Gx xs k):y∈xs:=by
 unfold Gx at h
 rw[List.mem_append] at h
 rcases h with h|h
 ·exact List.mem_of_mem_take h
 ·exact List.mem_of_mem_drop h
theorem Brq {α:Type} (xs:List α) (k:Nat): (Gx xs k).length≤xs.length:=by
 unfold Gx
 rw[List.length_append,List.length_take,List.length_drop];omega
theorem Btx (xs:List Pr) (t:Bq) (hx:PrQ xs):PrQ (Tz xs t).1:=by
 unfold Tz
 split
 ·dsimp only
  split
  ·exact hx.of (Brq _ _) fun y hy=>Boh hy
  ·exact hx
 ·exact PrQ.nil
end Go.Proofs.YtpajcoanfkeibaaGreatDoor.Code

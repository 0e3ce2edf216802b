/- Lemmas (several texts in one). -/
import Derived.Test.YtpajcoanfkeibaaGreatDoorMDoKind20
set_option maxRecDepth 100000
set_option maxHeartbeats 2000000
set_option linter.unusedSimpArgs false
set_option linter.unusedVariables false
open List renaming length_append → Cdi, mem_append → Cdq, length_take → Cdn
namespace Go.Proofs.YtpajcoanfkeibaaGreatDoor.Code
open Go Go.Ev Go.Proofs
def U3 (xs:List Br) (f:Bool) (ts:List Br):List Br×Bool:=if Ch xs=true then(if Ch ts=true∧xs.length+ts.length≤16 then(Biv xs f ts,true) else(xs,false)) else([],false)
def Bda (xs:List Br) (f:Bool):List Br×Br×Bool:=if Ch xs=true∧0<xs.length then(if f=true then(xs.tail,xs.getD 0 [],true) else(xs.take (xs.length - 1),xs.getD (xs.length - 1) [],true)) else([],[],false)
def Bjl (xs:List Br) (k:Int) (t:Br):List Br×Bool:=if Ch xs=true then(match Bal xs k t with|some ys=> (ys,true) |none=> (xs,false)) else([],false)
def Baa (xs:List Br) (c:Int) (t:Br):List Br×Int:=if Ch xs=true∧Ju c=true then((Y5 xs c t).1,(Y5 xs c t).2) else([],0)
def Wu (xs:List Br) (f t:Int):List Br:=if Ch xs=true∧Ju f=true∧Ju t=true then Tj xs f t else[]
def U4 (xs ts:List Br):List Br×Int×Bool:=if Gg xs=true then(if Ch ts=true∧(Mx xs ts).length≤16 then(Mx xs ts,(Mx xs ts).length - xs.length,true) else(xs,0,false)) else([],0,false)
def Tw (xs ys:List Br):List Br×Int:=if Gg xs=true then(M0 xs ys,xs.length - (M0 xs ys).length) else([],0)
def Bul (xs ys:List Br):List Br:=if Gg xs=true∧Gg ys=true then Bth xs ys else[]
def B1q (xs ys:List Br):List Br:=if Gg xs=true∧Gg ys=true then Mx xs ys else[]
def Bun (xs ys:List Br):List Br:=if Gg xs=true∧Gg ys=true then M0 xs ys else[]
def Tx (xs:List Sc) (t:Br):List Sc×Bool:=if Dj xs=true then(Ji xs t,decide ((Ji xs t).length<xs.length)) else([],false)
def Bur (xs:List Sc) (f t:Int):List Sc:=if Dj xs=true∧Ju f=true∧Ju t=true then Bcr xs f t else[]
def Tu (xs:List Pr) (t:Br):List Pr×Bool:=if Dm xs=true then(if Qj xs t=true then Ka xs (Yy xs t) else xs,Qj xs t) else([],false)
def Tv (xs:List Pr) (t:Br):Br×Bool:=if Dm xs=true∧Qj xs t=true then((xs.getD (Yy xs t) ([],[])).2,true) else([],false)
theorem B0d (xs:List Br) (f:Bool) (ts:List Br) (hx:xs.length≤1000000) (ht:ts.length≤1000000):Be (ev R) 206 [.d (Bf xs), .d (.bool f), .d (Bf ts)]=some (.tup [.d (Bf (U3 xs f ts).1), .d (.bool (U3 xs f ts).2)]):=by
 rw[B6j xs f ts hx ht];unfold U3;split<;> (try split)<;>rfl
theorem B0e (xs:List Br) (f:Bool) (hx:xs.length≤1000000):Be (ev R) 207 [.d (Bf xs), .d (.bool f)]=some (.tup [.d (Bf (Bda xs f).1), .d (.str (Bda xs f).2.1), .d (.bool (Bda xs f).2.2)]):=by
 rw[B6k xs f hx];unfold Bda;split<;> (try split)<;>rfl
theorem B7k (xs:List Br) (k:Int) (t:Br) (hx:xs.length≤1000000) (hk:Bre k):Be (ev R) 208 [.d (Bf xs), .d (.int .i64 k), .d (.str t)]=some (.tup [.d (Bf (Bjl xs k t).1), .d (.bool (Bjl xs k t).2)]):=by
 rw[B6l xs k t hx hk];unfold Bjl;cases Ch xs<;>cases Bal xs k t<;>rfl
theorem B7l (xs:List Br) (c:Int) (t:Br) (hx:xs.length≤1000000):Be (ev R) 209 [.d (Bf xs), .d (.int .i64 c), .d (.str t)]=some (.tup [.d (Bf (Baa xs c t).1), .d (.int .i64 (Baa xs c t).2)]):=by
 rw[B6m xs c t hx];unfold Baa;split<;> (try split)<;>rfl
theorem B0f (xs:List Br) (f t:Int) (hx:xs.length≤1000000):Be (ev R) 210 [.d (Bf xs), .d (.int .i64 f), .d (.int .i64 t)]=some (.d (Bf (Wu xs f t))):=B6n xs f t hx
theorem B7m (xs ts:List Br) (hx:xs.length≤500000) (ht:ts.length≤500000):Be (ev R) 212 [.d (Bf xs), .d (Bf ts)]=some (.tup [.d (Bf (U4 xs ts).1), .d (.int .i64 (U4 xs ts).2.1), .d (.bool (U4 xs ts).2.2)]):=by
 rw[B6o xs ts hx ht];unfold U4;split<;> (try split)<;>rfl
theorem B7n (xs ys:List Br) (hx:xs.length≤1000000) (hy:ys.length≤1000000):Be (ev R) 213 [.d (Bf xs), .d (Bf ys)]=some (.tup [.d (Bf (Tw xs ys).1), .d (.int .i64 (Tw xs ys).2)]):=by
 rw[B6p xs ys hx hy];unfold Tw;split<;> (try split)<;>rfl
theorem B7o (xs ys:List Br) (hx:xs.length≤1000000) (hy:ys.length≤1000000):Be (ev R) 216 [.d (Bf xs), .d (Bf ys)]=some (.d (Bf (Bul xs ys))):=B6q xs ys hx hy
theorem B7p (xs ys:List Br) (hx:xs.length≤500000) (hy:ys.length≤500000):Be (ev R) 217 [.d (Bf xs), .d (Bf ys)]=some (.d (Bf (B1q xs ys))):=B6r xs ys hx hy
theorem B7q (xs ys:List Br) (hx:xs.length≤1000000) (hy:ys.length≤1000000):Be (ev R) 218 [.d (Bf xs), .d (Bf ys)]=some (.d (Bf (Bun xs ys))):=B6s xs ys hx hy
theorem B7r (xs:List Sc) (t:Br) (hx:xs.length≤1000000):Be (ev R) 219 [.d (De xs), .d (.str t)]=some (.tup [.d (De (Tx xs t).1), .d (.bool (Tx xs t).2)]):=by
 rw[B6t xs t hx];unfold Tx;split<;> (try split)<;>rfl
theorem B7s (xs:List Sc) (f t:Int) (hx:xs.length≤1000000):Be (ev R) 223 [.d (De xs), .d (.int .i64 f), .d (.int .i64 t)]=some (.d (De (Bur xs f t))):=B6u xs f t hx
theorem B7t (xs:List Pr) (t:Br) (hx:xs.length≤1000000):Be (ev R) 226 [.d (D7 xs), .d (.str t)]=some (.tup [.d (D7 (Tu xs t).1), .d (.bool (Tu xs t).2)]):=by
 rw[B6x xs t hx];unfold Tu;split<;> (try split)<;>rfl
theorem B0g (xs:List Pr) (t:Br) (hx:xs.length≤1000000):Be (ev R) 225 [.d (D7 xs), .d (.str t)]=some (.tup [.d (.str (Tv xs t).1), .d (.bool (Tv xs t).2)]):=by
 rw[B6w xs t hx];unfold Tv;split<;> (try split)<;>rfl
def TxQ (xs:List Br):Prop:=xs.length≤1000∧∀x∈xs,x.length≤1000000
theorem TxQ.nil:TxQ []:=⟨by simp,by simp⟩
theorem TxQ.of {xs ys:List Br} (h:TxQ xs) (hl:ys.length≤xs.length) (hm: ∀y∈ys,y∈xs):TxQ ys:=⟨Nat.le_trans hl h.1,fun y hy=>h.2 y (hm y hy)⟩
theorem Bof (xs:List Br) (f:Bool) (ts:List Br) (hx:TxQ xs):TxQ (U3 xs f ts).1:=by
 unfold U3
 split
 ·split
  ·rename_i h1 h2
   refine⟨?_,fun x hm=> ?_⟩
   ·cases f<;>simp[Biv]<;>omega
   ·have:x∈xs∨x∈ts:=by
     cases f<;>simp[Biv] at hm
     ·exact hm
     ·exact hm.symm
    rcases this with h|h
    ·have:=Nr h1 x h;omega
    ·have:=Nr h2.1 x h;omega
  ·exact hx
 ·exact TxQ.nil
theorem Buo (xs:List Br) (f:Bool) (hx:TxQ xs):TxQ (Bda xs f).1:=by
 unfold Bda
 split
 ·split
  ·exact hx.of (by simp) fun y hy=>List.mem_of_mem_tail hy
  ·exact hx.of (by simp) fun y hy=>List.mem_of_mem_take hy
 ·exact TxQ.nil
theorem B1r (xs:List Br) (k:Int) (t:Br) (hx:TxQ xs):TxQ (Bjl xs k t).1:=by
 unfold Bjl
 split
 ·split
  ·rename_i ys hy
   unfold Bal at hy
   split at hy
   ·rename_i h
    simp only[Option.some.injEq] at hy
    subst hy
    refine⟨by rw[List.length_set];exact hx.1,fun y hy=> ?_⟩
    rcases List.mem_or_eq_of_mem_set hy with h1|h1
    ·exact hx.2 y h1
    ·subst h1;have:=h.2.1;omega
   ·simp at hy
  ·exact hx
 ·exact TxQ.nil
theorem Zk (xs:List Br) (t:Br) (c m:Int): (J4 xs t c m).1.length≤xs.length∧∀y∈(J4 xs t c m).1,y∈xs:=by
 unfold J4
 have key: ∀ (n i:Nat) (s:List Br×Nat),i+n=xs.length→s.1.length≤i→(∀y∈s.1,y∈xs)→((List.range' i n).foldl (fun s i=>K9 xs t c m i s) s).1.length≤xs.length∧∀y∈((List.range' i n).foldl (fun s i=>K9 xs t c m i s) s).1,y∈xs:=by
  intro n
  induction n with
  |zero=>intro i s h1 h2 h3;exact⟨by simp only[List.range'_zero,List.foldl_nil];omega,h3⟩
  |succ n ih=>
   intro i s h1 h2 h3
   rw[List.range'_succ,List.foldl_cons]
   refine ih (i+1) _ (by omega) ?_ ?_
   ·unfold K9
    split
    ·dsimp only;omega
    ·dsimp only;rw[Cdi];simp;omega
   ·unfold K9
    split
    ·exact h3
    ·intro y hy
     simp only[Cdq,List.mem_singleton] at hy
     rcases hy with hy|rfl
     ·exact h3 y hy
     ·exact Jc (by omega)
 exact key xs.length 0 ([],0) (by omega) (by simp) (by simp)
theorem Byo (xs:List Br) (c:Int) (t:Br) (hx:TxQ xs):TxQ (Baa xs c t).1:=by
 unfold Baa
 split
 ·unfold Y5
  split
  ·have:=Zk xs.reverse t c (-c)
   refine hx.of ?_ fun y hy=> ?_
   ·simpa using this.1
   ·have:=this.2 y (by simpa using hy)
    simpa using this
  ·have:=Zk xs t c c
   exact hx.of this.1 this.2
 ·exact TxQ.nil
theorem Bup (xs:List Br) (f t:Int) (hx:TxQ xs):TxQ (Wu xs f t):=by
 unfold Wu
 split
 ·unfold Tj
  refine hx.of ?_ fun y hy=> ?_
  ·rw[List.length_drop,Cdn];omega
  ·exact List.mem_of_mem_take (List.mem_of_mem_drop hy)
 ·exact TxQ.nil
theorem Btl {xs:List Br} {t y:Br} (h:y∈Bdo xs t):y=t∨y∈xs:=by
 unfold Bdo at h
 split at h
 ·exact .inr h
 ·exact Beh h
theorem Biq: ∀ {ts xs:List Br} {y:Br},y∈Mx xs ts→y∈xs∨y∈ts
 | [],xs,y,h=> .inl h
 |t::ts,xs,y,h=>by
  have h:y∈Mx (Bdo xs t) ts:=h
  rcases Biq h with h1|h1
  ·rcases Btl h1 with rfl|h2
   ·exact .inr (by simp)
   ·exact .inl h2
  ·exact .inr (by simp[h1])
theorem Byp (xs ts:List Br) (hx:TxQ xs):TxQ (U4 xs ts).1:=by
 unfold U4
 split
 ·split
  ·rename_i h1 h2
   refine⟨by dsimp only;omega,fun y hy=> ?_⟩
   rcases Biq hy with h|h
   ·exact hx.2 y h
   ·have:=Nr h2.1 y h;omega
  ·exact hx
 ·exact TxQ.nil
theorem Buq (xs ys:List Br) (hx:TxQ xs):TxQ (Tw xs ys).1:=by
 unfold Tw
 split
 ·exact hx.of (List.length_filter_le _ _) fun y hy=> (List.mem_filter.1 hy).1
 ·exact TxQ.nil
def ScQ (xs:List Sc):Prop:=xs.length≤1000∧∀x∈xs,x.1.length≤1000000∧ -2000000000≤x.2∧x.2≤2000000000
theorem ScQ.nil:ScQ []:=⟨by simp,by simp⟩
theorem ScQ.of {xs ys:List Sc} (h:ScQ xs) (hl:ys.length≤xs.length) (hm: ∀y∈ys,y∈xs):ScQ ys:=⟨Nat.le_trans hl h.1,fun y hy=>h.2 y (hm y hy)⟩
theorem Bog (xs:List Sc) (x:Sc) (hx:ScQ xs):ScQ (M5 xs x).1:=by
 unfold M5
 split
 ·split
  ·rename_i h1 h2
   have:=Bc1 h2
   exact⟨by dsimp only;omega,fun y hy=>by have:=this.2 y hy;omega⟩
  ·exact hx
 ·exact ScQ.nil
theorem Bus (xs:List Sc) (t:Br) (hx:ScQ xs):ScQ (Tx xs t).1:=by
 unfold Tx
 split
 ·exact hx.of (List.length_filter_le _ _) fun y hy=> (List.mem_filter.1 hy).1
 ·exact ScQ.nil
theorem B1s (xs:List Sc) (f t:Int) (hx:ScQ xs):ScQ (Bur xs f t):=by
 unfold Bur
 split
 ·unfold Bcr
  refine hx.of ?_ fun y hy=> ?_
  ·rw[List.length_drop,Cdn];omega
  ·exact List.mem_of_mem_take (List.mem_of_mem_drop hy)
 ·exact ScQ.nil
theorem B7a (xs:List Sc) (f t:Int) (hx:ScQ xs):ScQ (rBy xs f t):=by
 unfold rBy
 split
 ·exact hx.of (List.length_filter_le _ _) fun y hy=> (List.mem_filter.1 hy).1
 ·exact ScQ.nil
def PrQ (xs:List Pr):Prop:=xs.length≤1000∧∀x∈xs,x.1.length≤1000000∧x.2.length≤1000000
theorem PrQ.nil:PrQ []:=⟨by simp,by simp⟩
theorem PrQ.of {xs ys:List Pr} (h:PrQ xs) (hl:ys.length≤xs.length) (hm: ∀y∈ys,y∈xs):PrQ ys:=⟨Nat.le_trans hl h.1,fun y hy=>h.2 y (hm y hy)⟩
theorem Boe (xs:List Pr) (x:Pr) (hx:PrQ xs):PrQ (M4 xs x).1:=by
 unfold M4
 split
 ·split
  ·rename_i h1 h2
   have:=Bbq h2
   exact⟨by dsimp only;omega,fun y hy=>by have:=this.2 y hy;omega⟩
  ·exact hx
 ·exact PrQ.nil
theorem Bor {α:Type} {xs:List α} {k:Nat} {y:α} (h:y∈Ka xs k):y∈xs:=by
 unfold Ka at h
 rw[Cdq] at h
 rcases h with h|h
 ·exact List.mem_of_mem_take h
 ·exact List.mem_of_mem_drop h
theorem Br1 {α:Type} (xs:List α) (k:Nat): (Ka xs k).length≤xs.length:=by
 unfold Ka
 rw[Cdi,Cdn,List.length_drop];omega
theorem Bum (xs:List Pr) (t:Br) (hx:PrQ xs):PrQ (Tu xs t).1:=by
 unfold Tu
 split
 ·dsimp only
  split
  ·exact hx.of (Br1 _ _) fun y hy=>Bor hy
  ·exact hx
 ·exact PrQ.nil
end Go.Proofs.YtpajcoanfkeibaaGreatDoor.Code

/- Lemmas (several texts in one). -/
import Derived.Test.YtpajcoanfkeibaaGreatDoorMDoRename20
set_option maxRecDepth 100000
set_option maxHeartbeats 2000000
set_option linter.unusedSimpArgs false
set_option linter.unusedVariables false
namespace Go.Proofs.YtpajcoanfkeibaaGreatDoor.Code
open Go Go.Ev Go.Proofs
def U0 (xs:List Bq) (f:Bool) (ts:List Bq):List Bq×Bool:=if Cj xs=true then(if Cj ts=true∧xs.length+ts.length≤16 then(Bh2 xs f ts,true) else(xs,false)) else([],false)
def Bcv (xs:List Bq) (f:Bool):List Bq×Bq×Bool:=if Cj xs=true∧0<xs.length then(if f=true then(xs.tail,xs.getD 0 [],true) else(xs.take (xs.length - 1),xs.getD (xs.length - 1) [],true)) else([],[],false)
def Bit (xs:List Bq) (k:Int) (t:Bq):List Bq×Bool:=if Cj xs=true then(match Baa xs k t with|some ys=> (ys,true) |none=> (xs,false)) else([],false)
def Zx (xs:List Bq) (c:Int) (t:Bq):List Bq×Int:=if Cj xs=true∧Jw c=true then((Yy xs c t).1,(Yy xs c t).2) else([],0)
def Wo (xs:List Bq) (f t:Int):List Bq:=if Cj xs=true∧Jw f=true∧Jw t=true then Td xs f t else[]
def U1 (xs ts:List Bq):List Bq×Int×Bool:=if Gl xs=true then(if Cj ts=true∧(Mt xs ts).length≤16 then(Mt xs ts,(Mt xs ts).length - xs.length,true) else(xs,0,false)) else([],0,false)
def Tp (xs ys:List Bq):List Bq×Int:=if Gl xs=true then(Mw xs ys,xs.length - (Mw xs ys).length) else([],0)
def Bti (xs ys:List Bq):List Bq:=if Gl xs=true∧Gl ys=true then Bsf xs ys else[]
def B0a (xs ys:List Bq):List Bq:=if Gl xs=true∧Gl ys=true then Mt xs ys else[]
def Btk (xs ys:List Bq):List Bq:=if Gl xs=true∧Gl ys=true then Mw xs ys else[]
def Tq (xs:List Sc) (t:Bq):List Sc×Bool:=if Di xs=true then(Jl xs t,decide ((Jl xs t).length<xs.length)) else([],false)
def Bto (xs:List Sc) (f t:Int):List Sc:=if Di xs=true∧Jw f=true∧Jw t=true then Bce xs f t else[]
def Tm (xs:List Pr) (t:Bq):List Pr×Bool:=if Dl xs=true then(if Qk xs t=true then Gw xs (Yq xs t) else xs,Qk xs t) else([],false)
def Tn (xs:List Pr) (t:Bq):Bq×Bool:=if Dl xs=true∧Qk xs t=true then((xs.getD (Yq xs t) ([],[])).2,true) else([],false)
theorem By2 (xs:List Bq) (f:Bool) (ts:List Bq) (hx:xs.length≤1000000) (ht:ts.length≤1000000):Be (ev R) 206 [.d (Bf xs), .d (.bool f), .d (Bf ts)]=some (.tup [.d (Bf (U0 xs f ts).1), .d (.bool (U0 xs f ts).2)]):=by
 rw[B4q xs f ts hx ht];unfold U0;split<;> (try split)<;>rfl
theorem By3 (xs:List Bq) (f:Bool) (hx:xs.length≤1000000):Be (ev R) 207 [.d (Bf xs), .d (.bool f)]=some (.tup [.d (Bf (Bcv xs f).1), .d (.str (Bcv xs f).2.1), .d (.bool (Bcv xs f).2.2)]):=by
 rw[B4r xs f hx];unfold Bcv;split<;> (try split)<;>rfl
theorem B5n (xs:List Bq) (k:Int) (t:Bq) (hx:xs.length≤1000000) (hk:Bqn k):Be (ev R) 208 [.d (Bf xs), .d (.int .i64 k), .d (.str t)]=some (.tup [.d (Bf (Bit xs k t).1), .d (.bool (Bit xs k t).2)]):=by
 rw[B4s xs k t hx hk];unfold Bit;cases Cj xs<;>cases Baa xs k t<;>rfl
theorem B5o (xs:List Bq) (c:Int) (t:Bq) (hx:xs.length≤1000000):Be (ev R) 209 [.d (Bf xs), .d (.int .i64 c), .d (.str t)]=some (.tup [.d (Bf (Zx xs c t).1), .d (.int .i64 (Zx xs c t).2)]):=by
 rw[B4t xs c t hx];unfold Zx;split<;> (try split)<;>rfl
theorem By4 (xs:List Bq) (f t:Int) (hx:xs.length≤1000000):Be (ev R) 210 [.d (Bf xs), .d (.int .i64 f), .d (.int .i64 t)]=some (.d (Bf (Wo xs f t))):=B4u xs f t hx
theorem B5p (xs ts:List Bq) (hx:xs.length≤500000) (ht:ts.length≤500000):Be (ev R) 212 [.d (Bf xs), .d (Bf ts)]=some (.tup [.d (Bf (U1 xs ts).1), .d (.int .i64 (U1 xs ts).2.1), .d (.bool (U1 xs ts).2.2)]):=by
 rw[B4v xs ts hx ht];unfold U1;split<;> (try split)<;>rfl
theorem B5q (xs ys:List Bq) (hx:xs.length≤1000000) (hy:ys.length≤1000000):Be (ev R) 213 [.d (Bf xs), .d (Bf ys)]=some (.tup [.d (Bf (Tp xs ys).1), .d (.int .i64 (Tp xs ys).2)]):=by
 rw[B4w xs ys hx hy];unfold Tp;split<;> (try split)<;>rfl
theorem B5r (xs ys:List Bq) (hx:xs.length≤1000000) (hy:ys.length≤1000000):Be (ev R) 216 [.d (Bf xs), .d (Bf ys)]=some (.d (Bf (Bti xs ys))):=B4x xs ys hx hy
theorem B5s (xs ys:List Bq) (hx:xs.length≤500000) (hy:ys.length≤500000):Be (ev R) 217 [.d (Bf xs), .d (Bf ys)]=some (.d (Bf (B0a xs ys))):=B4y xs ys hx hy
theorem B5t (xs ys:List Bq) (hx:xs.length≤1000000) (hy:ys.length≤1000000):Be (ev R) 218 [.d (Bf xs), .d (Bf ys)]=some (.d (Bf (Btk xs ys))):=B4z xs ys hx hy
theorem B5u (xs:List Sc) (t:Bq) (hx:xs.length≤1000000):Be (ev R) 219 [.d (De xs), .d (.str t)]=some (.tup [.d (De (Tq xs t).1), .d (.bool (Tq xs t).2)]):=by
 rw[B40 xs t hx];unfold Tq;split<;> (try split)<;>rfl
theorem B5v (xs:List Sc) (f t:Int) (hx:xs.length≤1000000):Be (ev R) 223 [.d (De xs), .d (.int .i64 f), .d (.int .i64 t)]=some (.d (De (Bto xs f t))):=B41 xs f t hx
theorem B5w (xs:List Pr) (t:Bq) (hx:xs.length≤1000000):Be (ev R) 226 [.d (Ff xs), .d (.str t)]=some (.tup [.d (Ff (Tm xs t).1), .d (.bool (Tm xs t).2)]):=by
 rw[B44 xs t hx];unfold Tm;split<;> (try split)<;>rfl
theorem By5 (xs:List Pr) (t:Bq) (hx:xs.length≤1000000):Be (ev R) 225 [.d (Ff xs), .d (.str t)]=some (.tup [.d (.str (Tn xs t).1), .d (.bool (Tn xs t).2)]):=by
 rw[B43 xs t hx];unfold Tn;split<;> (try split)<;>rfl
def TxQ (xs:List Bq):Prop:=xs.length≤1000∧∀x∈xs,x.length≤1000000
theorem TxQ.nil:TxQ []:=⟨by simp,by simp⟩
theorem TxQ.of {xs ys:List Bq} (h:TxQ xs) (hl:ys.length≤xs.length) (hm: ∀y∈ys,y∈xs):TxQ ys:=⟨Nat.le_trans hl h.1,fun y hy=>h.2 y (hm y hy)⟩
theorem Bno (xs:List Bq) (f:Bool) (ts:List Bq) (hx:TxQ xs):TxQ (U0 xs f ts).1:=by
 unfold U0
 split
 ·split
  ·rename_i h1 h2
   refine⟨?_,fun x hm=> ?_⟩
   ·cases f<;>simp[Bh2]<;>omega
   ·have:x∈xs∨x∈ts:=by
     cases f<;>simp[Bh2] at hm
     ·exact hm
     ·exact hm.symm
    rcases this with h|h
    ·have:=Ny h1 x h;omega
    ·have:=Ny h2.1 x h;omega
  ·exact hx
 ·exact TxQ.nil
theorem Btl (xs:List Bq) (f:Bool) (hx:TxQ xs):TxQ (Bcv xs f).1:=by
 unfold Bcv
 split
 ·split
  ·exact hx.of (by simp) fun y hy=>List.mem_of_mem_tail hy
  ·exact hx.of (by simp) fun y hy=>List.mem_of_mem_take hy
 ·exact TxQ.nil
theorem B0b (xs:List Bq) (k:Int) (t:Bq) (hx:TxQ xs):TxQ (Bit xs k t).1:=by
 unfold Bit
 split
 ·split
  ·rename_i ys hy
   unfold Baa at hy
   split at hy
   ·rename_i h
    simp only[Option.some.injEq] at hy
    subst hy
    refine⟨by rw[List.length_set];exact hx.1,fun y hy=> ?_⟩
    rcases List.mem_or_eq_of_mem_set hy with h1|h1
    ·exact hx.2 y h1
    ·subst h1;have:=h.2.1;omega
   ·simp at hy
  ·exact hx
 ·exact TxQ.nil
theorem Ze (xs:List Bq) (t:Bq) (c m:Int): (J6 xs t c m).1.length≤xs.length∧∀y∈(J6 xs t c m).1,y∈xs:=by
 unfold J6
 have key: ∀ (n i:Nat) (s:List Bq×Nat),i+n=xs.length→s.1.length≤i→(∀y∈s.1,y∈xs)→((List.range' i n).foldl (fun s i=>K7 xs t c m i s) s).1.length≤xs.length∧∀y∈((List.range' i n).foldl (fun s i=>K7 xs t c m i s) s).1,y∈xs:=by
  intro n
  induction n with
  |zero=>intro i s h1 h2 h3;exact⟨by simp only[List.range'_zero,List.foldl_nil];omega,h3⟩
  |succ n ih=>
   intro i s h1 h2 h3
   rw[List.range'_succ,List.foldl_cons]
   refine ih (i+1) _ (by omega) ?_ ?_
   ·unfold K7
    split
    ·dsimp only;omega
    ·dsimp only;rw[List.length_append];simp;omega
   ·unfold K7
    split
    ·exact h3
    ·intro y hy
     simp only[List.mem_append,List.mem_singleton] at hy
     rcases hy with hy|rfl
     ·exact h3 y hy
     ·exact Gr (by omega)
 exact key xs.length 0 ([],0) (by omega) (by simp) (by simp)
theorem Bxh (xs:List Bq) (c:Int) (t:Bq) (hx:TxQ xs):TxQ (Zx xs c t).1:=by
 unfold Zx
 split
 ·unfold Yy
  split
  ·have:=Ze xs.reverse t c (-c)
   refine hx.of ?_ fun y hy=> ?_
   ·simpa using this.1
   ·have:=this.2 y (by simpa using hy)
    simpa using this
  ·have:=Ze xs t c c
   exact hx.of this.1 this.2
 ·exact TxQ.nil
theorem Btm (xs:List Bq) (f t:Int) (hx:TxQ xs):TxQ (Wo xs f t):=by
 unfold Wo
 split
 ·unfold Td
  refine hx.of ?_ fun y hy=> ?_
  ·rw[List.length_drop,List.length_take];omega
  ·exact List.mem_of_mem_take (List.mem_of_mem_drop hy)
 ·exact TxQ.nil
theorem Bsi {xs:List Bq} {t y:Bq} (h:y∈Bc6 xs t):y=t∨y∈xs:=by
 unfold Bc6 at h
 split at h
 ·exact .inr h
 ·exact Bdu h
theorem Bhy: ∀ {ts xs:List Bq} {y:Bq},y∈Mt xs ts→y∈xs∨y∈ts
 | [],xs,y,h=> .inl h
 |t::ts,xs,y,h=>by
  have h:y∈Mt (Bc6 xs t) ts:=h
  rcases Bhy h with h1|h1
  ·rcases Bsi h1 with rfl|h2
   ·exact .inr (by simp)
   ·exact .inl h2
  ·exact .inr (by simp[h1])
theorem Bxi (xs ts:List Bq) (hx:TxQ xs):TxQ (U1 xs ts).1:=by
 unfold U1
 split
 ·split
  ·rename_i h1 h2
   refine⟨by dsimp only;omega,fun y hy=> ?_⟩
   rcases Bhy hy with h|h
   ·exact hx.2 y h
   ·have:=Ny h2.1 y h;omega
  ·exact hx
 ·exact TxQ.nil
theorem Btn (xs ys:List Bq) (hx:TxQ xs):TxQ (Tp xs ys).1:=by
 unfold Tp
 split
 ·exact hx.of (List.length_filter_le _ _) fun y hy=> (List.mem_filter.1 hy).1
 ·exact TxQ.nil
def ScQ (xs:List Sc):Prop:=xs.length≤1000∧∀x∈xs,x.1.length≤1000000∧ -2000000000≤x.2∧x.2≤2000000000
theorem ScQ.nil:ScQ []:=⟨by simp,by simp⟩
theorem ScQ.of {xs ys:List Sc} (h:ScQ xs) (hl:ys.length≤xs.length) (hm: ∀y∈ys,y∈xs):ScQ ys:=⟨Nat.le_trans hl h.1,fun y hy=>h.2 y (hm y hy)⟩
theorem Bnp (xs:List Sc) (x:Sc) (hx:ScQ xs):ScQ (M3 xs x).1:=by
 unfold M3
 split
 ·split
  ·rename_i h1 h2
   have:=Bco h2
   exact⟨by dsimp only;omega,fun y hy=>by have:=this.2 y hy;omega⟩
  ·exact hx
 ·exact ScQ.nil
theorem Btp (xs:List Sc) (t:Bq) (hx:ScQ xs):ScQ (Tq xs t).1:=by
 unfold Tq
 split
 ·exact hx.of (List.length_filter_le _ _) fun y hy=> (List.mem_filter.1 hy).1
 ·exact ScQ.nil
theorem B0c (xs:List Sc) (f t:Int) (hx:ScQ xs):ScQ (Bto xs f t):=by
 unfold Bto
 split
 ·unfold Bce
  refine hx.of ?_ fun y hy=> ?_
  ·rw[List.length_drop,List.length_take];omega
  ·exact List.mem_of_mem_take (List.mem_of_mem_drop hy)
 ·exact ScQ.nil
theorem B5e (xs:List Sc) (f t:Int) (hx:ScQ xs):ScQ (rBy xs f t):=by
 unfold rBy
 split
 ·exact hx.of (List.length_filter_le _ _) fun y hy=> (List.mem_filter.1 hy).1
 ·exact ScQ.nil
def PrQ (xs:List Pr):Prop:=xs.length≤1000∧∀x∈xs,x.1.length≤1000000∧x.2.length≤1000000
theorem PrQ.nil:PrQ []:=⟨by simp,by simp⟩
theorem PrQ.of {xs ys:List Pr} (h:PrQ xs) (hl:ys.length≤xs.length) (hm: ∀y∈ys,y∈xs):PrQ ys:=⟨Nat.le_trans hl h.1,fun y hy=>h.2 y (hm y hy)⟩
theorem Bnn (xs:List Pr) (x:Pr) (hx:PrQ xs):PrQ (M0 xs x).1:=by
 unfold M0
 split
 ·split
  ·rename_i h1 h2
   have:=Bbe h2
   exact⟨by dsimp only;omega,fun y hy=>by have:=this.2 y hy;omega⟩
  ·exact hx
 ·exact PrQ.nil
theorem Bn2 {α:Type} {xs:List α} {k:Nat} {y:α} (h:y∈Gw xs k):y∈xs:=by
 unfold Gw at h
 rw[List.mem_append] at h
 rcases h with h|h
 ·exact List.mem_of_mem_take h
 ·exact List.mem_of_mem_drop h
theorem Brb {α:Type} (xs:List α) (k:Nat): (Gw xs k).length≤xs.length:=by
 unfold Gw
 rw[List.length_append,List.length_take,List.length_drop];omega
theorem Btj (xs:List Pr) (t:Bq) (hx:PrQ xs):PrQ (Tm xs t).1:=by
 unfold Tm
 split
 ·dsimp only
  split
  ·exact hx.of (Brb _ _) fun y hy=>Bn2 hy
  ·exact hx
 ·exact PrQ.nil
end Go.Proofs.YtpajcoanfkeibaaGreatDoor.Code

/- Lemmas (several texts in one). -/
import Derived.Test.YtpajcoanfkeibaaGreatDoorMDoRename6
import Derived.Test.YtpajcoanfkeibaaGreatDoorMDoRename11
import Derived.Test.YtpajcoanfkeibaaGreatDoorMDoRename12
import Derived.Test.YtpajcoanfkeibaaGreatDoorMDoRename13
import Derived.Test.YtpajcoanfkeibaaGreatDoorMDoRename15
set_option maxRecDepth 100000
set_option linter.unusedSimpArgs false
set_option linter.unusedVariables false
namespace Go.Proofs.YtpajcoanfkeibaaGreatDoor.Code
open Go Go.Ev Go.Proofs
def Bsf (xs ys:List Bq):List Bq:=xs.filter fun s=>decide (s∈ys)
theorem B4x (xs ys:List Bq) (hx:xs.length≤1000000) (hy:ys.length≤1000000):Be (ev R) 216 [.d (Bf xs), .d (Bf ys)]=
  some (.d (Bf (if Gl xs=true∧Gl ys=true then Bsf xs ys else[]))):=Bb fun H=>by
 refine Bh (fn:=f216) rfl rfl ?_
 have p1:=Bhv xs (by omega)
 have p3:=Bhv ys (by omega)
 by_cases hs:Gl xs=true∧Gl ys=true
 ·rw[if_pos hs]
  obtain⟨h1,h2⟩:=hs
  rw[h1] at p1
  rw[h2] at p3
  obtain⟨o,e',X',he,rfl,rfl,g5⟩:=(C8 (F:=Bp (ev R) R.glob (Bc H) Bg Qg) (lv:=[0,1,5,6]) xs.length
   (fun i e X=> ∃zs,zs=(xs.take i).filter (fun s=>decide (s∈ys))∧X=ap H [.row zs.length 1 ((zs.map D.str).map V.d)]∧e.get 0= .d (Bf xs)∧e.get 1= .d (Bf ys)∧e.get 5= .slc (Bc H) zs.length 0 zs.length∧e.get 6= .d (.int .i64 i))
   (fun o e X=>o= .exit 0∧X=ap H [.row (xs.filter (fun s=>decide (s∈ys))).length 1 (((xs.filter (fun s=>decide (s∈ys))).map D.str).map V.d)]∧e.get 5= .slc (Bc H) (xs.filter (fun s=>decide (s∈ys))).length 0 (xs.filter (fun s=>decide (s∈ys))).length)
   (by
    rintro e X ⟨zs,rfl,rfl,g0,g1,g5,g6⟩
    rw[List.take_length] at*
    simp[Ci,-List.getD_eq_getElem?_getD,-List.map_map,Qg,g0,g1,g5,g6,p1,p3,Bf])
   (by
    rintro i e X hi ⟨zs,hz,rfl,g0,g1,g5,g6⟩
    have c: (i:Int)< (xs.length:Int):=by omega
    have g:=Dj xs i hi
    have w1:IntKind.i64.wrap ((i:Int)+1)=((i+1:Nat):Int):=by rw[IntWalk.i64_in _ (by omega)];rfl
    have hf:=Pq (fun s=>decide (s∈ys)) xs i [] hi
    have hl:=Tx (fun s=>decide (s∈ys)) xs i hi
    rw[←hz] at hf hl
    have p2:=Bhu ys (xs.getD i []) (by omega)
    have r: (zs.length+1)*16≤Cq:=by unfold Cq;omega
    by_cases h:xs.getD i []∈ys
    ·simp only[decide_eq_true h,Bool.not_true,if_true] at hf
     rw[decide_eq_true h] at p2
     simp[Ci,-List.getD_eq_getElem?_getD,-List.map_map,Qg,g0,g1,g5,g6,p1,p3,c,g,hi,w1,hf,r,p2,p1,p3,Bf]
    ·simp only[decide_eq_false h,Bool.not_false,Bool.false_eq_true,if_false,List.append_nil] at hf
     rw[decide_eq_false h] at p2
     simp[Ci,-List.getD_eq_getElem?_getD,-List.map_map,Qg,g0,g1,g5,g6,p1,p3,c,g,hi,w1,hf,p2,p1,p3,Bf])
   xs.length 0 [(0, .d (Bf xs)),(1, .d (Bf ys)),(5, .slc (Bc H) 0 0 0),(6, .d (.int .i64 0))] (ap H [.row 0 1 []]) (by omega) ⟨[],by simp,rfl,rfl,rfl,rfl,rfl⟩).out
  simp[Ci,-List.getD_eq_getElem?_getD,-List.map_map,f216,p1,p3,he,g5,Bsf,Bf]
 ·rw[if_neg hs]
  have hb: (Gl xs&&Gl ys)=false:=by
   cases a:Gl xs<;>cases b:Gl ys<;>simp_all
  obtain⟨o,e',X',he,rfl,rfl,g5⟩: ∃o e' X',Bg (Bp (ev R) R.glob (Bc H) Bg Qg) [0,1,5,6] ⟨[(0, .d (Bf xs)),(1, .d (Bf ys)),(5, .slc (Bc H) 0 0 0),(6, .d (.int .i64 0))],ap H [.row 0 1 []]⟩=some (o,⟨e',X'⟩)∧o= .exit 0∧X'=ap H [.row 0 1 []]∧e'.get 5= .slc (Bc H) 0 0 0:=by
   have key: ∀e:Env,e.get 0= .d (Bf xs)→e.get 1= .d (Bf ys)→e.get 5= .slc (Bc H) 0 0 0→e.get 6= .d (.int .i64 0)→Gives (fun o e X=>o≠ .normal∧o= .exit 0∧X=ap H [.row 0 1 []]∧e.get 5= .slc (Bc H) 0 0 0) (Bp (ev R) R.glob (Bc H) Bg Qg ⟨e.keep [0,1,5,6],ap H [.row 0 1 []]⟩):=by
    intro e g0 g1 g5 g6
    by_cases hz:0<xs.length
    ·have c: (0:Int)< (xs.length:Int):=by omega
     cases a:Gl xs with
     |true=>
      rw[a,Bool.true_and] at hb
      rw[a] at p1;rw[hb] at p3
      simp[Ci,-List.getD_eq_getElem?_getD,-List.map_map,Qg,g0,g1,g5,g6,c,hz,p1,p3,Bf]
     |false=>
      rw[a] at p1
      simp[Ci,-List.getD_eq_getElem?_getD,-List.map_map,Qg,g0,g1,g5,g6,c,hz,p1,Bf]
    ·have c: ¬ (0:Int)< (xs.length:Int):=by omega
     simp[Ci,-List.getD_eq_getElem?_getD,-List.map_map,Qg,g0,g1,g5,g6,c,hz,Bf]
   obtain⟨o,e',X',h1,h2,h3⟩:=(key [(0, .d (Bf xs)),(1, .d (Bf ys)),(5, .slc (Bc H) 0 0 0),(6, .d (.int .i64 0))] rfl rfl rfl rfl).out
   exact⟨o,e',X',Gg h1 h2,h3⟩
  simp[Ci,-List.getD_eq_getElem?_getD,-List.map_map,f216,he,g5,Bf]
theorem B4z (xs ys:List Bq) (hx:xs.length≤1000000) (hy:ys.length≤1000000):Be (ev R) 218 [.d (Bf xs), .d (Bf ys)]=
  some (.d (Bf (if Gl xs=true∧Gl ys=true then Mw xs ys else[]))):=Bb fun H=>by
 refine Bh (fn:=f218) rfl rfl ?_
 have p1:=Bhv xs (by omega)
 have p3:=Bhv ys (by omega)
 by_cases hs:Gl xs=true∧Gl ys=true
 ·rw[if_pos hs]
  obtain⟨h1,h2⟩:=hs
  rw[h1] at p1
  rw[h2] at p3
  obtain⟨o,e',X',he,rfl,rfl,g5⟩:=(C8 (F:=Bp (ev R) R.glob (Bc H) Bg Qh) (lv:=[0,1,5,6]) xs.length
   (fun i e X=> ∃zs,zs=(xs.take i).filter (fun s=> !decide (s∈ys))∧X=ap H [.row zs.length 1 ((zs.map D.str).map V.d)]∧e.get 0= .d (Bf xs)∧e.get 1= .d (Bf ys)∧e.get 5= .slc (Bc H) zs.length 0 zs.length∧e.get 6= .d (.int .i64 i))
   (fun o e X=>o= .exit 0∧X=ap H [.row (xs.filter (fun s=> !decide (s∈ys))).length 1 (((xs.filter (fun s=> !decide (s∈ys))).map D.str).map V.d)]∧e.get 5= .slc (Bc H) (xs.filter (fun s=> !decide (s∈ys))).length 0 (xs.filter (fun s=> !decide (s∈ys))).length)
   (by
    rintro e X ⟨zs,rfl,rfl,g0,g1,g5,g6⟩
    rw[List.take_length] at*
    simp[Ci,-List.getD_eq_getElem?_getD,-List.map_map,Qh,g0,g1,g5,g6,p1,p3,Bf])
   (by
    rintro i e X hi ⟨zs,hz,rfl,g0,g1,g5,g6⟩
    have c: (i:Int)< (xs.length:Int):=by omega
    have g:=Dj xs i hi
    have w1:IntKind.i64.wrap ((i:Int)+1)=((i+1:Nat):Int):=by rw[IntWalk.i64_in _ (by omega)];rfl
    have hf:=Pq (fun s=> !decide (s∈ys)) xs i [] hi
    have hl:=Tx (fun s=> !decide (s∈ys)) xs i hi
    rw[←hz] at hf hl
    have p2:=Bhu ys (xs.getD i []) (by omega)
    have r: (zs.length+1)*16≤Cq:=by unfold Cq;omega
    by_cases h: ¬xs.getD i []∈ys
    ·simp only[decide_eq_false h,Bool.not_false,if_true] at hf
     rw[decide_eq_false h] at p2
     simp[Ci,-List.getD_eq_getElem?_getD,-List.map_map,Qh,g0,g1,g5,g6,p1,p3,c,g,hi,w1,hf,r,p2,p1,p3,Bf]
    ·simp only[decide_eq_true (Classical.not_not.1 h),Bool.not_true,Bool.false_eq_true,if_false,List.append_nil] at hf
     rw[decide_eq_true (Classical.not_not.1 h)] at p2
     simp[Ci,-List.getD_eq_getElem?_getD,-List.map_map,Qh,g0,g1,g5,g6,p1,p3,c,g,hi,w1,hf,p2,p1,p3,Bf])
   xs.length 0 [(0, .d (Bf xs)),(1, .d (Bf ys)),(5, .slc (Bc H) 0 0 0),(6, .d (.int .i64 0))] (ap H [.row 0 1 []]) (by omega) ⟨[],by simp,rfl,rfl,rfl,rfl,rfl⟩).out
  simp[Ci,-List.getD_eq_getElem?_getD,-List.map_map,f218,p1,p3,he,g5,Mw,Bf]
 ·rw[if_neg hs]
  have hb: (Gl xs&&Gl ys)=false:=by
   cases a:Gl xs<;>cases b:Gl ys<;>simp_all
  obtain⟨o,e',X',he,rfl,rfl,g5⟩: ∃o e' X',Bg (Bp (ev R) R.glob (Bc H) Bg Qh) [0,1,5,6] ⟨[(0, .d (Bf xs)),(1, .d (Bf ys)),(5, .slc (Bc H) 0 0 0),(6, .d (.int .i64 0))],ap H [.row 0 1 []]⟩=some (o,⟨e',X'⟩)∧o= .exit 0∧X'=ap H [.row 0 1 []]∧e'.get 5= .slc (Bc H) 0 0 0:=by
   have key: ∀e:Env,e.get 0= .d (Bf xs)→e.get 1= .d (Bf ys)→e.get 5= .slc (Bc H) 0 0 0→e.get 6= .d (.int .i64 0)→Gives (fun o e X=>o≠ .normal∧o= .exit 0∧X=ap H [.row 0 1 []]∧e.get 5= .slc (Bc H) 0 0 0) (Bp (ev R) R.glob (Bc H) Bg Qh ⟨e.keep [0,1,5,6],ap H [.row 0 1 []]⟩):=by
    intro e g0 g1 g5 g6
    by_cases hz:0<xs.length
    ·have c: (0:Int)< (xs.length:Int):=by omega
     cases a:Gl xs with
     |true=>
      rw[a,Bool.true_and] at hb
      rw[a] at p1;rw[hb] at p3
      simp[Ci,-List.getD_eq_getElem?_getD,-List.map_map,Qh,g0,g1,g5,g6,c,hz,p1,p3,Bf]
     |false=>
      rw[a] at p1
      simp[Ci,-List.getD_eq_getElem?_getD,-List.map_map,Qh,g0,g1,g5,g6,c,hz,p1,Bf]
    ·have c: ¬ (0:Int)< (xs.length:Int):=by omega
     simp[Ci,-List.getD_eq_getElem?_getD,-List.map_map,Qh,g0,g1,g5,g6,c,hz,Bf]
   obtain⟨o,e',X',h1,h2,h3⟩:=(key [(0, .d (Bf xs)),(1, .d (Bf ys)),(5, .slc (Bc H) 0 0 0),(6, .d (.int .i64 0))] rfl rfl rfl rfl).out
   exact⟨o,e',X',Gg h1 h2,h3⟩
  simp[Ci,-List.getD_eq_getElem?_getD,-List.map_map,f218,he,g5,Bf]
def Jl (xs:List Sc) (t:Bq):List Sc:=xs.filter fun x=> !decide (x.1=t)
theorem Byy (xs:List Sc) (t:Bq) (hx:xs.length≤1000000):Be (ev R) 258 [.d (De xs), .d (.str t)]=some (.d (De (Jl xs t))):=Bb fun H=>by
 refine Bh (fn:=f258) rfl rfl ?_
 obtain⟨o,e',X',he,rfl,rfl,g5⟩:=(C8 (F:=Bp (ev R) R.glob (Bc H) Bg Bbb) (lv:=[0,1,5,6]) xs.length
  (fun i e X=> ∃zs,zs=(xs.take i).filter (fun x=> !decide (x.1=t))∧X=ap H [.row zs.length 2 ((zs.map Kk).map V.d)]∧e.get 0= .d (De xs)∧e.get 1= .d (.str t)∧e.get 5= .slc (Bc H) zs.length 0 zs.length∧e.get 6= .d (.int .i64 i))
  (fun o e X=>o= .exit 0∧X=ap H [.row (xs.filter (fun x=> !decide (x.1=t))).length 2 (((xs.filter (fun x=> !decide (x.1=t))).map Kk).map V.d)]∧e.get 5= .slc (Bc H) (xs.filter (fun x=> !decide (x.1=t))).length 0 (xs.filter (fun x=> !decide (x.1=t))).length)
  (by
   rintro e X ⟨zs,rfl,rfl,g0,g1,g5,g6⟩
   rw[List.take_length] at*
   simp[Ci,-List.getD_eq_getElem?_getD,-List.map_map,Bbb,g0,g1,g5,g6,De])
  (by
   rintro i e X hi ⟨zs,hz,rfl,g0,g1,g5,g6⟩
   have c: (i:Int)< (xs.length:Int):=by omega
   have g:=Mx xs i hi
   have w1:IntKind.i64.wrap ((i:Int)+1)=((i+1:Nat):Int):=by rw[IntWalk.i64_in _ (by omega)];rfl
   have hf:=Pq (fun x=> !decide (x.1=t)) xs i ([],0) hi
   have hl:=Tx (fun x=> !decide (x.1=t)) xs i hi
   rw[←hz] at hf hl
   have r: (zs.length+1)*24≤Cq:=by unfold Cq;omega
   by_cases h: ¬ (xs.getD i ([],0)).1=t
   ·simp only[decide_eq_false h,Bool.not_false,if_true] at hf
    simp[Ci,-List.getD_eq_getElem?_getD,-List.map_map,Bbb,g0,g1,g5,g6,c,g,hi,w1,hf,r,eq_false h,De]
   ·simp only[decide_eq_true (Classical.not_not.1 h),Bool.not_true,Bool.false_eq_true,if_false,List.append_nil] at hf
    have h:=Classical.not_not.1 h
    simp[Ci,-List.getD_eq_getElem?_getD,-List.map_map,Bbb,g0,g1,g5,g6,c,g,hi,w1,hf,eq_true h,De])
  xs.length 0 [(0, .d (De xs)),(1, .d (.str t)),(5, .slc (Bc H) 0 0 0),(6, .d (.int .i64 0))] (ap H [.row 0 2 []]) (by omega) ⟨[],by simp,rfl,rfl,rfl,rfl,rfl⟩).out
 simp[Ci,-List.getD_eq_getElem?_getD,-List.map_map,f258,he,g5,Jl,De]
theorem Bo2 (xs:List Sc) (hx:xs.length≤9223372036854775807):Be (ev R) 62 [.d (De xs)]=some (.d (.bool (Di xs))):=Bb fun H=>Bgn H xs hx
theorem Bwo (xs:List Pr) (hx:xs.length≤9223372036854775807):Be (ev R) 63 [.d (Ff xs)]=some (.d (.bool (Dl xs))):=Bb fun H=>Bgo H xs hx
theorem Biq {α:Type} (p:α→Bool) (xs:List α): (xs.takeWhile p).length≤xs.length:=(List.takeWhile_prefix p).length_le
theorem Rz {α:Type} (p:α→Bool) (d:α): ∀ (xs:List α) (i:Nat),i≤(xs.takeWhile p).length→i<xs.length→p (xs.getD i d)=true→i+1≤(xs.takeWhile p).length
 | [],i,_,h,_=>by simp at h
 |x::xs,0,_,_,h=>by
  simp only[List.getD_cons_zero] at h
  simp[List.takeWhile,h]
 |x::xs,i+1,h1,h2,h=>by
  cases hp:p x with
  |false=>simp[List.takeWhile,hp] at h1
  |true=>
   simp only[List.takeWhile,hp,List.length_cons] at h1⊢
   have:=Rz p d xs i (by omega) (by simpa using h2) (by simpa using h)
   omega
theorem R3 {α:Type} (p:α→Bool) (d:α): ∀ (xs:List α) (i:Nat),i≤(xs.takeWhile p).length→i<xs.length→p (xs.getD i d)=false→i=(xs.takeWhile p).length
 | [],i,_,h,_=>by simp at h
 |x::xs,0,_,_,h=>by
  simp only[List.getD_cons_zero] at h
  simp[List.takeWhile,h]
 |x::xs,i+1,h1,h2,h=>by
  cases hp:p x with
  |false=>simp[List.takeWhile,hp] at h1
  |true=>
   simp only[List.takeWhile,hp,List.length_cons] at h1⊢
   have:=R3 p d xs i (by omega) (by simpa using h2) (by simpa using h)
   omega
def Yq (xs:List Pr) (t:Bq):Nat:=(xs.takeWhile fun x=>Op.bytesLess x.1 t).length
def Qk (xs:List Pr) (t:Bq):Bool:=decide (Yq xs t<xs.length) &&decide ((xs.getD (Yq xs t) ([],[])).1=t)
theorem Brl (xs:List Pr) (t:Bq):Yq xs t≤xs.length:=Biq _ _
theorem Br9 (xs:List Pr) (t:Bq) (hx:xs.length≤1000000):Be (ev R) 259 [.d (Ff xs), .d (.str t)]=some (.tup [.d (.int .i64 (Yq xs t)), .d (.bool (Qk xs t))]):=Bb fun H=>by
 refine Bh (fn:=f259) rfl rfl ?_
 obtain⟨o,e',X',he,rfl,rfl,g0,g1,g6⟩:=(C8 (F:=Bp (ev R) R.glob (Bc H) Bg Bbc) (lv:=[0,1,6]) xs.length
  (fun i e X=>X=H∧e.get 0= .d (Ff xs)∧e.get 1= .d (.str t)∧e.get 6= .d (.int .i64 i)∧i≤Yq xs t)
  (fun o e X=>o= .exit 0∧X=H∧e.get 0= .d (Ff xs)∧e.get 1= .d (.str t)∧e.get 6= .d (.int .i64 (Yq xs t)))
  (by
   rintro e X ⟨rfl,g0,g1,g6,hi⟩
   have hn:Yq xs t=xs.length:=Nat.le_antisymm (Brl xs t) hi
   simp[Ci,-List.getD_eq_getElem?_getD,-List.map_map,Bbc,g0,g1,g6,hn,Ff])
  (by
   rintro i e X hi ⟨rfl,g0,g1,g6,hk⟩
   have c: (i:Int)< (xs.length:Int):=by omega
   have g:=Xq xs i hi
   have w1:IntKind.i64.wrap ((i:Int)+1)=((i+1:Nat):Int):=by rw[IntWalk.i64_in _ (by omega)];rfl
   cases h:Op.bytesLess (xs.getD i ([],[])).1 t with
   |true=>
    have hn:=Rz (fun x:Pr=>Op.bytesLess x.1 t) ([],[]) xs i hk hi h
    have hn':i+1≤Yq xs t:=hn
    simp[Ci,-List.getD_eq_getElem?_getD,-List.map_map,Bbc,g0,g1,g6,c,hi,g,w1,h,hn',Ff]
   |false=>
    have hn:i=Yq xs t:=R3 (fun x:Pr=>Op.bytesLess x.1 t) ([],[]) xs i hk hi h
    simp[Ci,-List.getD_eq_getElem?_getD,-List.map_map,Bbc,g0,g1,g6,c,hi,g,w1,h,←hn,Ff])
  xs.length 0 [(0, .d (Ff xs)),(1, .d (.str t)),(6, .d (.int .i64 0))] H (by omega) ⟨rfl,rfl,rfl,rfl,Nat.zero_le _⟩).out
 by_cases hl:Yq xs t<xs.length
 ·have c: (Yq xs t:Int)< (xs.length:Int):=by omega
  have g:=Xq xs (Yq xs t) hl
  simp[Ci,-List.getD_eq_getElem?_getD,-List.map_map,f259,he,g0,g1,g6,hl,c,g,Qk,Ff]
 ·have c: ¬ (Yq xs t:Int)< (xs.length:Int):=by omega
  simp[Ci,-List.getD_eq_getElem?_getD,-List.map_map,f259,he,g0,g1,g6,hl,c,Qk,Ff]
def F4 (es:List En) (t:Bq):Nat:=(es.takeWhile fun e=>Op.bytesLess e.key t).length
def Fg (es:List En) (t:Bq):Bool:=decide (F4 es t<es.length) &&decide ((es.getD (F4 es t) default).key=t)
theorem Bj4 (es:List En) (t:Bq):F4 es t≤es.length:=Biq _ _
theorem Box (b:Ba) (t:Bq) (hx:b.ents.length≤1000000):Be (ev R) 26 [.d (Df b), .d (.str t)]=some (.tup [.d (.int .i64 (F4 b.ents t)), .d (.bool (Fg b.ents t))]):=Bb fun H=>by
 refine Bh (fn:=f26) rfl rfl ?_
 obtain⟨o,e',X',he,rfl,rfl,g2,g1,g6⟩:=(C8 (F:=Bp (ev R) R.glob (Bc H) Bg Bgt) (lv:=[1,2,6]) b.ents.length
  (fun i e X=>X=ap H [.row 0 2 [.d (Df b)]]∧e.get 2= .ptr (Bc H) 0 0 0∧e.get 1= .d (.str t)∧e.get 6= .d (.int .i64 i)∧i≤F4 b.ents t)
  (fun o e X=>o= .exit 0∧X=ap H [.row 0 2 [.d (Df b)]]∧e.get 2= .ptr (Bc H) 0 0 0∧e.get 1= .d (.str t)∧e.get 6= .d (.int .i64 (F4 b.ents t)))
  (by
   rintro e X ⟨rfl,g2,g1,g6,hi⟩
   have hn:F4 b.ents t=b.ents.length:=Nat.le_antisymm (Bj4 b.ents t) hi
   simp[Ci,-List.getD_eq_getElem?_getD,-List.map_map,Bgt,g2,g1,g6,hn])
  (by
   rintro i e X hi ⟨rfl,g2,g1,g6,hk⟩
   have c: (i:Int)< (b.ents.length:Int):=by omega
   have g:=Ja b.ents i hi
   have w1:IntKind.i64.wrap ((i:Int)+1)=((i+1:Nat):Int):=by rw[IntWalk.i64_in _ (by omega)];rfl
   cases h:Op.bytesLess (b.ents.getD i default).key t with
   |true=>
    have hn:=Rz (fun e:En=>Op.bytesLess e.key t) default b.ents i hk hi h
    have hn':i+1≤F4 b.ents t:=hn
    simp[Ci,-List.getD_eq_getElem?_getD,-List.map_map,Bgt,g2,g1,g6,c,hi,g,w1,h,hn']
   |false=>
    have hn:i=F4 b.ents t:=R3 (fun e:En=>Op.bytesLess e.key t) default b.ents i hk hi h
    simp[Ci,-List.getD_eq_getElem?_getD,-List.map_map,Bgt,g2,g1,g6,c,hi,g,w1,h,←hn])
  b.ents.length 0 [(1, .d (.str t)),(2, .ptr (Bc H) 0 0 0),(6, .d (.int .i64 0))] (ap H [.row 0 2 [.d (Df b)]]) (by omega) ⟨rfl,rfl,rfl,rfl,Nat.zero_le _⟩).out
 by_cases hl:F4 b.ents t<b.ents.length
 ·have c: (F4 b.ents t:Int)< (b.ents.length:Int):=by omega
  have g:=Ja b.ents (F4 b.ents t) hl
  simp[Ci,-List.getD_eq_getElem?_getD,-List.map_map,f26,he,g2,g1,g6,hl,c,g,Fg]
 ·have c: ¬ (F4 b.ents t:Int)< (b.ents.length:Int):=by omega
  simp[Ci,-List.getD_eq_getElem?_getD,-List.map_map,f26,he,g2,g1,g6,hl,c,Fg]
def Dt {α:Type} (xs:List α) (k:Nat) (x:α):List α:=xs.take k++(x::xs.drop k)
theorem Gs {α:Type} (xs:List α) (k:Nat) (x:α): (Dt xs k x).length=xs.length+1:=by
 simp only[Dt,List.length_append,List.length_take,List.length_cons,List.length_drop];omega
theorem Xi {α:Type} (f:α→D) (xs:List α) (k:Nat) (x:α):List.take k (List.map V.d (List.map f xs))++V.d (f x)::List.drop k (List.map V.d (List.map f xs))=List.map V.d (List.map f (Dt xs k x)):=by
 simp only[Dt,List.map_append,List.map_cons,List.map_take,List.map_drop]
theorem Xj {α:Type} (f:α→D) (xs:List α) (k:Nat) (x:α) (h:k≤xs.length):List.take (k+1+(xs.length - k)) (List.map V.d (List.map f (Dt xs k x)))=List.map V.d (List.map f (Dt xs k x)):=by
 refine List.take_of_length_le ?_
 simp only[List.length_map,Gs];omega
theorem Bfb {α:Type} (xs:List α) (k:Nat) (x:α) (h:k≤xs.length): (k+1+(xs.length - k)≤(Dt xs k x).length)=True:=eq_true (by rw[Gs];omega)
def Zw (xs:List Bq) (t:Bq):Nat:=(xs.takeWhile fun x=>Op.bytesLess x t).length
def Bxe (xs:List Bq) (t:Bq):Bool:=decide (Zw xs t<xs.length) &&decide (xs.getD (Zw xs t) []=t)
theorem Btg (xs:List Bq) (t:Bq):Zw xs t≤xs.length:=Biq _ _
def Bc6 (xs:List Bq) (t:Bq):List Bq:=if Bxe xs t=true then xs else Dt xs (Zw xs t) t
theorem Byx (xs:List Bq) (t:Bq) (hx:xs.length≤1000000):Be (ev R) 257 [.d (Bf xs), .d (.str t)]=some (.d (Bf (Bc6 xs t))):=Bb fun H=>by
 refine Bh (fn:=f257) rfl rfl ?_
 obtain⟨o,e',X',he,rfl,rfl,g0,g1,g5⟩:=(C8 (F:=Bp (ev R) R.glob (Bc H) Bg Bba) (lv:=[0,1,5]) xs.length
  (fun i e X=>X=H∧e.get 0= .d (Bf xs)∧e.get 1= .d (.str t)∧e.get 5= .d (.int .i64 i)∧i≤Zw xs t)
  (fun o e X=>o= .exit 0∧X=H∧e.get 0= .d (Bf xs)∧e.get 1= .d (.str t)∧e.get 5= .d (.int .i64 (Zw xs t)))
  (by
   rintro e X ⟨rfl,g0,g1,g5,hi⟩
   have hn:Zw xs t=xs.length:=Nat.le_antisymm (Btg xs t) hi
   simp[Ci,-List.getD_eq_getElem?_getD,-List.map_map,Bba,g0,g1,g5,hn,Bf])
  (by
   rintro i e X hi ⟨rfl,g0,g1,g5,hk⟩
   have c: (i:Int)< (xs.length:Int):=by omega
   have g:=Dj xs i hi
   have w1:IntKind.i64.wrap ((i:Int)+1)=((i+1:Nat):Int):=by rw[IntWalk.i64_in _ (by omega)];rfl
   cases h:Op.bytesLess (xs.getD i []) t with
   |true=>
    have hn:=Rz (fun x:Bq=>Op.bytesLess x t) [] xs i hk hi h
    have hn':i+1≤Zw xs t:=hn
    simp[Ci,-List.getD_eq_getElem?_getD,-List.map_map,Bba,g0,g1,g5,c,hi,g,w1,h,hn',Bf]
   |false=>
    have hn:i=Zw xs t:=R3 (fun x:Bq=>Op.bytesLess x t) [] xs i hk hi h
    simp[Ci,-List.getD_eq_getElem?_getD,-List.map_map,Bba,g0,g1,g5,c,hi,g,w1,h,←hn,Bf])
  xs.length 0 [(0, .d (Bf xs)),(1, .d (.str t)),(5, .d (.int .i64 0))] H (by omega) ⟨rfl,rfl,rfl,rfl,Nat.zero_le _⟩).out
 have hk:=Btg xs t
 have hk': (Zw xs t:Int)≤(xs.length:Int):=by omega
 have hk0: (0:Int)≤(Zw xs t:Int):=by omega
 have r1:Zw xs t*16≤Cq:=by unfold Cq;omega
 have r2: (Zw xs t+1)*16≤Cq:=by unfold Cq;omega
 have r3: (Zw xs t+1+(xs.length - Zw xs t))*16≤Cq:=by unfold Cq;omega
 have mn:min (Zw xs t) xs.length=Zw xs t:=by omega
 have f1:=Xi D.str xs (Zw xs t) t
 have f2:=Xj D.str xs (Zw xs t) t hk
 have f3:=Bfb xs (Zw xs t) t hk
 unfold Bc6
 cases h:Bxe xs t with
 |true=>
  unfold Bxe at h
  rw[Bool.and_eq_true,decide_eq_true_eq,decide_eq_true_eq] at h
  obtain⟨hl,h2⟩:=h
  have c: (Zw xs t:Int)< (xs.length:Int):=by omega
  have g:=Dj xs (Zw xs t) hl
  simp[Ci,-List.getD_eq_getElem?_getD,-List.map_map,f257,he,g0,g1,g5,hl,c,g,eq_true h2,Bf]
 |false=>
  unfold Bxe at h
  by_cases hl:Zw xs t<xs.length
  ·rw[decide_eq_true hl,Bool.true_and,decide_eq_false_iff_not] at h
   have c: (Zw xs t:Int)< (xs.length:Int):=by omega
   have g:=Dj xs (Zw xs t) hl
   simp[Ci,-List.getD_eq_getElem?_getD,-List.map_map,f257,he,g0,g1,g5,hl,c,g,eq_false h,Bf,Da,hk,hk',hk0,r1,r2,r3,mn,f1,f2,f3]
  ·have c: ¬ (Zw xs t:Int)< (xs.length:Int):=by omega
   simp[Ci,-List.getD_eq_getElem?_getD,-List.map_map,f257,he,g0,g1,g5,hl,c,Bf,Da,hk,hk',hk0,r1,r2,r3,mn,f1,f2,f3]
def sAt (xs:List Sc) (x:Sc):Nat:=(xs.takeWhile fun y=>Lg y.1 x.1 y.2 x.2).length
theorem Bs3 (xs:List Sc) (x:Sc):sAt xs x≤xs.length:=Biq _ _
def Bsj (xs:List Sc) (x:Sc):List Sc:=Dt (Jl xs x.1) (sAt (Jl xs x.1) x) x
theorem Bh6 (xs:List Sc) (t:Bq): (Jl xs t).length≤xs.length:=List.length_filter_le _ _
theorem B4l (x y:Sc):Be (ev R) 159 [.d (Kk x), .d (Kk y)]=some (.d (.bool (Lg x.1 y.1 x.2 y.2))):=Bb fun H=>Bre H x.1 y.1 x.2 y.2
def M3 (xs:List Sc) (x:Sc):List Sc×Bool×Bool:=if Di xs=true then(if Di (Bsj xs x)=true then(Bsj xs x,decide ((Jl xs x.1).length=xs.length),true) else(xs,false,false)) else([],false,false)
theorem Bye (H:Hp) (xs:List Sc) (x:Sc) (hx:xs.length≤1000000):ev R 221 [.d (De xs), .d (Kk x)] H=some (.tup [.slc (Bc H) 0 0 (M3 xs x).1.length, .d (.bool (M3 xs x).2.1), .d (.bool (M3 xs x).2.2)],ap H [.row 0 2 (((M3 xs x).1.map Kk).map V.d)]):=by
 unfold M3
 refine Bh (fn:=f221) rfl rfl ?_
 have p1:=Bo2 xs (by omega)
 cases h1:Di xs with
 |false=>
  rw[h1] at p1
  simp[Ci,-List.getD_eq_getElem?_getD,-List.map_map,f221,p1,De,Uq]
 |true=>
  rw[h1] at p1
  have hw:=Bh6 xs x.1
  have p2:=Byy xs x.1 hx
  have hr:Bsj xs x=Dt (Jl xs x.1) (sAt (Jl xs x.1) x) x:=rfl
  generalize Jl xs x.1=ys at*
  obtain⟨o,e',X',he,rfl,rfl,g0,g3,g7,g8⟩:=(C8 (F:=Bp (ev R) R.glob (Bc H) Bg Ba8) (lv:=[0,3,7,8]) ys.length
   (fun i e X=>X=ap H [.row 0 2 [.d (Kk x)]]∧e.get 0= .d (De xs)∧e.get 3= .ptr (Bc H) 0 0 0∧e.get 7= .d (De ys)∧e.get 8= .d (.int .i64 i)∧i≤sAt ys x)
   (fun o e X=>o= .exit 0∧X=ap H [.row 0 2 [.d (Kk x)]]∧e.get 0= .d (De xs)∧e.get 3= .ptr (Bc H) 0 0 0∧e.get 7= .d (De ys)∧e.get 8= .d (.int .i64 (sAt ys x)))
   (by
    rintro e X ⟨rfl,g0,g3,g7,g8,hi⟩
    have hn:sAt ys x=ys.length:=Nat.le_antisymm (Bs3 ys x) hi
    simp[Ci,-List.getD_eq_getElem?_getD,-List.map_map,Ba8,g0,g3,g7,g8,hn,De])
   (by
    rintro i e X hi ⟨rfl,g0,g3,g7,g8,hk⟩
    have c: (i:Int)< (ys.length:Int):=by omega
    have g:=Mx ys i hi
    have p3:=B4l (ys.getD i ([],0)) x
    have w1:IntKind.i64.wrap ((i:Int)+1)=((i+1:Nat):Int):=by rw[IntWalk.i64_in _ (by omega)];rfl
    cases h:Lg (ys.getD i ([],0)).1 x.1 (ys.getD i ([],0)).2 x.2 with
    |true=>
     rw[h] at p3
     have hn:=Rz (fun y:Sc=>Lg y.1 x.1 y.2 x.2) ([],0) ys i hk hi h
     have hn':i+1≤sAt ys x:=hn
     simp[Ci,-List.getD_eq_getElem?_getD,-List.map_map,Ba8,g0,g3,g7,g8,c,hi,g,w1,p3,hn',De]
    |false=>
     rw[h] at p3
     have hn:i=sAt ys x:=R3 (fun y:Sc=>Lg y.1 x.1 y.2 x.2) ([],0) ys i hk hi h
     simp[Ci,-List.getD_eq_getElem?_getD,-List.map_map,Ba8,g0,g3,g7,g8,c,hi,g,w1,p3,←hn,De])
   ys.length 0 [(0, .d (De xs)),(3, .ptr (Bc H) 0 0 0),(7, .d (De ys)),(8, .d (.int .i64 0))] (ap H [.row 0 2 [.d (Kk x)]]) (by omega) ⟨rfl,rfl,rfl,rfl,rfl,Nat.zero_le _⟩).out
  have hk:=Bs3 ys x
  rw[hr]
  generalize sAt ys x=k at*
  have hk': (k:Int)≤(ys.length:Int):=by omega
  have hk0: (0:Int)≤(k:Int):=by omega
  have r1:k*24≤Cq:=by unfold Cq;omega
  have r2: (k+1)*24≤Cq:=by unfold Cq;omega
  have r3: (k+1+(ys.length - k))*24≤Cq:=by unfold Cq;omega
  have r4:xs.length*24≤Cq:=by unfold Cq;omega
  have il:=Gs ys k x
  have fl:k+1+(ys.length - k)=ys.length+1:=by omega
  have mn:min k ys.length=k:=by omega
  have f1:=Xi Kk ys k x
  have f2:=Xj Kk ys k x hk
  have f3:=Bfb ys k x hk
  have p4:=Bo2 (Dt ys k x) (by rw[Gs];omega)
  have vw:Gt (List.map V.d (List.map Kk (Dt ys k x)))=some (List.map Kk (Dt ys k x)):=Tu _
  have f2':List.take (k+1+(ys.length - k)) (List.map Kk (Dt ys k x))=List.map Kk (Dt ys k x):=by
   refine List.take_of_length_le ?_
   simp only[List.length_map,Gs];omega
  rw[fl] at r3 f2 f2' f3
  cases h2:Di (Dt ys k x) with
  |true=>
   rw[h2] at p4
   by_cases hl:ys.length=xs.length
   ·have hl': (ys.length:Int)=(xs.length:Int):=by omega
    simp[Ci,-List.getD_eq_getElem?_getD,-List.map_map,f221,p1,p2,he,g0,g3,g7,g8,Da,hk,hk',hk0,r1,r2,r3,r4,mn,f1,f2,f2',f3,p4,eq_true hl,eq_true hl',De,il,fl,Uq]
   ·have hl': ¬ (ys.length:Int)=(xs.length:Int):=by omega
    simp[Ci,-List.getD_eq_getElem?_getD,-List.map_map,f221,p1,p2,he,g0,g3,g7,g8,Da,hk,hk',hk0,r1,r2,r3,r4,mn,f1,f2,f2',f3,p4,eq_false hl,eq_false hl',De,il,fl,Uq]
  |false=>
   rw[h2] at p4
   simp[Ci,-List.getD_eq_getElem?_getD,-List.map_map,f221,p1,p2,he,g0,g3,g7,g8,Da,hk,hk',hk0,r1,r2,r3,r4,mn,f1,f2,f2',f3,p4,De,il,fl,Uq]
theorem Byt (xs:List Sc) (x:Sc) (hx:xs.length≤1000000):Gf (ev R) 221 [.d (De xs), .d (Kk x)]=some (.tup [.d (De (M3 xs x).1), .d (.bool (M3 xs x).2.1), .d (.bool (M3 xs x).2.2)]):=by
 refine Jk fun H=> ⟨_,_,Bye H xs x hx, ?_,Lh H _⟩
 simp[Ci,-List.getD_eq_getElem?_getD,-List.map_map]
theorem Br7 (xs:List Sc) (x:Sc) (hx:xs.length≤1000000):Be (ev R) 221 [.d (De xs), .d (Kk x)]=none:=by
 cases h:Be (ev R) 221 [.d (De xs), .d (Kk x)] with
 |none=>rfl
 |some v=>
  have h1:=Dp h []
  rw[Bye [] xs x hx] at h1
  simp[ap] at h1
def Gw {α:Type} (xs:List α) (k:Nat):List α:=xs.take k++xs.drop (k+1)
theorem Md {α:Type} (xs:List α) (k:Nat) (h:k<xs.length): (Gw xs k).length=xs.length - 1:=by
 simp only[Gw,List.length_append,List.length_take,List.length_drop];omega
theorem Xb {α:Type} (f:α→D) (xs:List α) (k:Nat):List.take k (List.map V.d (List.map f xs))++List.drop (k+1) (List.map V.d (List.map f xs))=List.map V.d (List.map f (Gw xs k)):=by
 simp only[Gw,List.map_append,List.map_take,List.map_drop]
theorem Bgj {α:Type} (f:α→D) (xs:List α) (k:Nat) (h:k<xs.length):List.take (k+(xs.length - (k+1))) (List.map V.d (List.map f (Gw xs k)))=List.map V.d (List.map f (Gw xs k)):=by
 refine List.take_of_length_le ?_
 simp only[List.length_map,Md _ _ h];omega
theorem Brc {α:Type} (xs:List α) (k:Nat) (h:k<xs.length): (k+(xs.length - (k+1))≤(Gw xs k).length)=True:=eq_true (by rw[Md _ _ h];omega)
def Bd5 (xs:List Pr) (x:Pr):List Pr:=if Qk xs x.1=true then xs.set (Yq xs x.1) x else Dt xs (Yq xs x.1) x
theorem Bcp {α:Type} (f:α→D) (xs:List α) (k:Nat) (x:α): (List.map V.d (List.map f xs)).set k (V.d (f x))=List.map V.d (List.map f (xs.set k x)):=by
 simp only[List.map_set]
theorem Bpa (xs:List Pr) (x:Pr): (Bd5 xs x).length≤xs.length+1:=by
 unfold Bd5
 split
 ·rw[List.length_set];omega
 ·rw[Gs];omega
def M0 (xs:List Pr) (x:Pr):List Pr×Bool×Bool:=if Dl xs=true then(if Dl (Bd5 xs x)=true then(Bd5 xs x, !Qk xs x.1,true) else(xs,false,false)) else([],false,false)
theorem Byf (H:Hp) (xs:List Pr) (x:Pr) (hx:xs.length≤1000000):ev R 227 [.d (Ff xs), .d (Kz x)] H=some (.tup [.slc (Bc H) 0 0 (M0 xs x).1.length, .d (.bool (M0 xs x).2.1), .d (.bool (M0 xs x).2.2)],ap H [.row 0 2 (((M0 xs x).1.map Kz).map V.d)]):=by
 unfold M0
 refine Bh (fn:=f227) rfl rfl ?_
 have p1:=Bwo xs (by omega)
 cases h1:Dl xs with
 |false=>
  rw[h1] at p1
  simp[Ci,-List.getD_eq_getElem?_getD,-List.map_map,f227,p1,Ff,Uq]
 |true=>
  rw[h1] at p1
  have p2:=Br9 xs x.1 hx
  have hk:=Brl xs x.1
  have hx1:=Bpa xs x
  have p4:=Bwo (Bd5 xs x) (by omega)
  have hr:Bd5 xs x=if Qk xs x.1=true then xs.set (Yq xs x.1) x else Dt xs (Yq xs x.1) x:=rfl
  have hl:Qk xs x.1=true→Yq xs x.1<xs.length:=fun h=>by
   unfold Qk at h
   rw[Bool.and_eq_true,decide_eq_true_eq] at h
   exact h.1
  generalize Yq xs x.1=k at*
  have hk': (k:Int)≤(xs.length:Int):=by omega
  have hk0: (0:Int)≤(k:Int):=by omega
  have r1:k*32≤Cq:=by unfold Cq;omega
  have r2: (k+1)*32≤Cq:=by unfold Cq;omega
  have r3: (k+1+(xs.length - k))*32≤Cq:=by unfold Cq;omega
  have r4:xs.length*32≤Cq:=by unfold Cq;omega
  have mn:min k xs.length=k:=by omega
  cases h3:Qk xs x.1 with
  |true=>
   have hl:=hl h3
   have hl': (k:Int)< (xs.length:Int):=by omega
   rw[h3] at p2
   rw[h3,if_pos rfl] at hr
   have f1:=Bcp Kz xs k x
   rw[hr] at p4⊢
   have f4:List.take xs.length (List.map V.d (List.map Kz (xs.set k x)))=List.map V.d (List.map Kz (xs.set k x)):=List.take_of_length_le (by simp)
   have f5:List.take xs.length (List.map Kz (xs.set k x))=List.map Kz (xs.set k x):=List.take_of_length_le (by simp)
   have f6: (xs.set k x).length=xs.length:=List.length_set
   generalize xs.set k x=zs at*
   cases h2:Dl zs with
   |true=>
    rw[h2] at p4
    simp[Ci,-List.getD_eq_getElem?_getD,-List.map_map,f227,p1,p2,r4,hl,hl',hk0,f1,f4,f5,f6,p4,Ff,Uq]
   |false=>
    rw[h2] at p4
    simp[Ci,-List.getD_eq_getElem?_getD,-List.map_map,f227,p1,p2,r4,hl,hl',hk0,f1,f4,f5,f6,p4,Ff,Uq]
  |false=>
   rw[h3] at p2
   rw[h3,if_neg (by simp)] at hr
   have il:=Gs xs k x
   have fl:k+1+(xs.length - k)=xs.length+1:=by omega
   rw[hr] at p4⊢
   have f1:=Xi Kz xs k x
   have f2:=Xj Kz xs k x hk
   have f3:=Bfb xs k x hk
   have f2':List.take (k+1+(xs.length - k)) (List.map Kz (Dt xs k x))=List.map Kz (Dt xs k x):=by
    refine List.take_of_length_le ?_
    simp only[List.length_map,Gs];omega
   rw[fl] at r3 f2 f2' f3
   cases h2:Dl (Dt xs k x) with
   |true=>
    rw[h2] at p4
    simp[Ci,-List.getD_eq_getElem?_getD,-List.map_map,f227,p1,p2,Da,hk,hk',hk0,r1,r2,r3,r4,mn,f1,f2,f2',f3,p4,Ff,il,fl,Uq]
   |false=>
    rw[h2] at p4
    simp[Ci,-List.getD_eq_getElem?_getD,-List.map_map,f227,p1,p2,Da,hk,hk',hk0,r1,r2,r3,r4,mn,f1,f2,f2',f3,p4,Ff,il,fl,Uq]
theorem Byv (xs:List Pr) (x:Pr) (hx:xs.length≤1000000):Gf (ev R) 227 [.d (Ff xs), .d (Kz x)]=some (.tup [.d (Ff (M0 xs x).1), .d (.bool (M0 xs x).2.1), .d (.bool (M0 xs x).2.2)]):=by
 refine Jk fun H=> ⟨_,_,Byf H xs x hx, ?_,Lh H _⟩
 simp[Ci,-List.getD_eq_getElem?_getD,-List.map_map]
theorem Br8 (xs:List Pr) (x:Pr) (hx:xs.length≤1000000):Be (ev R) 227 [.d (Ff xs), .d (Kz x)]=none:=by
 cases h:Be (ev R) 227 [.d (Ff xs), .d (Kz x)] with
 |none=>rfl
 |some v=>
  have h1:=Dp h []
  rw[Byf [] xs x hx] at h1
  simp[ap] at h1
theorem B44 (xs:List Pr) (t:Bq) (hx:xs.length≤1000000):Be (ev R) 226 [.d (Ff xs), .d (.str t)]=
  some (if Dl xs=true then .tup [.d (Ff (if Qk xs t=true then Gw xs (Yq xs t) else xs)), .d (.bool (Qk xs t))] else .tup [.d (Ff []), .d (.bool false)]):=Bb fun H=>by
 refine Bh (fn:=f226) rfl rfl ?_
 have p1:=Bwo xs (by omega)
 cases h1:Dl xs with
 |false=>
  rw[h1] at p1
  simp[Ci,-List.getD_eq_getElem?_getD,-List.map_map,f226,p1,Ff]
 |true=>
  rw[h1] at p1
  have p2:=Br9 xs t hx
  have hl:Qk xs t=true→Yq xs t<xs.length:=fun h=>by
   unfold Qk at h
   rw[Bool.and_eq_true,decide_eq_true_eq] at h
   exact h.1
  generalize Yq xs t=k at*
  have r4:xs.length*32≤Cq:=by unfold Cq;omega
  cases h3:Qk xs t with
  |false=>
   rw[h3] at p2
   simp[Ci,-List.getD_eq_getElem?_getD,-List.map_map,f226,p1,p2,r4,Ff]
  |true=>
   rw[h3] at p2
   have hl:=hl h3
   have hk:k≤xs.length:=by omega
   have hk': (k:Int)≤(xs.length:Int):=by omega
   have hk0: (0:Int)≤(k:Int):=by omega
   have w1:IntKind.i64.wrap ((k:Int)+1)=((k+1:Nat):Int):=by rw[IntWalk.i64_in _ (by omega)];rfl
   have hk1: (k:Int)+1≤(xs.length:Int):=by omega
   have hk4: ((k:Int)+1).toNat=k+1:=by omega
   have hk2:k+1≤xs.length:=by omega
   have hk3: (0:Int)≤(k:Int)+1:=by omega
   have r1:k*32≤Cq:=by unfold Cq;omega
   have r3: (k+(xs.length - (k+1)))*32≤Cq:=by unfold Cq;omega
   have mn:min k xs.length=k:=by omega
   have f1:=Xb Kz xs k
   have f2:=Bgj Kz xs k hl
   have f3:=Brc xs k hl
   simp[Ci,-List.getD_eq_getElem?_getD,-List.map_map,f226,p1,p2,Da,hl,hk,hk',hk0,w1,hk1,hk2,hk3,hk4,r1,r3,mn,f1,f2,f3,Ff]
theorem B43 (xs:List Pr) (t:Bq) (hx:xs.length≤1000000):Be (ev R) 225 [.d (Ff xs), .d (.str t)]=
  some (if Dl xs=true∧Qk xs t=true then .tup [.d (.str (xs.getD (Yq xs t) ([],[])).2), .d (.bool true)] else .tup [.d (.str []), .d (.bool false)]):=Bb fun H=>by
 refine Bh (fn:=f225) rfl rfl ?_
 have p1:=Bwo xs (by omega)
 have p2:=Br9 xs t hx
 cases h1:Dl xs with
 |false=>
  rw[h1] at p1
  simp[Ci,-List.getD_eq_getElem?_getD,-List.map_map,f225,p1,p2,Ff]
 |true=>
  rw[h1] at p1
  have hl:Qk xs t=true→Yq xs t<xs.length:=fun h=>by
   unfold Qk at h
   rw[Bool.and_eq_true,decide_eq_true_eq] at h
   exact h.1
  generalize Yq xs t=k at*
  cases h3:Qk xs t with
  |false=>
   rw[h3] at p2
   simp[Ci,-List.getD_eq_getElem?_getD,-List.map_map,f225,p1,p2,Ff]
  |true=>
   rw[h3] at p2
   have hl:=hl h3
   have hl': (k:Int)< (xs.length:Int):=by omega
   have hk0: (0:Int)≤(k:Int):=by omega
   have g:=Xq xs k hl
   simp[Ci,-List.getD_eq_getElem?_getD,-List.map_map,f225,p1,p2,g,hl,hl',hk0,Ff]
theorem B40 (xs:List Sc) (t:Bq) (hx:xs.length≤1000000):Be (ev R) 219 [.d (De xs), .d (.str t)]=
  some (if Di xs=true then .tup [.d (De (Jl xs t)), .d (.bool (decide ((Jl xs t).length<xs.length)))] else .tup [.d (De []), .d (.bool false)]):=Bb fun H=>by
 refine Bh (fn:=f219) rfl rfl ?_
 have p1:=Bo2 xs (by omega)
 have p2:=Byy xs t hx
 cases h1:Di xs with
 |false=>
  rw[h1] at p1
  simp[Ci,-List.getD_eq_getElem?_getD,-List.map_map,f219,p1,De]
 |true=>
  rw[h1] at p1
  generalize Jl xs t=ys at*
  simp[Ci,-List.getD_eq_getElem?_getD,-List.map_map,f219,p1,p2,De]
def Jc (xs:List Sc) (t:Bq):Int:=if Di xs=true then(if(xs.takeWhile fun x=> !decide (x.1=t)).length<xs.length then((xs.takeWhile fun x=> !decide (x.1=t)).length:Int) else -1) else -1
theorem Bmy (xs:List Sc) (t:Bq) (hx:xs.length≤1000000):Be (ev R) 220 [.d (De xs), .d (.str t)]=some (.d (.int .i64 (Jc xs t))):=Bb fun H=>by
 refine Bh (fn:=f220) rfl rfl ?_
 have p1:=Bo2 xs (by omega)
 have key:Gives (fun o e X=>X=H∧(o= .exit 0∧Jc xs t= -1∨o= .ret∧e.get 4= .d (.int .i64 (Jc xs t)))) (Bg (Bp (ev R) R.glob (Bc H) Bg U6) [0,1,5] ⟨[(0, .d (De xs)),(1, .d (.str t)),(5, .d (.int .i64 0))],H⟩):=by
  refine C8 (F:=Bp (ev R) R.glob (Bc H) Bg U6) (lv:=[0,1,5]) xs.length
   (fun i e X=>X=H∧e.get 0= .d (De xs)∧e.get 1= .d (.str t)∧e.get 5= .d (.int .i64 i)∧i≤(xs.takeWhile fun x=> !decide (x.1=t)).length) _ ?_ ?_ xs.length 0 _ _ (by omega) ⟨rfl,rfl,rfl,rfl,Nat.zero_le _⟩
  ·rintro e X ⟨rfl,g0,g1,g5,hi⟩
   have hn: ¬ (xs.takeWhile fun x=> !decide (x.1=t)).length<xs.length:=by omega
   have hr:Jc xs t= -1:=by unfold Jc;rw[if_neg hn];split<;>rfl
   simp[Ci,-List.getD_eq_getElem?_getD,-List.map_map,U6,g0,g1,g5,hr,De]
  ·rintro i e X hi ⟨rfl,g0,g1,g5,hk⟩
   have c: (i:Int)< (xs.length:Int):=by omega
   have g:=Mx xs i hi
   have w1:IntKind.i64.wrap ((i:Int)+1)=((i+1:Nat):Int):=by rw[IntWalk.i64_in _ (by omega)];rfl
   cases h1:Di xs with
   |false=>
    rw[h1] at p1
    have hr:Jc xs t= -1:=by unfold Jc;rw[h1];simp
    simp[Ci,-List.getD_eq_getElem?_getD,-List.map_map,U6,g0,g1,g5,c,hi,p1,hr,De]
   |true=>
    rw[h1] at p1
    by_cases h: (xs.getD i ([],0)).1=t
    ·have hn:=R3 (fun x:Sc=> !decide (x.1=t)) ([],0) xs i hk hi (by simp only[decide_eq_true h,Bool.not_true])
     have hr:Jc xs t=(i:Int):=by unfold Jc;rw[h1,if_pos rfl,←hn,if_pos hi]
     simp[Ci,-List.getD_eq_getElem?_getD,-List.map_map,U6,g0,g1,g5,c,hi,g,p1,w1,eq_true h,hr,De]
    ·have hn:=Rz (fun x:Sc=> !decide (x.1=t)) ([],0) xs i hk hi (by simp only[decide_eq_false h,Bool.not_false])
     simp[Ci,-List.getD_eq_getElem?_getD,-List.map_map,U6,g0,g1,g5,c,hi,g,p1,w1,eq_false h,hn,De]
 obtain⟨o,e',X',he,rfl,g⟩:=key.out
 rcases g with⟨rfl,g⟩ | ⟨rfl,g4⟩
 ·simp[Ci,-List.getD_eq_getElem?_getD,-List.map_map,f220,he,g]
 ·simp[Ci,-List.getD_eq_getElem?_getD,-List.map_map,f220,he,g4]
end Go.Proofs.YtpajcoanfkeibaaGreatDoor.Code

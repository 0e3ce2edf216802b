/- Lemmas (several texts in one). -/
import Derived.Test.YtjdmiodinhlchaaGreatMBaseDrop7
import Derived.Test.YtjdmiodinhlchaaGreatMBaseDrop8
import Derived.Test.YtjdmiodinhlchaaGreatMBaseDrop10
import Derived.Test.YtjdmiodinhlchaaGreatMBaseDrop11
import Derived.Test.YtjdmiodinhlchaaGreatMBaseDrop13
set_option maxRecDepth 100000
set_option linter.unusedSimpArgs false
set_option linter.unusedVariables false
namespace Go.Proofs.YtjdmiodinhlchaaGreat.Code
open Go Go.Ev Go.Proofs
def Bmg (xs ys:List Bm):List Bm:=xs.filter fun s=>decide (s∈ys)
theorem Bxj (xs ys:List Bm) (hx:xs.length≤1000000) (hy:ys.length≤1000000):Be (ev R) 146 [.d (Bf xs), .d (Bf ys)]=
  some (.d (Bf (if D9 xs=true∧D9 ys=true then Bmg xs ys else[]))):=Bb fun H=>by
 refine Bi (fn:=f146) rfl rfl ?_
 have p1:=Bcb xs (by omega)
 have p3:=Bcb ys (by omega)
 by_cases hs:D9 xs=true∧D9 ys=true
 ·rw[if_pos hs]
  obtain⟨h1,h2⟩:=hs
  rw[h1] at p1
  rw[h2] at p3
  obtain⟨o,e',X',he,rfl,rfl,g5⟩:=(Cl (F:=Bo (ev R) R.glob (Bc H) Bg L6) (lv:=[0,1,5,6]) xs.length
   (fun i e X=> ∃zs,zs=(xs.take i).filter (fun s=>decide (s∈ys))∧X=ap H [.row zs.length 1 ((zs.map D.str).map V.d)]∧e.get 0= .d (Bf xs)∧e.get 1= .d (Bf ys)∧e.get 5= .slc (Bc H) zs.length 0 zs.length∧e.get 6= .d (.int .i64 i))
   (fun o e X=>o= .exit 0∧X=ap H [.row (xs.filter (fun s=>decide (s∈ys))).length 1 (((xs.filter (fun s=>decide (s∈ys))).map D.str).map V.d)]∧e.get 5= .slc (Bc H) (xs.filter (fun s=>decide (s∈ys))).length 0 (xs.filter (fun s=>decide (s∈ys))).length)
   (by
    rintro e X ⟨zs,rfl,rfl,g0,g1,g5,g6⟩
    rw[List.take_length] at*
    simp[B4,-List.getD_eq_getElem?_getD,-List.map_map,L6,g0,g1,g5,g6,p1,p3,Bf])
   (by
    rintro i e X hi ⟨zs,hz,rfl,g0,g1,g5,g6⟩
    have c: (i:Int)< (xs.length:Int):=by omega
    have g:=Cw xs i hi
    have w1:IntKind.i64.wrap ((i:Int)+1)=((i+1:Nat):Int):=by rw[IntWalk.i64_in _ (by omega)];rfl
    have hf:=Lj (fun s=>decide (s∈ys)) xs i [] hi
    have hl:=Ph (fun s=>decide (s∈ys)) xs i hi
    rw[←hz] at hf hl
    have p2:=Bb9 ys (xs.getD i []) (by omega)
    have r: (zs.length+1)*16≤Cb:=by unfold Cb;omega
    by_cases h:xs.getD i []∈ys
    ·simp only[decide_eq_true h,Bool.not_true,if_true] at hf
     rw[decide_eq_true h] at p2
     simp[B4,-List.getD_eq_getElem?_getD,-List.map_map,L6,g0,g1,g5,g6,p1,p3,c,g,hi,w1,hf,r,p2,p1,p3,Bf]
    ·simp only[decide_eq_false h,Bool.not_false,Bool.false_eq_true,if_false,List.append_nil] at hf
     rw[decide_eq_false h] at p2
     simp[B4,-List.getD_eq_getElem?_getD,-List.map_map,L6,g0,g1,g5,g6,p1,p3,c,g,hi,w1,hf,p2,p1,p3,Bf])
   xs.length 0 [(0, .d (Bf xs)),(1, .d (Bf ys)),(5, .slc (Bc H) 0 0 0),(6, .d (.int .i64 0))] (ap H [.row 0 1 []]) (by omega) ⟨[],by simp,rfl,rfl,rfl,rfl,rfl⟩).out
  simp[B4,-List.getD_eq_getElem?_getD,-List.map_map,f146,p1,p3,he,g5,Bmg,Bf]
 ·rw[if_neg hs]
  have hb: (D9 xs&&D9 ys)=false:=by
   cases a:D9 xs<;>cases b:D9 ys<;>simp_all
  obtain⟨o,e',X',he,rfl,rfl,g5⟩: ∃o e' X',Bg (Bo (ev R) R.glob (Bc H) Bg L6) [0,1,5,6] ⟨[(0, .d (Bf xs)),(1, .d (Bf ys)),(5, .slc (Bc H) 0 0 0),(6, .d (.int .i64 0))],ap H [.row 0 1 []]⟩=some (o,⟨e',X'⟩)∧o= .exit 0∧X'=ap H [.row 0 1 []]∧e'.get 5= .slc (Bc H) 0 0 0:=by
   have key: ∀e:Env,e.get 0= .d (Bf xs)→e.get 1= .d (Bf ys)→e.get 5= .slc (Bc H) 0 0 0→e.get 6= .d (.int .i64 0)→Gives (fun o e X=>o≠ .normal∧o= .exit 0∧X=ap H [.row 0 1 []]∧e.get 5= .slc (Bc H) 0 0 0) (Bo (ev R) R.glob (Bc H) Bg L6 ⟨e.keep [0,1,5,6],ap H [.row 0 1 []]⟩):=by
    intro e g0 g1 g5 g6
    by_cases hz:0<xs.length
    ·have c: (0:Int)< (xs.length:Int):=by omega
     cases a:D9 xs with
     |true=>
      rw[a,Bool.true_and] at hb
      rw[a] at p1;rw[hb] at p3
      simp[B4,-List.getD_eq_getElem?_getD,-List.map_map,L6,g0,g1,g5,g6,c,hz,p1,p3,Bf]
     |false=>
      rw[a] at p1
      simp[B4,-List.getD_eq_getElem?_getD,-List.map_map,L6,g0,g1,g5,g6,c,hz,p1,Bf]
    ·have c: ¬ (0:Int)< (xs.length:Int):=by omega
     simp[B4,-List.getD_eq_getElem?_getD,-List.map_map,L6,g0,g1,g5,g6,c,hz,Bf]
   obtain⟨o,e',X',h1,h2,h3⟩:=(key [(0, .d (Bf xs)),(1, .d (Bf ys)),(5, .slc (Bc H) 0 0 0),(6, .d (.int .i64 0))] rfl rfl rfl rfl).out
   exact⟨o,e',X',D5 h1 h2,h3⟩
  simp[B4,-List.getD_eq_getElem?_getD,-List.map_map,f146,he,g5,Bf]
theorem Bxl (xs ys:List Bm) (hx:xs.length≤1000000) (hy:ys.length≤1000000):Be (ev R) 148 [.d (Bf xs), .d (Bf ys)]=
  some (.d (Bf (if D9 xs=true∧D9 ys=true then Kg xs ys else[]))):=Bb fun H=>by
 refine Bi (fn:=f148) rfl rfl ?_
 have p1:=Bcb xs (by omega)
 have p3:=Bcb ys (by omega)
 by_cases hs:D9 xs=true∧D9 ys=true
 ·rw[if_pos hs]
  obtain⟨h1,h2⟩:=hs
  rw[h1] at p1
  rw[h2] at p3
  obtain⟨o,e',X',he,rfl,rfl,g5⟩:=(Cl (F:=Bo (ev R) R.glob (Bc H) Bg L7) (lv:=[0,1,5,6]) xs.length
   (fun i e X=> ∃zs,zs=(xs.take i).filter (fun s=> !decide (s∈ys))∧X=ap H [.row zs.length 1 ((zs.map D.str).map V.d)]∧e.get 0= .d (Bf xs)∧e.get 1= .d (Bf ys)∧e.get 5= .slc (Bc H) zs.length 0 zs.length∧e.get 6= .d (.int .i64 i))
   (fun o e X=>o= .exit 0∧X=ap H [.row (xs.filter (fun s=> !decide (s∈ys))).length 1 (((xs.filter (fun s=> !decide (s∈ys))).map D.str).map V.d)]∧e.get 5= .slc (Bc H) (xs.filter (fun s=> !decide (s∈ys))).length 0 (xs.filter (fun s=> !decide (s∈ys))).length)
   (by
    rintro e X ⟨zs,rfl,rfl,g0,g1,g5,g6⟩
    rw[List.take_length] at*
    simp[B4,-List.getD_eq_getElem?_getD,-List.map_map,L7,g0,g1,g5,g6,p1,p3,Bf])
   (by
    rintro i e X hi ⟨zs,hz,rfl,g0,g1,g5,g6⟩
    have c: (i:Int)< (xs.length:Int):=by omega
    have g:=Cw xs i hi
    have w1:IntKind.i64.wrap ((i:Int)+1)=((i+1:Nat):Int):=by rw[IntWalk.i64_in _ (by omega)];rfl
    have hf:=Lj (fun s=> !decide (s∈ys)) xs i [] hi
    have hl:=Ph (fun s=> !decide (s∈ys)) xs i hi
    rw[←hz] at hf hl
    have p2:=Bb9 ys (xs.getD i []) (by omega)
    have r: (zs.length+1)*16≤Cb:=by unfold Cb;omega
    by_cases h: ¬xs.getD i []∈ys
    ·simp only[decide_eq_false h,Bool.not_false,if_true] at hf
     rw[decide_eq_false h] at p2
     simp[B4,-List.getD_eq_getElem?_getD,-List.map_map,L7,g0,g1,g5,g6,p1,p3,c,g,hi,w1,hf,r,p2,p1,p3,Bf]
    ·simp only[decide_eq_true (Classical.not_not.1 h),Bool.not_true,Bool.false_eq_true,if_false,List.append_nil] at hf
     rw[decide_eq_true (Classical.not_not.1 h)] at p2
     simp[B4,-List.getD_eq_getElem?_getD,-List.map_map,L7,g0,g1,g5,g6,p1,p3,c,g,hi,w1,hf,p2,p1,p3,Bf])
   xs.length 0 [(0, .d (Bf xs)),(1, .d (Bf ys)),(5, .slc (Bc H) 0 0 0),(6, .d (.int .i64 0))] (ap H [.row 0 1 []]) (by omega) ⟨[],by simp,rfl,rfl,rfl,rfl,rfl⟩).out
  simp[B4,-List.getD_eq_getElem?_getD,-List.map_map,f148,p1,p3,he,g5,Kg,Bf]
 ·rw[if_neg hs]
  have hb: (D9 xs&&D9 ys)=false:=by
   cases a:D9 xs<;>cases b:D9 ys<;>simp_all
  obtain⟨o,e',X',he,rfl,rfl,g5⟩: ∃o e' X',Bg (Bo (ev R) R.glob (Bc H) Bg L7) [0,1,5,6] ⟨[(0, .d (Bf xs)),(1, .d (Bf ys)),(5, .slc (Bc H) 0 0 0),(6, .d (.int .i64 0))],ap H [.row 0 1 []]⟩=some (o,⟨e',X'⟩)∧o= .exit 0∧X'=ap H [.row 0 1 []]∧e'.get 5= .slc (Bc H) 0 0 0:=by
   have key: ∀e:Env,e.get 0= .d (Bf xs)→e.get 1= .d (Bf ys)→e.get 5= .slc (Bc H) 0 0 0→e.get 6= .d (.int .i64 0)→Gives (fun o e X=>o≠ .normal∧o= .exit 0∧X=ap H [.row 0 1 []]∧e.get 5= .slc (Bc H) 0 0 0) (Bo (ev R) R.glob (Bc H) Bg L7 ⟨e.keep [0,1,5,6],ap H [.row 0 1 []]⟩):=by
    intro e g0 g1 g5 g6
    by_cases hz:0<xs.length
    ·have c: (0:Int)< (xs.length:Int):=by omega
     cases a:D9 xs with
     |true=>
      rw[a,Bool.true_and] at hb
      rw[a] at p1;rw[hb] at p3
      simp[B4,-List.getD_eq_getElem?_getD,-List.map_map,L7,g0,g1,g5,g6,c,hz,p1,p3,Bf]
     |false=>
      rw[a] at p1
      simp[B4,-List.getD_eq_getElem?_getD,-List.map_map,L7,g0,g1,g5,g6,c,hz,p1,Bf]
    ·have c: ¬ (0:Int)< (xs.length:Int):=by omega
     simp[B4,-List.getD_eq_getElem?_getD,-List.map_map,L7,g0,g1,g5,g6,c,hz,Bf]
   obtain⟨o,e',X',h1,h2,h3⟩:=(key [(0, .d (Bf xs)),(1, .d (Bf ys)),(5, .slc (Bc H) 0 0 0),(6, .d (.int .i64 0))] rfl rfl rfl rfl).out
   exact⟨o,e',X',D5 h1 h2,h3⟩
  simp[B4,-List.getD_eq_getElem?_getD,-List.map_map,f148,he,g5,Bf]
def Fv (xs:List Sc) (t:Bm):List Sc:=xs.filter fun x=> !decide (x.1=t)
theorem Bsd (xs:List Sc) (t:Bm) (hx:xs.length≤1000000):Be (ev R) 159 [.d (Cs xs), .d (.str t)]=some (.d (Cs (Fv xs t))):=Bb fun H=>by
 refine Bi (fn:=f159) rfl rfl ?_
 obtain⟨o,e',X',he,rfl,rfl,g5⟩:=(Cl (F:=Bo (ev R) R.glob (Bc H) Bg Uz) (lv:=[0,1,5,6]) xs.length
  (fun i e X=> ∃zs,zs=(xs.take i).filter (fun x=> !decide (x.1=t))∧X=ap H [.row zs.length 2 ((zs.map G1).map V.d)]∧e.get 0= .d (Cs xs)∧e.get 1= .d (.str t)∧e.get 5= .slc (Bc H) zs.length 0 zs.length∧e.get 6= .d (.int .i64 i))
  (fun o e X=>o= .exit 0∧X=ap H [.row (xs.filter (fun x=> !decide (x.1=t))).length 2 (((xs.filter (fun x=> !decide (x.1=t))).map G1).map V.d)]∧e.get 5= .slc (Bc H) (xs.filter (fun x=> !decide (x.1=t))).length 0 (xs.filter (fun x=> !decide (x.1=t))).length)
  (by
   rintro e X ⟨zs,rfl,rfl,g0,g1,g5,g6⟩
   rw[List.take_length] at*
   simp[B4,-List.getD_eq_getElem?_getD,-List.map_map,Uz,g0,g1,g5,g6,Cs])
  (by
   rintro i e X hi ⟨zs,hz,rfl,g0,g1,g5,g6⟩
   have c: (i:Int)< (xs.length:Int):=by omega
   have g:=Kh xs i hi
   have w1:IntKind.i64.wrap ((i:Int)+1)=((i+1:Nat):Int):=by rw[IntWalk.i64_in _ (by omega)];rfl
   have hf:=Lj (fun x=> !decide (x.1=t)) xs i ([],0) hi
   have hl:=Ph (fun x=> !decide (x.1=t)) xs i hi
   rw[←hz] at hf hl
   have r: (zs.length+1)*24≤Cb:=by unfold Cb;omega
   by_cases h: ¬ (xs.getD i ([],0)).1=t
   ·simp only[decide_eq_false h,Bool.not_false,if_true] at hf
    simp[B4,-List.getD_eq_getElem?_getD,-List.map_map,Uz,g0,g1,g5,g6,c,g,hi,w1,hf,r,eq_false h,Cs]
   ·simp only[decide_eq_true (Classical.not_not.1 h),Bool.not_true,Bool.false_eq_true,if_false,List.append_nil] at hf
    have h:=Classical.not_not.1 h
    simp[B4,-List.getD_eq_getElem?_getD,-List.map_map,Uz,g0,g1,g5,g6,c,g,hi,w1,hf,eq_true h,Cs])
  xs.length 0 [(0, .d (Cs xs)),(1, .d (.str t)),(5, .slc (Bc H) 0 0 0),(6, .d (.int .i64 0))] (ap H [.row 0 2 []]) (by omega) ⟨[],by simp,rfl,rfl,rfl,rfl,rfl⟩).out
 simp[B4,-List.getD_eq_getElem?_getD,-List.map_map,f159,he,g5,Fv,Cs]
theorem Bi7 (xs:List Sc) (hx:xs.length≤9223372036854775807):Be (ev R) 58 [.d (Cs xs)]=some (.d (.bool (Cq xs))):=Bb fun H=>Ba6 H xs hx
theorem Bqa (xs:List Pr) (hx:xs.length≤9223372036854775807):Be (ev R) 59 [.d (Dp xs)]=some (.d (.bool (Cx xs))):=Bb fun H=>Ba7 H xs hx
theorem Bc4 {α:Type} (p:α→Bool) (xs:List α): (xs.takeWhile p).length≤xs.length:=(List.takeWhile_prefix p).length_le
theorem Nd {α:Type} (p:α→Bool) (d:α): ∀ (xs:List α) (i:Nat),i≤(xs.takeWhile p).length→i<xs.length→p (xs.getD i d)=true→i+1≤(xs.takeWhile p).length
 | [],i,_,h,_=>by simp at h
 |x::xs,0,_,_,h=>by
  simp only[List.getD_cons_zero] at h
  simp[List.takeWhile,h]
 |x::xs,i+1,h1,h2,h=>by
  cases hp:p x with
  |false=>simp[List.takeWhile,hp] at h1
  |true=>
   simp only[List.takeWhile,hp,List.length_cons] at h1⊢
   have:=Nd p d xs i (by omega) (by simpa using h2) (by simpa using h)
   omega
theorem Nf {α:Type} (p:α→Bool) (d:α): ∀ (xs:List α) (i:Nat),i≤(xs.takeWhile p).length→i<xs.length→p (xs.getD i d)=false→i=(xs.takeWhile p).length
 | [],i,_,h,_=>by simp at h
 |x::xs,0,_,_,h=>by
  simp only[List.getD_cons_zero] at h
  simp[List.takeWhile,h]
 |x::xs,i+1,h1,h2,h=>by
  cases hp:p x with
  |false=>simp[List.takeWhile,hp] at h1
  |true=>
   simp only[List.takeWhile,hp,List.length_cons] at h1⊢
   have:=Nf p d xs i (by omega) (by simpa using h2) (by simpa using h)
   omega
def Sd (xs:List Pr) (t:Bm):Nat:=(xs.takeWhile fun x=>Op.bytesLess x.1 t).length
def Lk (xs:List Pr) (t:Bm):Bool:=decide (Sd xs t<xs.length) &&decide ((xs.getD (Sd xs t) ([],[])).1=t)
theorem Bll (xs:List Pr) (t:Bm):Sd xs t≤xs.length:=Bc4 _ _
theorem Bl7 (xs:List Pr) (t:Bm) (hx:xs.length≤1000000):Be (ev R) 127 [.d (Dp xs), .d (.str t)]=some (.tup [.d (.int .i64 (Sd xs t)), .d (.bool (Lk xs t))]):=Bb fun H=>by
 refine Bi (fn:=f127) rfl rfl ?_
 obtain⟨o,e',X',he,rfl,rfl,g0,g1,g6⟩:=(Cl (F:=Bo (ev R) R.glob (Bc H) Bg Uv) (lv:=[0,1,6]) xs.length
  (fun i e X=>X=H∧e.get 0= .d (Dp xs)∧e.get 1= .d (.str t)∧e.get 6= .d (.int .i64 i)∧i≤Sd xs t)
  (fun o e X=>o= .exit 0∧X=H∧e.get 0= .d (Dp xs)∧e.get 1= .d (.str t)∧e.get 6= .d (.int .i64 (Sd xs t)))
  (by
   rintro e X ⟨rfl,g0,g1,g6,hi⟩
   have hn:Sd xs t=xs.length:=Nat.le_antisymm (Bll xs t) hi
   simp[B4,-List.getD_eq_getElem?_getD,-List.map_map,Uv,g0,g1,g6,hn,Dp])
  (by
   rintro i e X hi ⟨rfl,g0,g1,g6,hk⟩
   have c: (i:Int)< (xs.length:Int):=by omega
   have g:=Rh xs i hi
   have w1:IntKind.i64.wrap ((i:Int)+1)=((i+1:Nat):Int):=by rw[IntWalk.i64_in _ (by omega)];rfl
   cases h:Op.bytesLess (xs.getD i ([],[])).1 t with
   |true=>
    have hn:=Nd (fun x:Pr=>Op.bytesLess x.1 t) ([],[]) xs i hk hi h
    have hn':i+1≤Sd xs t:=hn
    simp[B4,-List.getD_eq_getElem?_getD,-List.map_map,Uv,g0,g1,g6,c,hi,g,w1,h,hn',Dp]
   |false=>
    have hn:i=Sd xs t:=Nf (fun x:Pr=>Op.bytesLess x.1 t) ([],[]) xs i hk hi h
    simp[B4,-List.getD_eq_getElem?_getD,-List.map_map,Uv,g0,g1,g6,c,hi,g,w1,h,←hn,Dp])
  xs.length 0 [(0, .d (Dp xs)),(1, .d (.str t)),(6, .d (.int .i64 0))] H (by omega) ⟨rfl,rfl,rfl,rfl,Nat.zero_le _⟩).out
 by_cases hl:Sd xs t<xs.length
 ·have c: (Sd xs t:Int)< (xs.length:Int):=by omega
  have g:=Rh xs (Sd xs t) hl
  simp[B4,-List.getD_eq_getElem?_getD,-List.map_map,f127,he,g0,g1,g6,hl,c,g,Lk,Dp]
 ·have c: ¬ (Sd xs t:Int)< (xs.length:Int):=by omega
  simp[B4,-List.getD_eq_getElem?_getD,-List.map_map,f127,he,g0,g1,g6,hl,c,Lk,Dp]
def Fj (es:List En) (t:Bm):Nat:=(es.takeWhile fun e=>Op.bytesLess e.key t).length
def Gr (es:List En) (t:Bm):Bool:=decide (Fj es t<es.length) &&decide ((es.getD (Fj es t) default).key=t)
theorem Blv (es:List En) (t:Bm):Fj es t≤es.length:=Bc4 _ _
theorem Bfc (b:Ba) (t:Bm) (hx:b.ents.length≤1000000):Be (ev R) 45 [.d (Cv b), .d (.str t)]=some (.tup [.d (.int .i64 (Fj b.ents t)), .d (.bool (Gr b.ents t))]):=Bb fun H=>by
 refine Bi (fn:=f45) rfl rfl ?_
 obtain⟨o,e',X',he,rfl,rfl,g2,g1,g6⟩:=(Cl (F:=Bo (ev R) R.glob (Bc H) Bg Bbc) (lv:=[1,2,6]) b.ents.length
  (fun i e X=>X=ap H [.row 0 2 [.d (Cv b)]]∧e.get 2= .ptr (Bc H) 0 0 0∧e.get 1= .d (.str t)∧e.get 6= .d (.int .i64 i)∧i≤Fj b.ents t)
  (fun o e X=>o= .exit 0∧X=ap H [.row 0 2 [.d (Cv b)]]∧e.get 2= .ptr (Bc H) 0 0 0∧e.get 1= .d (.str t)∧e.get 6= .d (.int .i64 (Fj b.ents t)))
  (by
   rintro e X ⟨rfl,g2,g1,g6,hi⟩
   have hn:Fj b.ents t=b.ents.length:=Nat.le_antisymm (Blv b.ents t) hi
   simp[B4,-List.getD_eq_getElem?_getD,-List.map_map,Bbc,g2,g1,g6,hn])
  (by
   rintro i e X hi ⟨rfl,g2,g1,g6,hk⟩
   have c: (i:Int)< (b.ents.length:Int):=by omega
   have g:=F4 b.ents i hi
   have w1:IntKind.i64.wrap ((i:Int)+1)=((i+1:Nat):Int):=by rw[IntWalk.i64_in _ (by omega)];rfl
   cases h:Op.bytesLess (b.ents.getD i default).key t with
   |true=>
    have hn:=Nd (fun e:En=>Op.bytesLess e.key t) default b.ents i hk hi h
    have hn':i+1≤Fj b.ents t:=hn
    simp[B4,-List.getD_eq_getElem?_getD,-List.map_map,Bbc,g2,g1,g6,c,hi,g,w1,h,hn']
   |false=>
    have hn:i=Fj b.ents t:=Nf (fun e:En=>Op.bytesLess e.key t) default b.ents i hk hi h
    simp[B4,-List.getD_eq_getElem?_getD,-List.map_map,Bbc,g2,g1,g6,c,hi,g,w1,h,←hn])
  b.ents.length 0 [(1, .d (.str t)),(2, .ptr (Bc H) 0 0 0),(6, .d (.int .i64 0))] (ap H [.row 0 2 [.d (Cv b)]]) (by omega) ⟨rfl,rfl,rfl,rfl,Nat.zero_le _⟩).out
 by_cases hl:Fj b.ents t<b.ents.length
 ·have c: (Fj b.ents t:Int)< (b.ents.length:Int):=by omega
  have g:=F4 b.ents (Fj b.ents t) hl
  simp[B4,-List.getD_eq_getElem?_getD,-List.map_map,f45,he,g2,g1,g6,hl,c,g,Gr]
 ·have c: ¬ (Fj b.ents t:Int)< (b.ents.length:Int):=by omega
  simp[B4,-List.getD_eq_getElem?_getD,-List.map_map,f45,he,g2,g1,g6,hl,c,Gr]
def Dv {α:Type} (xs:List α) (k:Nat) (x:α):List α:=xs.take k++(x::xs.drop k)
theorem Ge {α:Type} (xs:List α) (k:Nat) (x:α): (Dv xs k x).length=xs.length+1:=by
 simp only[Dv,List.length_append,List.length_take,List.length_cons,List.length_drop];omega
theorem Q9 {α:Type} (f:α→D) (xs:List α) (k:Nat) (x:α):List.take k (List.map V.d (List.map f xs))++V.d (f x)::List.drop k (List.map V.d (List.map f xs))=List.map V.d (List.map f (Dv xs k x)):=by
 simp only[Dv,List.map_append,List.map_cons,List.map_take,List.map_drop]
theorem Ra {α:Type} (f:α→D) (xs:List α) (k:Nat) (x:α) (h:k≤xs.length):List.take (k+1+(xs.length - k)) (List.map V.d (List.map f (Dv xs k x)))=List.map V.d (List.map f (Dv xs k x)):=by
 refine List.take_of_length_le ?_
 simp only[List.length_map,Ge];omega
theorem Zt {α:Type} (xs:List α) (k:Nat) (x:α) (h:k≤xs.length): (k+1+(xs.length - k)≤(Dv xs k x).length)=True:=eq_true (by rw[Ge];omega)
def Ti (xs:List Bm) (t:Bm):Nat:=(xs.takeWhile fun x=>Op.bytesLess x t).length
def Bq1 (xs:List Bm) (t:Bm):Bool:=decide (Ti xs t<xs.length) &&decide (xs.getD (Ti xs t) []=t)
theorem Bnf (xs:List Bm) (t:Bm):Ti xs t≤xs.length:=Bc4 _ _
def Xs (xs:List Bm) (t:Bm):List Bm:=if Bq1 xs t=true then xs else Dv xs (Ti xs t) t
theorem Bsb (xs:List Bm) (t:Bm) (hx:xs.length≤1000000):Be (ev R) 125 [.d (Bf xs), .d (.str t)]=some (.d (Bf (Xs xs t))):=Bb fun H=>by
 refine Bi (fn:=f125) rfl rfl ?_
 obtain⟨o,e',X',he,rfl,rfl,g0,g1,g5⟩:=(Cl (F:=Bo (ev R) R.glob (Bc H) Bg Ut) (lv:=[0,1,5]) xs.length
  (fun i e X=>X=H∧e.get 0= .d (Bf xs)∧e.get 1= .d (.str t)∧e.get 5= .d (.int .i64 i)∧i≤Ti xs t)
  (fun o e X=>o= .exit 0∧X=H∧e.get 0= .d (Bf xs)∧e.get 1= .d (.str t)∧e.get 5= .d (.int .i64 (Ti xs t)))
  (by
   rintro e X ⟨rfl,g0,g1,g5,hi⟩
   have hn:Ti xs t=xs.length:=Nat.le_antisymm (Bnf xs t) hi
   simp[B4,-List.getD_eq_getElem?_getD,-List.map_map,Ut,g0,g1,g5,hn,Bf])
  (by
   rintro i e X hi ⟨rfl,g0,g1,g5,hk⟩
   have c: (i:Int)< (xs.length:Int):=by omega
   have g:=Cw xs i hi
   have w1:IntKind.i64.wrap ((i:Int)+1)=((i+1:Nat):Int):=by rw[IntWalk.i64_in _ (by omega)];rfl
   cases h:Op.bytesLess (xs.getD i []) t with
   |true=>
    have hn:=Nd (fun x:Bm=>Op.bytesLess x t) [] xs i hk hi h
    have hn':i+1≤Ti xs t:=hn
    simp[B4,-List.getD_eq_getElem?_getD,-List.map_map,Ut,g0,g1,g5,c,hi,g,w1,h,hn',Bf]
   |false=>
    have hn:i=Ti xs t:=Nf (fun x:Bm=>Op.bytesLess x t) [] xs i hk hi h
    simp[B4,-List.getD_eq_getElem?_getD,-List.map_map,Ut,g0,g1,g5,c,hi,g,w1,h,←hn,Bf])
  xs.length 0 [(0, .d (Bf xs)),(1, .d (.str t)),(5, .d (.int .i64 0))] H (by omega) ⟨rfl,rfl,rfl,rfl,Nat.zero_le _⟩).out
 have hk:=Bnf xs t
 have hk': (Ti xs t:Int)≤(xs.length:Int):=by omega
 have hk0: (0:Int)≤(Ti xs t:Int):=by omega
 have r1:Ti xs t*16≤Cb:=by unfold Cb;omega
 have r2: (Ti xs t+1)*16≤Cb:=by unfold Cb;omega
 have r3: (Ti xs t+1+(xs.length - Ti xs t))*16≤Cb:=by unfold Cb;omega
 have mn:min (Ti xs t) xs.length=Ti xs t:=by omega
 have f1:=Q9 D.str xs (Ti xs t) t
 have f2:=Ra D.str xs (Ti xs t) t hk
 have f3:=Zt xs (Ti xs t) t hk
 unfold Xs
 cases h:Bq1 xs t with
 |true=>
  unfold Bq1 at h
  rw[Bool.and_eq_true,decide_eq_true_eq,decide_eq_true_eq] at h
  obtain⟨hl,h2⟩:=h
  have c: (Ti xs t:Int)< (xs.length:Int):=by omega
  have g:=Cw xs (Ti xs t) hl
  simp[B4,-List.getD_eq_getElem?_getD,-List.map_map,f125,he,g0,g1,g5,hl,c,g,eq_true h2,Bf]
 |false=>
  unfold Bq1 at h
  by_cases hl:Ti xs t<xs.length
  ·rw[decide_eq_true hl,Bool.true_and,decide_eq_false_iff_not] at h
   have c: (Ti xs t:Int)< (xs.length:Int):=by omega
   have g:=Cw xs (Ti xs t) hl
   simp[B4,-List.getD_eq_getElem?_getD,-List.map_map,f125,he,g0,g1,g5,hl,c,g,eq_false h,Bf,Co,hk,hk',hk0,r1,r2,r3,mn,f1,f2,f3]
  ·have c: ¬ (Ti xs t:Int)< (xs.length:Int):=by omega
   simp[B4,-List.getD_eq_getElem?_getD,-List.map_map,f125,he,g0,g1,g5,hl,c,Bf,Co,hk,hk',hk0,r1,r2,r3,mn,f1,f2,f3]
def sAt (xs:List Sc) (x:Sc):Nat:=(xs.takeWhile fun y=>Jn y.1 x.1 y.2 x.2).length
theorem Bm0 (xs:List Sc) (x:Sc):sAt xs x≤xs.length:=Bc4 _ _
def Bci (xs:List Sc) (x:Sc):List Sc:=Dv (Fv xs x.1) (sAt (Fv xs x.1) x) x
theorem Bcm (xs:List Sc) (t:Bm): (Fv xs t).length≤xs.length:=List.length_filter_le _ _
theorem B1h (x y:Sc):Be (ev R) 84 [.d (G1 x), .d (G1 y)]=some (.d (.bool (Jn x.1 y.1 x.2 y.2))):=Bb fun H=>Bs7 H x.1 y.1 x.2 y.2
theorem Bxa (xs:List Sc) (x:Sc) (hx:xs.length≤1000000):Be (ev R) 126 [.d (Cs xs), .d (G1 x)]=
  some (if Cq xs=true then(if Cq (Bci xs x)=true then .tup [.d (Cs (Bci xs x)), .d (.bool (decide ((Fv xs x.1).length=xs.length))), .d (.bool true)] else .tup [.d (Cs xs), .d (.bool false), .d (.bool false)]) else .tup [.d (Cs []), .d (.bool false), .d (.bool false)]):=Bb fun H=>by
 refine Bi (fn:=f126) rfl rfl ?_
 have p1:=Bi7 xs (by omega)
 cases h1:Cq xs with
 |false=>
  rw[h1] at p1
  simp[B4,-List.getD_eq_getElem?_getD,-List.map_map,f126,p1,Cs]
 |true=>
  rw[h1] at p1
  have hw:=Bcm xs x.1
  have p2:=Bsd xs x.1 hx
  have hr:Bci xs x=Dv (Fv xs x.1) (sAt (Fv xs x.1) x) x:=rfl
  generalize Fv xs x.1=ys at*
  obtain⟨o,e',X',he,rfl,rfl,g0,g3,g7,g8⟩:=(Cl (F:=Bo (ev R) R.glob (Bc H) Bg Uu) (lv:=[0,3,7,8]) ys.length
   (fun i e X=>X=ap H [.row 0 2 [.d (G1 x)]]∧e.get 0= .d (Cs xs)∧e.get 3= .ptr (Bc H) 0 0 0∧e.get 7= .d (Cs ys)∧e.get 8= .d (.int .i64 i)∧i≤sAt ys x)
   (fun o e X=>o= .exit 0∧X=ap H [.row 0 2 [.d (G1 x)]]∧e.get 0= .d (Cs xs)∧e.get 3= .ptr (Bc H) 0 0 0∧e.get 7= .d (Cs ys)∧e.get 8= .d (.int .i64 (sAt ys x)))
   (by
    rintro e X ⟨rfl,g0,g3,g7,g8,hi⟩
    have hn:sAt ys x=ys.length:=Nat.le_antisymm (Bm0 ys x) hi
    simp[B4,-List.getD_eq_getElem?_getD,-List.map_map,Uu,g0,g3,g7,g8,hn,Cs])
   (by
    rintro i e X hi ⟨rfl,g0,g3,g7,g8,hk⟩
    have c: (i:Int)< (ys.length:Int):=by omega
    have g:=Kh ys i hi
    have p3:=B1h (ys.getD i ([],0)) x
    have w1:IntKind.i64.wrap ((i:Int)+1)=((i+1:Nat):Int):=by rw[IntWalk.i64_in _ (by omega)];rfl
    cases h:Jn (ys.getD i ([],0)).1 x.1 (ys.getD i ([],0)).2 x.2 with
    |true=>
     rw[h] at p3
     have hn:=Nd (fun y:Sc=>Jn y.1 x.1 y.2 x.2) ([],0) ys i hk hi h
     have hn':i+1≤sAt ys x:=hn
     simp[B4,-List.getD_eq_getElem?_getD,-List.map_map,Uu,g0,g3,g7,g8,c,hi,g,w1,p3,hn',Cs]
    |false=>
     rw[h] at p3
     have hn:i=sAt ys x:=Nf (fun y:Sc=>Jn y.1 x.1 y.2 x.2) ([],0) ys i hk hi h
     simp[B4,-List.getD_eq_getElem?_getD,-List.map_map,Uu,g0,g3,g7,g8,c,hi,g,w1,p3,←hn,Cs])
   ys.length 0 [(0, .d (Cs xs)),(3, .ptr (Bc H) 0 0 0),(7, .d (Cs ys)),(8, .d (.int .i64 0))] (ap H [.row 0 2 [.d (G1 x)]]) (by omega) ⟨rfl,rfl,rfl,rfl,rfl,Nat.zero_le _⟩).out
  have hk:=Bm0 ys x
  rw[hr]
  generalize sAt ys x=k at*
  have hk': (k:Int)≤(ys.length:Int):=by omega
  have hk0: (0:Int)≤(k:Int):=by omega
  have r1:k*24≤Cb:=by unfold Cb;omega
  have r2: (k+1)*24≤Cb:=by unfold Cb;omega
  have r3: (k+1+(ys.length - k))*24≤Cb:=by unfold Cb;omega
  have r4:xs.length*24≤Cb:=by unfold Cb;omega
  have mn:min k ys.length=k:=by omega
  have f1:=Q9 G1 ys k x
  have f2:=Ra G1 ys k x hk
  have f3:=Zt ys k x hk
  have p4:=Bi7 (Dv ys k x) (by rw[Ge];omega)
  have vw:Fi (List.map V.d (List.map G1 (Dv ys k x)))=some (List.map G1 (Dv ys k x)):=Pe _
  have f2':List.take (k+1+(ys.length - k)) (List.map G1 (Dv ys k x))=List.map G1 (Dv ys k x):=by
   refine List.take_of_length_le ?_
   simp only[List.length_map,Ge];omega
  cases h2:Cq (Dv ys k x) with
  |true=>
   rw[h2] at p4
   by_cases hl:ys.length=xs.length
   ·have hl': (ys.length:Int)=(xs.length:Int):=by omega
    simp[B4,-List.getD_eq_getElem?_getD,-List.map_map,f126,p1,p2,he,g0,g3,g7,g8,Co,hk,hk',hk0,r1,r2,r3,r4,mn,f1,f2,f2',f3,p4,eq_true hl,eq_true hl',Cs]
   ·have hl': ¬ (ys.length:Int)=(xs.length:Int):=by omega
    simp[B4,-List.getD_eq_getElem?_getD,-List.map_map,f126,p1,p2,he,g0,g3,g7,g8,Co,hk,hk',hk0,r1,r2,r3,r4,mn,f1,f2,f2',f3,p4,eq_false hl,eq_false hl',Cs]
  |false=>
   rw[h2] at p4
   simp[B4,-List.getD_eq_getElem?_getD,-List.map_map,f126,p1,p2,he,g0,g3,g7,g8,Co,hk,hk',hk0,r1,r2,r3,r4,mn,f1,f2,f2',f3,p4,Cs]
def Fs {α:Type} (xs:List α) (k:Nat):List α:=xs.take k++xs.drop (k+1)
theorem K3 {α:Type} (xs:List α) (k:Nat) (h:k<xs.length): (Fs xs k).length=xs.length - 1:=by
 simp only[Fs,List.length_append,List.length_take,List.length_drop];omega
theorem Q1 {α:Type} (f:α→D) (xs:List α) (k:Nat):List.take k (List.map V.d (List.map f xs))++List.drop (k+1) (List.map V.d (List.map f xs))=List.map V.d (List.map f (Fs xs k)):=by
 simp only[Fs,List.map_append,List.map_take,List.map_drop]
theorem Ba2 {α:Type} (f:α→D) (xs:List α) (k:Nat) (h:k<xs.length):List.take (k+(xs.length - (k+1))) (List.map V.d (List.map f (Fs xs k)))=List.map V.d (List.map f (Fs xs k)):=by
 refine List.take_of_length_le ?_
 simp only[List.length_map,K3 _ _ h];omega
theorem Bld {α:Type} (xs:List α) (k:Nat) (h:k<xs.length): (k+(xs.length - (k+1))≤(Fs xs k).length)=True:=eq_true (by rw[K3 _ _ h];omega)
def S8 (xs:List Pr) (x:Pr):List Pr:=if Lk xs x.1=true then xs.set (Sd xs x.1) x else Dv xs (Sd xs x.1) x
theorem Xa {α:Type} (f:α→D) (xs:List α) (k:Nat) (x:α): (List.map V.d (List.map f xs)).set k (V.d (f x))=List.map V.d (List.map f (xs.set k x)):=by
 simp only[List.map_set]
theorem Bje (xs:List Pr) (x:Pr): (S8 xs x).length≤xs.length+1:=by
 unfold S8
 split
 ·rw[List.length_set];omega
 ·rw[Ge];omega
theorem Bw9 (xs:List Pr) (x:Pr) (hx:xs.length≤1000000):Be (ev R) 105 [.d (Dp xs), .d (Jh x)]=
  some (if Cx xs=true then(if Cx (S8 xs x)=true then .tup [.d (Dp (S8 xs x)), .d (.bool (!Lk xs x.1)), .d (.bool true)] else .tup [.d (Dp xs), .d (.bool false), .d (.bool false)]) else .tup [.d (Dp []), .d (.bool false), .d (.bool false)]):=Bb fun H=>by
 refine Bi (fn:=f105) rfl rfl ?_
 have p1:=Bqa xs (by omega)
 cases h1:Cx xs with
 |false=>
  rw[h1] at p1
  simp[B4,-List.getD_eq_getElem?_getD,-List.map_map,f105,p1,Dp]
 |true=>
  rw[h1] at p1
  have p2:=Bl7 xs x.1 hx
  have hk:=Bll xs x.1
  have hx1:=Bje xs x
  have p4:=Bqa (S8 xs x) (by omega)
  have hr:S8 xs x=if Lk xs x.1=true then xs.set (Sd xs x.1) x else Dv xs (Sd xs x.1) x:=rfl
  have hl:Lk xs x.1=true→Sd xs x.1<xs.length:=fun h=>by
   unfold Lk at h
   rw[Bool.and_eq_true,decide_eq_true_eq] at h
   exact h.1
  generalize Sd xs x.1=k at*
  have hk': (k:Int)≤(xs.length:Int):=by omega
  have hk0: (0:Int)≤(k:Int):=by omega
  have r1:k*32≤Cb:=by unfold Cb;omega
  have r2: (k+1)*32≤Cb:=by unfold Cb;omega
  have r3: (k+1+(xs.length - k))*32≤Cb:=by unfold Cb;omega
  have r4:xs.length*32≤Cb:=by unfold Cb;omega
  have mn:min k xs.length=k:=by omega
  cases h3:Lk xs x.1 with
  |true=>
   have hl:=hl h3
   have hl': (k:Int)< (xs.length:Int):=by omega
   rw[h3] at p2
   rw[h3,if_pos rfl] at hr
   have f1:=Xa Jh xs k x
   rw[hr] at p4⊢
   have f4:List.take xs.length (List.map V.d (List.map Jh (xs.set k x)))=List.map V.d (List.map Jh (xs.set k x)):=List.take_of_length_le (by simp)
   have f5:List.take xs.length (List.map Jh (xs.set k x))=List.map Jh (xs.set k x):=List.take_of_length_le (by simp)
   have f6: (xs.set k x).length=xs.length:=List.length_set
   generalize xs.set k x=zs at*
   cases h2:Cx zs with
   |true=>
    rw[h2] at p4
    simp[B4,-List.getD_eq_getElem?_getD,-List.map_map,f105,p1,p2,r4,hl,hl',hk0,f1,f4,f5,f6,p4,Dp]
   |false=>
    rw[h2] at p4
    simp[B4,-List.getD_eq_getElem?_getD,-List.map_map,f105,p1,p2,r4,hl,hl',hk0,f1,f4,f5,f6,p4,Dp]
  |false=>
   rw[h3] at p2
   rw[h3,if_neg (by simp)] at hr
   rw[hr] at p4⊢
   have f1:=Q9 Jh xs k x
   have f2:=Ra Jh xs k x hk
   have f3:=Zt xs k x hk
   have f2':List.take (k+1+(xs.length - k)) (List.map Jh (Dv xs k x))=List.map Jh (Dv xs k x):=by
    refine List.take_of_length_le ?_
    simp only[List.length_map,Ge];omega
   cases h2:Cx (Dv xs k x) with
   |true=>
    rw[h2] at p4
    simp[B4,-List.getD_eq_getElem?_getD,-List.map_map,f105,p1,p2,Co,hk,hk',hk0,r1,r2,r3,r4,mn,f1,f2,f2',f3,p4,Dp]
   |false=>
    rw[h2] at p4
    simp[B4,-List.getD_eq_getElem?_getD,-List.map_map,f105,p1,p2,Co,hk,hk',hk0,r1,r2,r3,r4,mn,f1,f2,f2',f3,p4,Dp]
theorem Bxq (xs:List Pr) (t:Bm) (hx:xs.length≤1000000):Be (ev R) 155 [.d (Dp xs), .d (.str t)]=
  some (if Cx xs=true then .tup [.d (Dp (if Lk xs t=true then Fs xs (Sd xs t) else xs)), .d (.bool (Lk xs t))] else .tup [.d (Dp []), .d (.bool false)]):=Bb fun H=>by
 refine Bi (fn:=f155) rfl rfl ?_
 have p1:=Bqa xs (by omega)
 cases h1:Cx xs with
 |false=>
  rw[h1] at p1
  simp[B4,-List.getD_eq_getElem?_getD,-List.map_map,f155,p1,Dp]
 |true=>
  rw[h1] at p1
  have p2:=Bl7 xs t hx
  have hl:Lk xs t=true→Sd xs t<xs.length:=fun h=>by
   unfold Lk at h
   rw[Bool.and_eq_true,decide_eq_true_eq] at h
   exact h.1
  generalize Sd xs t=k at*
  have r4:xs.length*32≤Cb:=by unfold Cb;omega
  cases h3:Lk xs t with
  |false=>
   rw[h3] at p2
   simp[B4,-List.getD_eq_getElem?_getD,-List.map_map,f155,p1,p2,r4,Dp]
  |true=>
   rw[h3] at p2
   have hl:=hl h3
   have hk:k≤xs.length:=by omega
   have hk': (k:Int)≤(xs.length:Int):=by omega
   have hk0: (0:Int)≤(k:Int):=by omega
   have w1:IntKind.i64.wrap ((k:Int)+1)=((k+1:Nat):Int):=by rw[IntWalk.i64_in _ (by omega)];rfl
   have hk1: (k:Int)+1≤(xs.length:Int):=by omega
   have hk4: ((k:Int)+1).toNat=k+1:=by omega
   have hk2:k+1≤xs.length:=by omega
   have hk3: (0:Int)≤(k:Int)+1:=by omega
   have r1:k*32≤Cb:=by unfold Cb;omega
   have r3: (k+(xs.length - (k+1)))*32≤Cb:=by unfold Cb;omega
   have mn:min k xs.length=k:=by omega
   have f1:=Q1 Jh xs k
   have f2:=Ba2 Jh xs k hl
   have f3:=Bld xs k hl
   simp[B4,-List.getD_eq_getElem?_getD,-List.map_map,f155,p1,p2,Co,hl,hk,hk',hk0,w1,hk1,hk2,hk3,hk4,r1,r3,mn,f1,f2,f3,Dp]
theorem Bxp (xs:List Pr) (t:Bm) (hx:xs.length≤1000000):Be (ev R) 154 [.d (Dp xs), .d (.str t)]=
  some (if Cx xs=true∧Lk xs t=true then .tup [.d (.str (xs.getD (Sd xs t) ([],[])).2), .d (.bool true)] else .tup [.d (.str []), .d (.bool false)]):=Bb fun H=>by
 refine Bi (fn:=f154) rfl rfl ?_
 have p1:=Bqa xs (by omega)
 have p2:=Bl7 xs t hx
 cases h1:Cx xs with
 |false=>
  rw[h1] at p1
  simp[B4,-List.getD_eq_getElem?_getD,-List.map_map,f154,p1,p2,Dp]
 |true=>
  rw[h1] at p1
  have hl:Lk xs t=true→Sd xs t<xs.length:=fun h=>by
   unfold Lk at h
   rw[Bool.and_eq_true,decide_eq_true_eq] at h
   exact h.1
  generalize Sd xs t=k at*
  cases h3:Lk xs t with
  |false=>
   rw[h3] at p2
   simp[B4,-List.getD_eq_getElem?_getD,-List.map_map,f154,p1,p2,Dp]
  |true=>
   rw[h3] at p2
   have hl:=hl h3
   have hl': (k:Int)< (xs.length:Int):=by omega
   have hk0: (0:Int)≤(k:Int):=by omega
   have g:=Rh xs k hl
   simp[B4,-List.getD_eq_getElem?_getD,-List.map_map,f154,p1,p2,g,hl,hl',hk0,Dp]
theorem Bxm (xs:List Sc) (t:Bm) (hx:xs.length≤1000000):Be (ev R) 149 [.d (Cs xs), .d (.str t)]=
  some (if Cq xs=true then .tup [.d (Cs (Fv xs t)), .d (.bool (decide ((Fv xs t).length<xs.length)))] else .tup [.d (Cs []), .d (.bool false)]):=Bb fun H=>by
 refine Bi (fn:=f149) rfl rfl ?_
 have p1:=Bi7 xs (by omega)
 have p2:=Bsd xs t hx
 cases h1:Cq xs with
 |false=>
  rw[h1] at p1
  simp[B4,-List.getD_eq_getElem?_getD,-List.map_map,f149,p1,Cs]
 |true=>
  rw[h1] at p1
  generalize Fv xs t=ys at*
  simp[B4,-List.getD_eq_getElem?_getD,-List.map_map,f149,p1,p2,Cs]
def Fu (xs:List Sc) (t:Bm):Int:=if Cq xs=true then(if(xs.takeWhile fun x=> !decide (x.1=t)).length<xs.length then((xs.takeWhile fun x=> !decide (x.1=t)).length:Int) else -1) else -1
theorem Bhe (xs:List Sc) (t:Bm) (hx:xs.length≤1000000):Be (ev R) 150 [.d (Cs xs), .d (.str t)]=some (.d (.int .i64 (Fu xs t))):=Bb fun H=>by
 refine Bi (fn:=f150) rfl rfl ?_
 have p1:=Bi7 xs (by omega)
 have key:Gives (fun o e X=>X=H∧(o= .exit 0∧Fu xs t= -1∨o= .ret∧e.get 4= .d (.int .i64 (Fu xs t)))) (Bg (Bo (ev R) R.glob (Bc H) Bg Qg) [0,1,5] ⟨[(0, .d (Cs xs)),(1, .d (.str t)),(5, .d (.int .i64 0))],H⟩):=by
  refine Cl (F:=Bo (ev R) R.glob (Bc H) Bg Qg) (lv:=[0,1,5]) xs.length
   (fun i e X=>X=H∧e.get 0= .d (Cs xs)∧e.get 1= .d (.str t)∧e.get 5= .d (.int .i64 i)∧i≤(xs.takeWhile fun x=> !decide (x.1=t)).length) _ ?_ ?_ xs.length 0 _ _ (by omega) ⟨rfl,rfl,rfl,rfl,Nat.zero_le _⟩
  ·rintro e X ⟨rfl,g0,g1,g5,hi⟩
   have hn: ¬ (xs.takeWhile fun x=> !decide (x.1=t)).length<xs.length:=by omega
   have hr:Fu xs t= -1:=by unfold Fu;rw[if_neg hn];split<;>rfl
   simp[B4,-List.getD_eq_getElem?_getD,-List.map_map,Qg,g0,g1,g5,hr,Cs]
  ·rintro i e X hi ⟨rfl,g0,g1,g5,hk⟩
   have c: (i:Int)< (xs.length:Int):=by omega
   have g:=Kh xs i hi
   have w1:IntKind.i64.wrap ((i:Int)+1)=((i+1:Nat):Int):=by rw[IntWalk.i64_in _ (by omega)];rfl
   cases h1:Cq xs with
   |false=>
    rw[h1] at p1
    have hr:Fu xs t= -1:=by unfold Fu;rw[h1];simp
    simp[B4,-List.getD_eq_getElem?_getD,-List.map_map,Qg,g0,g1,g5,c,hi,p1,hr,Cs]
   |true=>
    rw[h1] at p1
    by_cases h: (xs.getD i ([],0)).1=t
    ·have hn:=Nf (fun x:Sc=> !decide (x.1=t)) ([],0) xs i hk hi (by simp only[decide_eq_true h,Bool.not_true])
     have hr:Fu xs t=(i:Int):=by unfold Fu;rw[h1,if_pos rfl,←hn,if_pos hi]
     simp[B4,-List.getD_eq_getElem?_getD,-List.map_map,Qg,g0,g1,g5,c,hi,g,p1,w1,eq_true h,hr,Cs]
    ·have hn:=Nd (fun x:Sc=> !decide (x.1=t)) ([],0) xs i hk hi (by simp only[decide_eq_false h,Bool.not_false])
     simp[B4,-List.getD_eq_getElem?_getD,-List.map_map,Qg,g0,g1,g5,c,hi,g,p1,w1,eq_false h,hn,Cs]
 obtain⟨o,e',X',he,rfl,g⟩:=key.out
 rcases g with⟨rfl,g⟩ | ⟨rfl,g4⟩
 ·simp[B4,-List.getD_eq_getElem?_getD,-List.map_map,f150,he,g]
 ·simp[B4,-List.getD_eq_getElem?_getD,-List.map_map,f150,he,g4]
end Go.Proofs.YtjdmiodinhlchaaGreat.Code

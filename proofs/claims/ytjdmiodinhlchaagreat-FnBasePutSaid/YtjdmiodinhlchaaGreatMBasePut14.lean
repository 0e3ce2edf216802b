/- Lemmas (several texts in one). -/
import Derived.Test.YtjdmiodinhlchaaGreatMBasePut7
import Derived.Test.YtjdmiodinhlchaaGreatMBasePut8
import Derived.Test.YtjdmiodinhlchaaGreatMBasePut10
import Derived.Test.YtjdmiodinhlchaaGreatMBasePut11
import Derived.Test.YtjdmiodinhlchaaGreatMBasePut13
set_option maxRecDepth 100000
set_option linter.unusedSimpArgs false
set_option linter.unusedVariables false
namespace Go.Proofs.YtjdmiodinhlchaaGreat.Code
open Go Go.Ev Go.Proofs
def Br1 (xs ys:List Bp):List Bp:=xs.filter fun s=>decide (s∈ys)
theorem B3s (xs ys:List Bp) (hx:xs.length≤1000000) (hy:ys.length≤1000000):Be (ev R) 146 [.d (Bf xs), .d (Bf ys)]=
  some (.d (Bf (if Gi xs=true∧Gi ys=true then Br1 xs ys else[]))):=Bb fun H=>by
 refine Bh (fn:=f146) rfl rfl ?_
 have p1:=Bhf xs (by omega)
 have p3:=Bhf ys (by omega)
 by_cases hs:Gi xs=true∧Gi ys=true
 ·rw[if_pos hs]
  obtain⟨h1,h2⟩:=hs
  rw[h1] at p1
  rw[h2] at p3
  obtain⟨o,e',X',he,rfl,rfl,g5⟩:=(Dh (F:=Bq (ev R) R.glob (Bc H) Bg P8) (lv:=[0,1,5,6]) xs.length
   (fun i e X=> ∃zs,zs=(xs.take i).filter (fun s=>decide (s∈ys))∧X=ap H [.row zs.length 1 ((zs.map D.str).map V.d)]∧e.get 0= .d (Bf xs)∧e.get 1= .d (Bf ys)∧e.get 5= .slc (Bc H) zs.length 0 zs.length∧e.get 6= .d (.int .i64 i))
   (fun o e X=>o= .exit 0∧X=ap H [.row (xs.filter (fun s=>decide (s∈ys))).length 1 (((xs.filter (fun s=>decide (s∈ys))).map D.str).map V.d)]∧e.get 5= .slc (Bc H) (xs.filter (fun s=>decide (s∈ys))).length 0 (xs.filter (fun s=>decide (s∈ys))).length)
   (by
    rintro e X ⟨zs,rfl,rfl,g0,g1,g5,g6⟩
    rw[List.take_length] at*
    simp[Cn,-List.getD_eq_getElem?_getD,-List.map_map,P8,g0,g1,g5,g6,p1,p3,Bf])
   (by
    rintro i e X hi ⟨zs,hz,rfl,g0,g1,g5,g6⟩
    have c: (i:Int)< (xs.length:Int):=by omega
    have g:=Dv xs i hi
    have w1:IntKind.i64.wrap ((i:Int)+1)=((i+1:Nat):Int):=by rw[IntWalk.i64_in _ (by omega)];rfl
    have hf:=Pf (fun s=>decide (s∈ys)) xs i [] hi
    have hl:=Tj (fun s=>decide (s∈ys)) xs i hi
    rw[←hz] at hf hl
    have p2:=Bhc ys (xs.getD i []) (by omega)
    have r: (zs.length+1)*16≤Cv:=by unfold Cv;omega
    by_cases h:xs.getD i []∈ys
    ·simp only[decide_eq_true h,Bool.not_true,if_true] at hf
     rw[decide_eq_true h] at p2
     simp[Cn,-List.getD_eq_getElem?_getD,-List.map_map,P8,g0,g1,g5,g6,p1,p3,c,g,hi,w1,hf,r,p2,p1,p3,Bf]
    ·simp only[decide_eq_false h,Bool.not_false,Bool.false_eq_true,if_false,List.append_nil] at hf
     rw[decide_eq_false h] at p2
     simp[Cn,-List.getD_eq_getElem?_getD,-List.map_map,P8,g0,g1,g5,g6,p1,p3,c,g,hi,w1,hf,p2,p1,p3,Bf])
   xs.length 0 [(0, .d (Bf xs)),(1, .d (Bf ys)),(5, .slc (Bc H) 0 0 0),(6, .d (.int .i64 0))] (ap H [.row 0 1 []]) (by omega) ⟨[],by simp,rfl,rfl,rfl,rfl,rfl⟩).out
  simp[Cn,-List.getD_eq_getElem?_getD,-List.map_map,f146,p1,p3,he,g5,Br1,Bf]
 ·rw[if_neg hs]
  have hb: (Gi xs&&Gi ys)=false:=by
   cases a:Gi xs<;>cases b:Gi ys<;>simp_all
  obtain⟨o,e',X',he,rfl,rfl,g5⟩: ∃o e' X',Bg (Bq (ev R) R.glob (Bc H) Bg P8) [0,1,5,6] ⟨[(0, .d (Bf xs)),(1, .d (Bf ys)),(5, .slc (Bc H) 0 0 0),(6, .d (.int .i64 0))],ap H [.row 0 1 []]⟩=some (o,⟨e',X'⟩)∧o= .exit 0∧X'=ap H [.row 0 1 []]∧e'.get 5= .slc (Bc H) 0 0 0:=by
   have key: ∀e:Env,e.get 0= .d (Bf xs)→e.get 1= .d (Bf ys)→e.get 5= .slc (Bc H) 0 0 0→e.get 6= .d (.int .i64 0)→Gives (fun o e X=>o≠ .normal∧o= .exit 0∧X=ap H [.row 0 1 []]∧e.get 5= .slc (Bc H) 0 0 0) (Bq (ev R) R.glob (Bc H) Bg P8 ⟨e.keep [0,1,5,6],ap H [.row 0 1 []]⟩):=by
    intro e g0 g1 g5 g6
    by_cases hz:0<xs.length
    ·have c: (0:Int)< (xs.length:Int):=by omega
     cases a:Gi xs with
     |true=>
      rw[a,Bool.true_and] at hb
      rw[a] at p1;rw[hb] at p3
      simp[Cn,-List.getD_eq_getElem?_getD,-List.map_map,P8,g0,g1,g5,g6,c,hz,p1,p3,Bf]
     |false=>
      rw[a] at p1
      simp[Cn,-List.getD_eq_getElem?_getD,-List.map_map,P8,g0,g1,g5,g6,c,hz,p1,Bf]
    ·have c: ¬ (0:Int)< (xs.length:Int):=by omega
     simp[Cn,-List.getD_eq_getElem?_getD,-List.map_map,P8,g0,g1,g5,g6,c,hz,Bf]
   obtain⟨o,e',X',h1,h2,h3⟩:=(key [(0, .d (Bf xs)),(1, .d (Bf ys)),(5, .slc (Bc H) 0 0 0),(6, .d (.int .i64 0))] rfl rfl rfl rfl).out
   exact⟨o,e',X',Gh h1 h2,h3⟩
  simp[Cn,-List.getD_eq_getElem?_getD,-List.map_map,f146,he,g5,Bf]
theorem B3u (xs ys:List Bp) (hx:xs.length≤1000000) (hy:ys.length≤1000000):Be (ev R) 148 [.d (Bf xs), .d (Bf ys)]=
  some (.d (Bf (if Gi xs=true∧Gi ys=true then Mt xs ys else[]))):=Bb fun H=>by
 refine Bh (fn:=f148) rfl rfl ?_
 have p1:=Bhf xs (by omega)
 have p3:=Bhf ys (by omega)
 by_cases hs:Gi xs=true∧Gi ys=true
 ·rw[if_pos hs]
  obtain⟨h1,h2⟩:=hs
  rw[h1] at p1
  rw[h2] at p3
  obtain⟨o,e',X',he,rfl,rfl,g5⟩:=(Dh (F:=Bq (ev R) R.glob (Bc H) Bg P9) (lv:=[0,1,5,6]) xs.length
   (fun i e X=> ∃zs,zs=(xs.take i).filter (fun s=> !decide (s∈ys))∧X=ap H [.row zs.length 1 ((zs.map D.str).map V.d)]∧e.get 0= .d (Bf xs)∧e.get 1= .d (Bf ys)∧e.get 5= .slc (Bc H) zs.length 0 zs.length∧e.get 6= .d (.int .i64 i))
   (fun o e X=>o= .exit 0∧X=ap H [.row (xs.filter (fun s=> !decide (s∈ys))).length 1 (((xs.filter (fun s=> !decide (s∈ys))).map D.str).map V.d)]∧e.get 5= .slc (Bc H) (xs.filter (fun s=> !decide (s∈ys))).length 0 (xs.filter (fun s=> !decide (s∈ys))).length)
   (by
    rintro e X ⟨zs,rfl,rfl,g0,g1,g5,g6⟩
    rw[List.take_length] at*
    simp[Cn,-List.getD_eq_getElem?_getD,-List.map_map,P9,g0,g1,g5,g6,p1,p3,Bf])
   (by
    rintro i e X hi ⟨zs,hz,rfl,g0,g1,g5,g6⟩
    have c: (i:Int)< (xs.length:Int):=by omega
    have g:=Dv xs i hi
    have w1:IntKind.i64.wrap ((i:Int)+1)=((i+1:Nat):Int):=by rw[IntWalk.i64_in _ (by omega)];rfl
    have hf:=Pf (fun s=> !decide (s∈ys)) xs i [] hi
    have hl:=Tj (fun s=> !decide (s∈ys)) xs i hi
    rw[←hz] at hf hl
    have p2:=Bhc ys (xs.getD i []) (by omega)
    have r: (zs.length+1)*16≤Cv:=by unfold Cv;omega
    by_cases h: ¬xs.getD i []∈ys
    ·simp only[decide_eq_false h,Bool.not_false,if_true] at hf
     rw[decide_eq_false h] at p2
     simp[Cn,-List.getD_eq_getElem?_getD,-List.map_map,P9,g0,g1,g5,g6,p1,p3,c,g,hi,w1,hf,r,p2,p1,p3,Bf]
    ·simp only[decide_eq_true (Classical.not_not.1 h),Bool.not_true,Bool.false_eq_true,if_false,List.append_nil] at hf
     rw[decide_eq_true (Classical.not_not.1 h)] at p2
     simp[Cn,-List.getD_eq_getElem?_getD,-List.map_map,P9,g0,g1,g5,g6,p1,p3,c,g,hi,w1,hf,p2,p1,p3,Bf])
   xs.length 0 [(0, .d (Bf xs)),(1, .d (Bf ys)),(5, .slc (Bc H) 0 0 0),(6, .d (.int .i64 0))] (ap H [.row 0 1 []]) (by omega) ⟨[],by simp,rfl,rfl,rfl,rfl,rfl⟩).out
  simp[Cn,-List.getD_eq_getElem?_getD,-List.map_map,f148,p1,p3,he,g5,Mt,Bf]
 ·rw[if_neg hs]
  have hb: (Gi xs&&Gi ys)=false:=by
   cases a:Gi xs<;>cases b:Gi ys<;>simp_all
  obtain⟨o,e',X',he,rfl,rfl,g5⟩: ∃o e' X',Bg (Bq (ev R) R.glob (Bc H) Bg P9) [0,1,5,6] ⟨[(0, .d (Bf xs)),(1, .d (Bf ys)),(5, .slc (Bc H) 0 0 0),(6, .d (.int .i64 0))],ap H [.row 0 1 []]⟩=some (o,⟨e',X'⟩)∧o= .exit 0∧X'=ap H [.row 0 1 []]∧e'.get 5= .slc (Bc H) 0 0 0:=by
   have key: ∀e:Env,e.get 0= .d (Bf xs)→e.get 1= .d (Bf ys)→e.get 5= .slc (Bc H) 0 0 0→e.get 6= .d (.int .i64 0)→Gives (fun o e X=>o≠ .normal∧o= .exit 0∧X=ap H [.row 0 1 []]∧e.get 5= .slc (Bc H) 0 0 0) (Bq (ev R) R.glob (Bc H) Bg P9 ⟨e.keep [0,1,5,6],ap H [.row 0 1 []]⟩):=by
    intro e g0 g1 g5 g6
    by_cases hz:0<xs.length
    ·have c: (0:Int)< (xs.length:Int):=by omega
     cases a:Gi xs with
     |true=>
      rw[a,Bool.true_and] at hb
      rw[a] at p1;rw[hb] at p3
      simp[Cn,-List.getD_eq_getElem?_getD,-List.map_map,P9,g0,g1,g5,g6,c,hz,p1,p3,Bf]
     |false=>
      rw[a] at p1
      simp[Cn,-List.getD_eq_getElem?_getD,-List.map_map,P9,g0,g1,g5,g6,c,hz,p1,Bf]
    ·have c: ¬ (0:Int)< (xs.length:Int):=by omega
     simp[Cn,-List.getD_eq_getElem?_getD,-List.map_map,P9,g0,g1,g5,g6,c,hz,Bf]
   obtain⟨o,e',X',h1,h2,h3⟩:=(key [(0, .d (Bf xs)),(1, .d (Bf ys)),(5, .slc (Bc H) 0 0 0),(6, .d (.int .i64 0))] rfl rfl rfl rfl).out
   exact⟨o,e',X',Gh h1 h2,h3⟩
  simp[Cn,-List.getD_eq_getElem?_getD,-List.map_map,f148,he,g5,Bf]
def F7 (xs:List Sc) (t:Bp):List Sc:=xs.filter fun x=> !decide (x.1=t)
theorem Bye (xs:List Sc) (t:Bp) (hx:xs.length≤1000000):Be (ev R) 159 [.d (Dr xs), .d (.str t)]=some (.d (Dr (F7 xs t))):=Bb fun H=>by
 refine Bh (fn:=f159) rfl rfl ?_
 obtain⟨o,e',X',he,rfl,rfl,g5⟩:=(Dh (F:=Bq (ev R) R.glob (Bc H) Bg Ba4) (lv:=[0,1,5,6]) xs.length
  (fun i e X=> ∃zs,zs=(xs.take i).filter (fun x=> !decide (x.1=t))∧X=ap H [.row zs.length 2 ((zs.map Jq).map V.d)]∧e.get 0= .d (Dr xs)∧e.get 1= .d (.str t)∧e.get 5= .slc (Bc H) zs.length 0 zs.length∧e.get 6= .d (.int .i64 i))
  (fun o e X=>o= .exit 0∧X=ap H [.row (xs.filter (fun x=> !decide (x.1=t))).length 2 (((xs.filter (fun x=> !decide (x.1=t))).map Jq).map V.d)]∧e.get 5= .slc (Bc H) (xs.filter (fun x=> !decide (x.1=t))).length 0 (xs.filter (fun x=> !decide (x.1=t))).length)
  (by
   rintro e X ⟨zs,rfl,rfl,g0,g1,g5,g6⟩
   rw[List.take_length] at*
   simp[Cn,-List.getD_eq_getElem?_getD,-List.map_map,Ba4,g0,g1,g5,g6,Dr])
  (by
   rintro i e X hi ⟨zs,hz,rfl,g0,g1,g5,g6⟩
   have c: (i:Int)< (xs.length:Int):=by omega
   have g:=Mv xs i hi
   have w1:IntKind.i64.wrap ((i:Int)+1)=((i+1:Nat):Int):=by rw[IntWalk.i64_in _ (by omega)];rfl
   have hf:=Pf (fun x=> !decide (x.1=t)) xs i ([],0) hi
   have hl:=Tj (fun x=> !decide (x.1=t)) xs i hi
   rw[←hz] at hf hl
   have r: (zs.length+1)*24≤Cv:=by unfold Cv;omega
   by_cases h: ¬ (xs.getD i ([],0)).1=t
   ·simp only[decide_eq_false h,Bool.not_false,if_true] at hf
    simp[Cn,-List.getD_eq_getElem?_getD,-List.map_map,Ba4,g0,g1,g5,g6,c,g,hi,w1,hf,r,eq_false h,Dr]
   ·simp only[decide_eq_true (Classical.not_not.1 h),Bool.not_true,Bool.false_eq_true,if_false,List.append_nil] at hf
    have h:=Classical.not_not.1 h
    simp[Cn,-List.getD_eq_getElem?_getD,-List.map_map,Ba4,g0,g1,g5,g6,c,g,hi,w1,hf,eq_true h,Dr])
  xs.length 0 [(0, .d (Dr xs)),(1, .d (.str t)),(5, .slc (Bc H) 0 0 0),(6, .d (.int .i64 0))] (ap H [.row 0 2 []]) (by omega) ⟨[],by simp,rfl,rfl,rfl,rfl,rfl⟩).out
 simp[Cn,-List.getD_eq_getElem?_getD,-List.map_map,f159,he,g5,F7,Dr]
theorem Bom (xs:List Sc) (hx:xs.length≤9223372036854775807):Be (ev R) 58 [.d (Dr xs)]=some (.d (.bool (Dg xs))):=Bb fun H=>Bf4 H xs hx
theorem Bv3 (xs:List Pr) (hx:xs.length≤9223372036854775807):Be (ev R) 59 [.d (Fs xs)]=some (.d (.bool (Dw xs))):=Bb fun H=>Bf5 H xs hx
theorem Bh8 {α:Type} (p:α→Bool) (xs:List α): (xs.takeWhile p).length≤xs.length:=(List.takeWhile_prefix p).length_le
theorem Rn {α:Type} (p:α→Bool) (d:α): ∀ (xs:List α) (i:Nat),i≤(xs.takeWhile p).length→i<xs.length→p (xs.getD i d)=true→i+1≤(xs.takeWhile p).length
 | [],i,_,h,_=>by simp at h
 |x::xs,0,_,_,h=>by
  simp only[List.getD_cons_zero] at h
  simp[List.takeWhile,h]
 |x::xs,i+1,h1,h2,h=>by
  cases hp:p x with
  |false=>simp[List.takeWhile,hp] at h1
  |true=>
   simp only[List.takeWhile,hp,List.length_cons] at h1⊢
   have:=Rn p d xs i (by omega) (by simpa using h2) (by simpa using h)
   omega
theorem Ro {α:Type} (p:α→Bool) (d:α): ∀ (xs:List α) (i:Nat),i≤(xs.takeWhile p).length→i<xs.length→p (xs.getD i d)=false→i=(xs.takeWhile p).length
 | [],i,_,h,_=>by simp at h
 |x::xs,0,_,_,h=>by
  simp only[List.getD_cons_zero] at h
  simp[List.takeWhile,h]
 |x::xs,i+1,h1,h2,h=>by
  cases hp:p x with
  |false=>simp[List.takeWhile,hp] at h1
  |true=>
   simp only[List.takeWhile,hp,List.length_cons] at h1⊢
   have:=Ro p d xs i (by omega) (by simpa using h2) (by simpa using h)
   omega
def Rv (xs:List Pr) (t:Bp):Nat:=(xs.takeWhile fun x=>Op.bytesLess x.1 t).length
def Ma (xs:List Pr) (t:Bp):Bool:=decide (Rv xs t<xs.length) &&decide ((xs.getD (Rv xs t) ([],[])).1=t)
theorem Bq2 (xs:List Pr) (t:Bp):Rv xs t≤xs.length:=Bh8 _ _
theorem Brr (xs:List Pr) (t:Bp) (hx:xs.length≤1000000):Be (ev R) 127 [.d (Fs xs), .d (.str t)]=some (.tup [.d (.int .i64 (Rv xs t)), .d (.bool (Ma xs t))]):=Bb fun H=>by
 refine Bh (fn:=f127) rfl rfl ?_
 obtain⟨o,e',X',he,rfl,rfl,g0,g1,g6⟩:=(Dh (F:=Bq (ev R) R.glob (Bc H) Bg Ba0) (lv:=[0,1,6]) xs.length
  (fun i e X=>X=H∧e.get 0= .d (Fs xs)∧e.get 1= .d (.str t)∧e.get 6= .d (.int .i64 i)∧i≤Rv xs t)
  (fun o e X=>o= .exit 0∧X=H∧e.get 0= .d (Fs xs)∧e.get 1= .d (.str t)∧e.get 6= .d (.int .i64 (Rv xs t)))
  (by
   rintro e X ⟨rfl,g0,g1,g6,hi⟩
   have hn:Rv xs t=xs.length:=Nat.le_antisymm (Bq2 xs t) hi
   simp[Cn,-List.getD_eq_getElem?_getD,-List.map_map,Ba0,g0,g1,g6,hn,Fs])
  (by
   rintro i e X hi ⟨rfl,g0,g1,g6,hk⟩
   have c: (i:Int)< (xs.length:Int):=by omega
   have g:=Xd xs i hi
   have w1:IntKind.i64.wrap ((i:Int)+1)=((i+1:Nat):Int):=by rw[IntWalk.i64_in _ (by omega)];rfl
   cases h:Op.bytesLess (xs.getD i ([],[])).1 t with
   |true=>
    have hn:=Rn (fun x:Pr=>Op.bytesLess x.1 t) ([],[]) xs i hk hi h
    have hn':i+1≤Rv xs t:=hn
    simp[Cn,-List.getD_eq_getElem?_getD,-List.map_map,Ba0,g0,g1,g6,c,hi,g,w1,h,hn',Fs]
   |false=>
    have hn:i=Rv xs t:=Ro (fun x:Pr=>Op.bytesLess x.1 t) ([],[]) xs i hk hi h
    simp[Cn,-List.getD_eq_getElem?_getD,-List.map_map,Ba0,g0,g1,g6,c,hi,g,w1,h,←hn,Fs])
  xs.length 0 [(0, .d (Fs xs)),(1, .d (.str t)),(6, .d (.int .i64 0))] H (by omega) ⟨rfl,rfl,rfl,rfl,Nat.zero_le _⟩).out
 by_cases hl:Rv xs t<xs.length
 ·have c: (Rv xs t:Int)< (xs.length:Int):=by omega
  have g:=Xd xs (Rv xs t) hl
  simp[Cn,-List.getD_eq_getElem?_getD,-List.map_map,f127,he,g0,g1,g6,hl,c,g,Ma,Fs]
 ·have c: ¬ (Rv xs t:Int)< (xs.length:Int):=by omega
  simp[Cn,-List.getD_eq_getElem?_getD,-List.map_map,f127,he,g0,g1,g6,hl,c,Ma,Fs]
def J2 (es:List En) (t:Bp):Nat:=(es.takeWhile fun e=>Op.bytesLess e.key t).length
def Jz (es:List En) (t:Bp):Bool:=decide (J2 es t<es.length) &&decide ((es.getD (J2 es t) default).key=t)
theorem Bjt (es:List En) (t:Bp):J2 es t≤es.length:=Bh8 _ _
theorem Bru (b:Ba) (t:Bp) (hx:b.ents.length≤1000000):Be (ev R) 45 [.d (Dx b), .d (.str t)]=some (.tup [.d (.int .i64 (J2 b.ents t)), .d (.bool (Jz b.ents t))]):=Bb fun H=>by
 refine Bh (fn:=f45) rfl rfl ?_
 obtain⟨o,e',X',he,rfl,rfl,g2,g1,g6⟩:=(Dh (F:=Bq (ev R) R.glob (Bc H) Bg Bga) (lv:=[1,2,6]) b.ents.length
  (fun i e X=>X=ap H [.row 0 2 [.d (Dx b)]]∧e.get 2= .ptr (Bc H) 0 0 0∧e.get 1= .d (.str t)∧e.get 6= .d (.int .i64 i)∧i≤J2 b.ents t)
  (fun o e X=>o= .exit 0∧X=ap H [.row 0 2 [.d (Dx b)]]∧e.get 2= .ptr (Bc H) 0 0 0∧e.get 1= .d (.str t)∧e.get 6= .d (.int .i64 (J2 b.ents t)))
  (by
   rintro e X ⟨rfl,g2,g1,g6,hi⟩
   have hn:J2 b.ents t=b.ents.length:=Nat.le_antisymm (Bjt b.ents t) hi
   simp[Cn,-List.getD_eq_getElem?_getD,-List.map_map,Bga,g2,g1,g6,hn])
  (by
   rintro i e X hi ⟨rfl,g2,g1,g6,hk⟩
   have c: (i:Int)< (b.ents.length:Int):=by omega
   have g:=Jk b.ents i hi
   have w1:IntKind.i64.wrap ((i:Int)+1)=((i+1:Nat):Int):=by rw[IntWalk.i64_in _ (by omega)];rfl
   cases h:Op.bytesLess (b.ents.getD i default).key t with
   |true=>
    have hn:=Rn (fun e:En=>Op.bytesLess e.key t) default b.ents i hk hi h
    have hn':i+1≤J2 b.ents t:=hn
    simp[Cn,-List.getD_eq_getElem?_getD,-List.map_map,Bga,g2,g1,g6,c,hi,g,w1,h,hn']
   |false=>
    have hn:i=J2 b.ents t:=Ro (fun e:En=>Op.bytesLess e.key t) default b.ents i hk hi h
    simp[Cn,-List.getD_eq_getElem?_getD,-List.map_map,Bga,g2,g1,g6,c,hi,g,w1,h,←hn])
  b.ents.length 0 [(1, .d (.str t)),(2, .ptr (Bc H) 0 0 0),(6, .d (.int .i64 0))] (ap H [.row 0 2 [.d (Dx b)]]) (by omega) ⟨rfl,rfl,rfl,rfl,Nat.zero_le _⟩).out
 by_cases hl:J2 b.ents t<b.ents.length
 ·have c: (J2 b.ents t:Int)< (b.ents.length:Int):=by omega
  have g:=Jk b.ents (J2 b.ents t) hl
  simp[Cn,-List.getD_eq_getElem?_getD,-List.map_map,f45,he,g2,g1,g6,hl,c,g,Jz]
 ·have c: ¬ (J2 b.ents t:Int)< (b.ents.length:Int):=by omega
  simp[Cn,-List.getD_eq_getElem?_getD,-List.map_map,f45,he,g2,g1,g6,hl,c,Jz]
def D6 {α:Type} (xs:List α) (k:Nat) (x:α):List α:=xs.take k++(x::xs.drop k)
theorem Fy {α:Type} (xs:List α) (k:Nat) (x:α): (D6 xs k x).length=xs.length+1:=by
 simp only[D6,List.length_append,List.length_take,List.length_cons,List.length_drop];omega
theorem Wu {α:Type} (f:α→D) (xs:List α) (k:Nat) (x:α):List.take k (List.map V.d (List.map f xs))++V.d (f x)::List.drop k (List.map V.d (List.map f xs))=List.map V.d (List.map f (D6 xs k x)):=by
 simp only[D6,List.map_append,List.map_cons,List.map_take,List.map_drop]
theorem Wv {α:Type} (f:α→D) (xs:List α) (k:Nat) (x:α) (h:k≤xs.length):List.take (k+1+(xs.length - k)) (List.map V.d (List.map f (D6 xs k x)))=List.map V.d (List.map f (D6 xs k x)):=by
 refine List.take_of_length_le ?_
 simp only[List.length_map,Fy];omega
theorem Bev {α:Type} (xs:List α) (k:Nat) (x:α) (h:k≤xs.length): (k+1+(xs.length - k)≤(D6 xs k x).length)=True:=eq_true (by rw[Fy];omega)
def Zg (xs:List Bp) (t:Bp):Nat:=(xs.takeWhile fun x=>Op.bytesLess x t).length
def Bwx (xs:List Bp) (t:Bp):Bool:=decide (Zg xs t<xs.length) &&decide (xs.getD (Zg xs t) []=t)
theorem Bs1 (xs:List Bp) (t:Bp):Zg xs t≤xs.length:=Bh8 _ _
def Yi (xs:List Bp) (t:Bp):List Bp:=if Bwx xs t=true then xs else D6 xs (Zg xs t) t
theorem Brp (xs:List Bp) (t:Bp) (hx:xs.length≤1000000):Be (ev R) 125 [.d (Bf xs), .d (.str t)]=some (.d (Bf (Yi xs t))):=Bb fun H=>by
 refine Bh (fn:=f125) rfl rfl ?_
 obtain⟨o,e',X',he,rfl,rfl,g0,g1,g5⟩:=(Dh (F:=Bq (ev R) R.glob (Bc H) Bg Bay) (lv:=[0,1,5]) xs.length
  (fun i e X=>X=H∧e.get 0= .d (Bf xs)∧e.get 1= .d (.str t)∧e.get 5= .d (.int .i64 i)∧i≤Zg xs t)
  (fun o e X=>o= .exit 0∧X=H∧e.get 0= .d (Bf xs)∧e.get 1= .d (.str t)∧e.get 5= .d (.int .i64 (Zg xs t)))
  (by
   rintro e X ⟨rfl,g0,g1,g5,hi⟩
   have hn:Zg xs t=xs.length:=Nat.le_antisymm (Bs1 xs t) hi
   simp[Cn,-List.getD_eq_getElem?_getD,-List.map_map,Bay,g0,g1,g5,hn,Bf])
  (by
   rintro i e X hi ⟨rfl,g0,g1,g5,hk⟩
   have c: (i:Int)< (xs.length:Int):=by omega
   have g:=Dv xs i hi
   have w1:IntKind.i64.wrap ((i:Int)+1)=((i+1:Nat):Int):=by rw[IntWalk.i64_in _ (by omega)];rfl
   cases h:Op.bytesLess (xs.getD i []) t with
   |true=>
    have hn:=Rn (fun x:Bp=>Op.bytesLess x t) [] xs i hk hi h
    have hn':i+1≤Zg xs t:=hn
    simp[Cn,-List.getD_eq_getElem?_getD,-List.map_map,Bay,g0,g1,g5,c,hi,g,w1,h,hn',Bf]
   |false=>
    have hn:i=Zg xs t:=Ro (fun x:Bp=>Op.bytesLess x t) [] xs i hk hi h
    simp[Cn,-List.getD_eq_getElem?_getD,-List.map_map,Bay,g0,g1,g5,c,hi,g,w1,h,←hn,Bf])
  xs.length 0 [(0, .d (Bf xs)),(1, .d (.str t)),(5, .d (.int .i64 0))] H (by omega) ⟨rfl,rfl,rfl,rfl,Nat.zero_le _⟩).out
 have hk:=Bs1 xs t
 have hk': (Zg xs t:Int)≤(xs.length:Int):=by omega
 have hk0: (0:Int)≤(Zg xs t:Int):=by omega
 have r1:Zg xs t*16≤Cv:=by unfold Cv;omega
 have r2: (Zg xs t+1)*16≤Cv:=by unfold Cv;omega
 have r3: (Zg xs t+1+(xs.length - Zg xs t))*16≤Cv:=by unfold Cv;omega
 have mn:min (Zg xs t) xs.length=Zg xs t:=by omega
 have f1:=Wu D.str xs (Zg xs t) t
 have f2:=Wv D.str xs (Zg xs t) t hk
 have f3:=Bev xs (Zg xs t) t hk
 unfold Yi
 cases h:Bwx xs t with
 |true=>
  unfold Bwx at h
  rw[Bool.and_eq_true,decide_eq_true_eq,decide_eq_true_eq] at h
  obtain⟨hl,h2⟩:=h
  have c: (Zg xs t:Int)< (xs.length:Int):=by omega
  have g:=Dv xs (Zg xs t) hl
  simp[Cn,-List.getD_eq_getElem?_getD,-List.map_map,f125,he,g0,g1,g5,hl,c,g,eq_true h2,Bf]
 |false=>
  unfold Bwx at h
  by_cases hl:Zg xs t<xs.length
  ·rw[decide_eq_true hl,Bool.true_and,decide_eq_false_iff_not] at h
   have c: (Zg xs t:Int)< (xs.length:Int):=by omega
   have g:=Dv xs (Zg xs t) hl
   simp[Cn,-List.getD_eq_getElem?_getD,-List.map_map,f125,he,g0,g1,g5,hl,c,g,eq_false h,Bf,Dp,hk,hk',hk0,r1,r2,r3,mn,f1,f2,f3]
  ·have c: ¬ (Zg xs t:Int)< (xs.length:Int):=by omega
   simp[Cn,-List.getD_eq_getElem?_getD,-List.map_map,f125,he,g0,g1,g5,hl,c,Bf,Dp,hk,hk',hk0,r1,r2,r3,mn,f1,f2,f3]
def sAt (xs:List Sc) (x:Sc):Nat:=(xs.takeWhile fun y=>Kn y.1 x.1 y.2 x.2).length
theorem Bsl (xs:List Sc) (x:Sc):sAt xs x≤xs.length:=Bh8 _ _
def Xi (xs:List Sc) (x:Sc):List Sc:=D6 (F7 xs x.1) (sAt (F7 xs x.1) x) x
theorem Bhq (xs:List Sc) (t:Bp): (F7 xs t).length≤xs.length:=List.length_filter_le _ _
theorem B8a (x y:Sc):Be (ev R) 84 [.d (Jq x), .d (Jq y)]=some (.d (.bool (Kn x.1 y.1 x.2 y.2))):=Bb fun H=>Bza H x.1 y.1 x.2 y.2
def Jy (xs:List Sc) (x:Sc):List Sc×Bool×Bool:=if Dg xs=true then(if Dg (Xi xs x)=true then(Xi xs x,decide ((F7 xs x.1).length=xs.length),true) else(xs,false,false)) else([],false,false)
theorem Bl6 (H:Hp) (xs:List Sc) (x:Sc) (hx:xs.length≤1000000):ev R 126 [.d (Dr xs), .d (Jq x)] H=some (.tup [.slc (Bc H) 0 0 (Jy xs x).1.length, .d (.bool (Jy xs x).2.1), .d (.bool (Jy xs x).2.2)],ap H [.row 0 2 (((Jy xs x).1.map Jq).map V.d)]):=by
 unfold Jy
 refine Bh (fn:=f126) rfl rfl ?_
 have p1:=Bom xs (by omega)
 cases h1:Dg xs with
 |false=>
  rw[h1] at p1
  simp[Cn,-List.getD_eq_getElem?_getD,-List.map_map,f126,p1,Dr,Ug]
 |true=>
  rw[h1] at p1
  have hw:=Bhq xs x.1
  have p2:=Bye xs x.1 hx
  have hr:Xi xs x=D6 (F7 xs x.1) (sAt (F7 xs x.1) x) x:=rfl
  generalize F7 xs x.1=ys at*
  obtain⟨o,e',X',he,rfl,rfl,g0,g3,g7,g8⟩:=(Dh (F:=Bq (ev R) R.glob (Bc H) Bg Baz) (lv:=[0,3,7,8]) ys.length
   (fun i e X=>X=ap H [.row 0 2 [.d (Jq x)]]∧e.get 0= .d (Dr xs)∧e.get 3= .ptr (Bc H) 0 0 0∧e.get 7= .d (Dr ys)∧e.get 8= .d (.int .i64 i)∧i≤sAt ys x)
   (fun o e X=>o= .exit 0∧X=ap H [.row 0 2 [.d (Jq x)]]∧e.get 0= .d (Dr xs)∧e.get 3= .ptr (Bc H) 0 0 0∧e.get 7= .d (Dr ys)∧e.get 8= .d (.int .i64 (sAt ys x)))
   (by
    rintro e X ⟨rfl,g0,g3,g7,g8,hi⟩
    have hn:sAt ys x=ys.length:=Nat.le_antisymm (Bsl ys x) hi
    simp[Cn,-List.getD_eq_getElem?_getD,-List.map_map,Baz,g0,g3,g7,g8,hn,Dr])
   (by
    rintro i e X hi ⟨rfl,g0,g3,g7,g8,hk⟩
    have c: (i:Int)< (ys.length:Int):=by omega
    have g:=Mv ys i hi
    have p3:=B8a (ys.getD i ([],0)) x
    have w1:IntKind.i64.wrap ((i:Int)+1)=((i+1:Nat):Int):=by rw[IntWalk.i64_in _ (by omega)];rfl
    cases h:Kn (ys.getD i ([],0)).1 x.1 (ys.getD i ([],0)).2 x.2 with
    |true=>
     rw[h] at p3
     have hn:=Rn (fun y:Sc=>Kn y.1 x.1 y.2 x.2) ([],0) ys i hk hi h
     have hn':i+1≤sAt ys x:=hn
     simp[Cn,-List.getD_eq_getElem?_getD,-List.map_map,Baz,g0,g3,g7,g8,c,hi,g,w1,p3,hn',Dr]
    |false=>
     rw[h] at p3
     have hn:i=sAt ys x:=Ro (fun y:Sc=>Kn y.1 x.1 y.2 x.2) ([],0) ys i hk hi h
     simp[Cn,-List.getD_eq_getElem?_getD,-List.map_map,Baz,g0,g3,g7,g8,c,hi,g,w1,p3,←hn,Dr])
   ys.length 0 [(0, .d (Dr xs)),(3, .ptr (Bc H) 0 0 0),(7, .d (Dr ys)),(8, .d (.int .i64 0))] (ap H [.row 0 2 [.d (Jq x)]]) (by omega) ⟨rfl,rfl,rfl,rfl,rfl,Nat.zero_le _⟩).out
  have hk:=Bsl ys x
  rw[hr]
  generalize sAt ys x=k at*
  have hk': (k:Int)≤(ys.length:Int):=by omega
  have hk0: (0:Int)≤(k:Int):=by omega
  have r1:k*24≤Cv:=by unfold Cv;omega
  have r2: (k+1)*24≤Cv:=by unfold Cv;omega
  have r3: (k+1+(ys.length - k))*24≤Cv:=by unfold Cv;omega
  have r4:xs.length*24≤Cv:=by unfold Cv;omega
  have il:=Fy ys k x
  have fl:k+1+(ys.length - k)=ys.length+1:=by omega
  have mn:min k ys.length=k:=by omega
  have f1:=Wu Jq ys k x
  have f2:=Wv Jq ys k x hk
  have f3:=Bev ys k x hk
  have p4:=Bom (D6 ys k x) (by rw[Fy];omega)
  have vw:Gw (List.map V.d (List.map Jq (D6 ys k x)))=some (List.map Jq (D6 ys k x)):=Qu _
  have f2':List.take (k+1+(ys.length - k)) (List.map Jq (D6 ys k x))=List.map Jq (D6 ys k x):=by
   refine List.take_of_length_le ?_
   simp only[List.length_map,Fy];omega
  rw[fl] at r3 f2 f2' f3
  cases h2:Dg (D6 ys k x) with
  |true=>
   rw[h2] at p4
   by_cases hl:ys.length=xs.length
   ·have hl': (ys.length:Int)=(xs.length:Int):=by omega
    simp[Cn,-List.getD_eq_getElem?_getD,-List.map_map,f126,p1,p2,he,g0,g3,g7,g8,Dp,hk,hk',hk0,r1,r2,r3,r4,mn,f1,f2,f2',f3,p4,eq_true hl,eq_true hl',Dr,il,fl,Ug]
   ·have hl': ¬ (ys.length:Int)=(xs.length:Int):=by omega
    simp[Cn,-List.getD_eq_getElem?_getD,-List.map_map,f126,p1,p2,he,g0,g3,g7,g8,Dp,hk,hk',hk0,r1,r2,r3,r4,mn,f1,f2,f2',f3,p4,eq_false hl,eq_false hl',Dr,il,fl,Ug]
  |false=>
   rw[h2] at p4
   simp[Cn,-List.getD_eq_getElem?_getD,-List.map_map,f126,p1,p2,he,g0,g3,g7,g8,Dp,hk,hk',hk0,r1,r2,r3,r4,mn,f1,f2,f2',f3,p4,Dr,il,fl,Ug]
theorem Byc (xs:List Sc) (x:Sc) (hx:xs.length≤1000000):Gg (ev R) 126 [.d (Dr xs), .d (Jq x)]=some (.tup [.d (Dr (Jy xs x).1), .d (.bool (Jy xs x).2.1), .d (.bool (Jy xs x).2.2)]):=by
 refine Jm fun H=> ⟨_,_,Bl6 H xs x hx, ?_,Mh H _⟩
 simp[Cn,-List.getD_eq_getElem?_getD,-List.map_map]
theorem Brq (xs:List Sc) (x:Sc) (hx:xs.length≤1000000):Be (ev R) 126 [.d (Dr xs), .d (Jq x)]=none:=by
 cases h:Be (ev R) 126 [.d (Dr xs), .d (Jq x)] with
 |none=>rfl
 |some v=>
  have h1:=D8 h []
  rw[Bl6 [] xs x hx] at h1
  simp[ap] at h1
def G6 {α:Type} (xs:List α) (k:Nat):List α:=xs.take k++xs.drop (k+1)
theorem Qg {α:Type} (xs:List α) (k:Nat) (h:k<xs.length): (G6 xs k).length=xs.length - 1:=by
 simp only[G6,List.length_append,List.length_take,List.length_drop];omega
theorem Wm {α:Type} (f:α→D) (xs:List α) (k:Nat):List.take k (List.map V.d (List.map f xs))++List.drop (k+1) (List.map V.d (List.map f xs))=List.map V.d (List.map f (G6 xs k)):=by
 simp only[G6,List.map_append,List.map_take,List.map_drop]
theorem Bf0 {α:Type} (f:α→D) (xs:List α) (k:Nat) (h:k<xs.length):List.take (k+(xs.length - (k+1))) (List.map V.d (List.map f (G6 xs k)))=List.map V.d (List.map f (G6 xs k)):=by
 refine List.take_of_length_le ?_
 simp only[List.length_map,Qg _ _ h];omega
theorem Bqt {α:Type} (xs:List α) (k:Nat) (h:k<xs.length): (k+(xs.length - (k+1))≤(G6 xs k).length)=True:=eq_true (by rw[Qg _ _ h];omega)
def Rt (xs:List Pr) (x:Pr):List Pr:=if Ma xs x.1=true then xs.set (Rv xs x.1) x else D6 xs (Rv xs x.1) x
theorem Bcd {α:Type} (f:α→D) (xs:List α) (k:Nat) (x:α): (List.map V.d (List.map f xs)).set k (V.d (f x))=List.map V.d (List.map f (xs.set k x)):=by
 simp only[List.map_set]
theorem Bot (xs:List Pr) (x:Pr): (Rt xs x).length≤xs.length+1:=by
 unfold Rt
 split
 ·rw[List.length_set];omega
 ·rw[Fy];omega
def Jw (xs:List Pr) (x:Pr):List Pr×Bool×Bool:=if Dw xs=true then(if Dw (Rt xs x)=true then(Rt xs x, !Ma xs x.1,true) else(xs,false,false)) else([],false,false)
theorem Bl5 (H:Hp) (xs:List Pr) (x:Pr) (hx:xs.length≤1000000):ev R 105 [.d (Fs xs), .d (Ka x)] H=some (.tup [.slc (Bc H) 0 0 (Jw xs x).1.length, .d (.bool (Jw xs x).2.1), .d (.bool (Jw xs x).2.2)],ap H [.row 0 2 (((Jw xs x).1.map Ka).map V.d)]):=by
 unfold Jw
 refine Bh (fn:=f105) rfl rfl ?_
 have p1:=Bv3 xs (by omega)
 cases h1:Dw xs with
 |false=>
  rw[h1] at p1
  simp[Cn,-List.getD_eq_getElem?_getD,-List.map_map,f105,p1,Fs,Ug]
 |true=>
  rw[h1] at p1
  have p2:=Brr xs x.1 hx
  have hk:=Bq2 xs x.1
  have hx1:=Bot xs x
  have p4:=Bv3 (Rt xs x) (by omega)
  have hr:Rt xs x=if Ma xs x.1=true then xs.set (Rv xs x.1) x else D6 xs (Rv xs x.1) x:=rfl
  have hl:Ma xs x.1=true→Rv xs x.1<xs.length:=fun h=>by
   unfold Ma at h
   rw[Bool.and_eq_true,decide_eq_true_eq] at h
   exact h.1
  generalize Rv xs x.1=k at*
  have hk': (k:Int)≤(xs.length:Int):=by omega
  have hk0: (0:Int)≤(k:Int):=by omega
  have r1:k*32≤Cv:=by unfold Cv;omega
  have r2: (k+1)*32≤Cv:=by unfold Cv;omega
  have r3: (k+1+(xs.length - k))*32≤Cv:=by unfold Cv;omega
  have r4:xs.length*32≤Cv:=by unfold Cv;omega
  have mn:min k xs.length=k:=by omega
  cases h3:Ma xs x.1 with
  |true=>
   have hl:=hl h3
   have hl': (k:Int)< (xs.length:Int):=by omega
   rw[h3] at p2
   rw[h3,if_pos rfl] at hr
   have f1:=Bcd Ka xs k x
   rw[hr] at p4⊢
   have f4:List.take xs.length (List.map V.d (List.map Ka (xs.set k x)))=List.map V.d (List.map Ka (xs.set k x)):=List.take_of_length_le (by simp)
   have f5:List.take xs.length (List.map Ka (xs.set k x))=List.map Ka (xs.set k x):=List.take_of_length_le (by simp)
   have f6: (xs.set k x).length=xs.length:=List.length_set
   generalize xs.set k x=zs at*
   cases h2:Dw zs with
   |true=>
    rw[h2] at p4
    simp[Cn,-List.getD_eq_getElem?_getD,-List.map_map,f105,p1,p2,r4,hl,hl',hk0,f1,f4,f5,f6,p4,Fs,Ug]
   |false=>
    rw[h2] at p4
    simp[Cn,-List.getD_eq_getElem?_getD,-List.map_map,f105,p1,p2,r4,hl,hl',hk0,f1,f4,f5,f6,p4,Fs,Ug]
  |false=>
   rw[h3] at p2
   rw[h3,if_neg (by simp)] at hr
   have il:=Fy xs k x
   have fl:k+1+(xs.length - k)=xs.length+1:=by omega
   rw[hr] at p4⊢
   have f1:=Wu Ka xs k x
   have f2:=Wv Ka xs k x hk
   have f3:=Bev xs k x hk
   have f2':List.take (k+1+(xs.length - k)) (List.map Ka (D6 xs k x))=List.map Ka (D6 xs k x):=by
    refine List.take_of_length_le ?_
    simp only[List.length_map,Fy];omega
   rw[fl] at r3 f2 f2' f3
   cases h2:Dw (D6 xs k x) with
   |true=>
    rw[h2] at p4
    simp[Cn,-List.getD_eq_getElem?_getD,-List.map_map,f105,p1,p2,Dp,hk,hk',hk0,r1,r2,r3,r4,mn,f1,f2,f2',f3,p4,Fs,il,fl,Ug]
   |false=>
    rw[h2] at p4
    simp[Cn,-List.getD_eq_getElem?_getD,-List.map_map,f105,p1,p2,Dp,hk,hk',hk0,r1,r2,r3,r4,mn,f1,f2,f2',f3,p4,Fs,il,fl,Ug]
theorem Byb (xs:List Pr) (x:Pr) (hx:xs.length≤1000000):Gg (ev R) 105 [.d (Fs xs), .d (Ka x)]=some (.tup [.d (Fs (Jw xs x).1), .d (.bool (Jw xs x).2.1), .d (.bool (Jw xs x).2.2)]):=by
 refine Jm fun H=> ⟨_,_,Bl5 H xs x hx, ?_,Mh H _⟩
 simp[Cn,-List.getD_eq_getElem?_getD,-List.map_map]
theorem Bro (xs:List Pr) (x:Pr) (hx:xs.length≤1000000):Be (ev R) 105 [.d (Fs xs), .d (Ka x)]=none:=by
 cases h:Be (ev R) 105 [.d (Fs xs), .d (Ka x)] with
 |none=>rfl
 |some v=>
  have h1:=D8 h []
  rw[Bl5 [] xs x hx] at h1
  simp[ap] at h1
theorem B3z (xs:List Pr) (t:Bp) (hx:xs.length≤1000000):Be (ev R) 155 [.d (Fs xs), .d (.str t)]=
  some (if Dw xs=true then .tup [.d (Fs (if Ma xs t=true then G6 xs (Rv xs t) else xs)), .d (.bool (Ma xs t))] else .tup [.d (Fs []), .d (.bool false)]):=Bb fun H=>by
 refine Bh (fn:=f155) rfl rfl ?_
 have p1:=Bv3 xs (by omega)
 cases h1:Dw xs with
 |false=>
  rw[h1] at p1
  simp[Cn,-List.getD_eq_getElem?_getD,-List.map_map,f155,p1,Fs]
 |true=>
  rw[h1] at p1
  have p2:=Brr xs t hx
  have hl:Ma xs t=true→Rv xs t<xs.length:=fun h=>by
   unfold Ma at h
   rw[Bool.and_eq_true,decide_eq_true_eq] at h
   exact h.1
  generalize Rv xs t=k at*
  have r4:xs.length*32≤Cv:=by unfold Cv;omega
  cases h3:Ma xs t with
  |false=>
   rw[h3] at p2
   simp[Cn,-List.getD_eq_getElem?_getD,-List.map_map,f155,p1,p2,r4,Fs]
  |true=>
   rw[h3] at p2
   have hl:=hl h3
   have hk:k≤xs.length:=by omega
   have hk': (k:Int)≤(xs.length:Int):=by omega
   have hk0: (0:Int)≤(k:Int):=by omega
   have w1:IntKind.i64.wrap ((k:Int)+1)=((k+1:Nat):Int):=by rw[IntWalk.i64_in _ (by omega)];rfl
   have hk1: (k:Int)+1≤(xs.length:Int):=by omega
   have hk4: ((k:Int)+1).toNat=k+1:=by omega
   have hk2:k+1≤xs.length:=by omega
   have hk3: (0:Int)≤(k:Int)+1:=by omega
   have r1:k*32≤Cv:=by unfold Cv;omega
   have r3: (k+(xs.length - (k+1)))*32≤Cv:=by unfold Cv;omega
   have mn:min k xs.length=k:=by omega
   have f1:=Wm Ka xs k
   have f2:=Bf0 Ka xs k hl
   have f3:=Bqt xs k hl
   simp[Cn,-List.getD_eq_getElem?_getD,-List.map_map,f155,p1,p2,Dp,hl,hk,hk',hk0,w1,hk1,hk2,hk3,hk4,r1,r3,mn,f1,f2,f3,Fs]
theorem B3y (xs:List Pr) (t:Bp) (hx:xs.length≤1000000):Be (ev R) 154 [.d (Fs xs), .d (.str t)]=
  some (if Dw xs=true∧Ma xs t=true then .tup [.d (.str (xs.getD (Rv xs t) ([],[])).2), .d (.bool true)] else .tup [.d (.str []), .d (.bool false)]):=Bb fun H=>by
 refine Bh (fn:=f154) rfl rfl ?_
 have p1:=Bv3 xs (by omega)
 have p2:=Brr xs t hx
 cases h1:Dw xs with
 |false=>
  rw[h1] at p1
  simp[Cn,-List.getD_eq_getElem?_getD,-List.map_map,f154,p1,p2,Fs]
 |true=>
  rw[h1] at p1
  have hl:Ma xs t=true→Rv xs t<xs.length:=fun h=>by
   unfold Ma at h
   rw[Bool.and_eq_true,decide_eq_true_eq] at h
   exact h.1
  generalize Rv xs t=k at*
  cases h3:Ma xs t with
  |false=>
   rw[h3] at p2
   simp[Cn,-List.getD_eq_getElem?_getD,-List.map_map,f154,p1,p2,Fs]
  |true=>
   rw[h3] at p2
   have hl:=hl h3
   have hl': (k:Int)< (xs.length:Int):=by omega
   have hk0: (0:Int)≤(k:Int):=by omega
   have g:=Xd xs k hl
   simp[Cn,-List.getD_eq_getElem?_getD,-List.map_map,f154,p1,p2,g,hl,hl',hk0,Fs]
theorem B3v (xs:List Sc) (t:Bp) (hx:xs.length≤1000000):Be (ev R) 149 [.d (Dr xs), .d (.str t)]=
  some (if Dg xs=true then .tup [.d (Dr (F7 xs t)), .d (.bool (decide ((F7 xs t).length<xs.length)))] else .tup [.d (Dr []), .d (.bool false)]):=Bb fun H=>by
 refine Bh (fn:=f149) rfl rfl ?_
 have p1:=Bom xs (by omega)
 have p2:=Bye xs t hx
 cases h1:Dg xs with
 |false=>
  rw[h1] at p1
  simp[Cn,-List.getD_eq_getElem?_getD,-List.map_map,f149,p1,Dr]
 |true=>
  rw[h1] at p1
  generalize F7 xs t=ys at*
  simp[Cn,-List.getD_eq_getElem?_getD,-List.map_map,f149,p1,p2,Dr]
def Je (xs:List Sc) (t:Bp):Int:=if Dg xs=true then(if(xs.takeWhile fun x=> !decide (x.1=t)).length<xs.length then((xs.takeWhile fun x=> !decide (x.1=t)).length:Int) else -1) else -1
theorem Bmp (xs:List Sc) (t:Bp) (hx:xs.length≤1000000):Be (ev R) 150 [.d (Dr xs), .d (.str t)]=some (.d (.int .i64 (Je xs t))):=Bb fun H=>by
 refine Bh (fn:=f150) rfl rfl ?_
 have p1:=Bom xs (by omega)
 have key:Gives (fun o e X=>X=H∧(o= .exit 0∧Je xs t= -1∨o= .ret∧e.get 4= .d (.int .i64 (Je xs t)))) (Bg (Bq (ev R) R.glob (Bc H) Bg Ut) [0,1,5] ⟨[(0, .d (Dr xs)),(1, .d (.str t)),(5, .d (.int .i64 0))],H⟩):=by
  refine Dh (F:=Bq (ev R) R.glob (Bc H) Bg Ut) (lv:=[0,1,5]) xs.length
   (fun i e X=>X=H∧e.get 0= .d (Dr xs)∧e.get 1= .d (.str t)∧e.get 5= .d (.int .i64 i)∧i≤(xs.takeWhile fun x=> !decide (x.1=t)).length) _ ?_ ?_ xs.length 0 _ _ (by omega) ⟨rfl,rfl,rfl,rfl,Nat.zero_le _⟩
  ·rintro e X ⟨rfl,g0,g1,g5,hi⟩
   have hn: ¬ (xs.takeWhile fun x=> !decide (x.1=t)).length<xs.length:=by omega
   have hr:Je xs t= -1:=by unfold Je;rw[if_neg hn];split<;>rfl
   simp[Cn,-List.getD_eq_getElem?_getD,-List.map_map,Ut,g0,g1,g5,hr,Dr]
  ·rintro i e X hi ⟨rfl,g0,g1,g5,hk⟩
   have c: (i:Int)< (xs.length:Int):=by omega
   have g:=Mv xs i hi
   have w1:IntKind.i64.wrap ((i:Int)+1)=((i+1:Nat):Int):=by rw[IntWalk.i64_in _ (by omega)];rfl
   cases h1:Dg xs with
   |false=>
    rw[h1] at p1
    have hr:Je xs t= -1:=by unfold Je;rw[h1];simp
    simp[Cn,-List.getD_eq_getElem?_getD,-List.map_map,Ut,g0,g1,g5,c,hi,p1,hr,Dr]
   |true=>
    rw[h1] at p1
    by_cases h: (xs.getD i ([],0)).1=t
    ·have hn:=Ro (fun x:Sc=> !decide (x.1=t)) ([],0) xs i hk hi (by simp only[decide_eq_true h,Bool.not_true])
     have hr:Je xs t=(i:Int):=by unfold Je;rw[h1,if_pos rfl,←hn,if_pos hi]
     simp[Cn,-List.getD_eq_getElem?_getD,-List.map_map,Ut,g0,g1,g5,c,hi,g,p1,w1,eq_true h,hr,Dr]
    ·have hn:=Rn (fun x:Sc=> !decide (x.1=t)) ([],0) xs i hk hi (by simp only[decide_eq_false h,Bool.not_false])
     simp[Cn,-List.getD_eq_getElem?_getD,-List.map_map,Ut,g0,g1,g5,c,hi,g,p1,w1,eq_false h,hn,Dr]
 obtain⟨o,e',X',he,rfl,g⟩:=key.out
 rcases g with⟨rfl,g⟩ | ⟨rfl,g4⟩
 ·simp[Cn,-List.getD_eq_getElem?_getD,-List.map_map,f150,he,g]
 ·simp[Cn,-List.getD_eq_getElem?_getD,-List.map_map,f150,he,g4]
end Go.Proofs.YtjdmiodinhlchaaGreat.Code

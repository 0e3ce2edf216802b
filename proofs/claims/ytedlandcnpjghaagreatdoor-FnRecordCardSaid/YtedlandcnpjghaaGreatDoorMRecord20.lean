/- Lemmas (several texts in one). -/
import Derived.Test.YtedlandcnpjghaaGreatDoorMRecord7
import Derived.Test.YtedlandcnpjghaaGreatDoorMRecord15
import Derived.Test.YtedlandcnpjghaaGreatDoorMRecord18
import Derived.Test.YtedlandcnpjghaaGreatDoorMRecord19
set_option maxRecDepth 100000
set_option linter.unusedSimpArgs false
set_option linter.unusedVariables false
namespace Go.Proofs.YtedlandcnpjghaaGreatDoor.Code
open Go Go.Ev Go.Proofs
def Bsg (xs ys:List Bl):List Bl:=xs.filter fun s=>decide (s∈ys)
theorem B6f (xs ys:List Bl) (hx:xs.length≤1000000) (hy:ys.length≤1000000):Be (ev R) 99 [.d (Bf xs), .d (Bf ys)]=
  some (.d (Bf (if Gx xs=true∧Gx ys=true then Bsg xs ys else[]))):=Bb fun H=>by
 refine Bo (fn:=f99) rfl rfl ?_
 have p1:=Z7 xs (by omega)
 have p3:=Z7 ys (by omega)
 by_cases hs:Gx xs=true∧Gx ys=true
 ·rw[if_pos hs]
  obtain⟨h1,h2⟩:=hs
  rw[h1] at p1
  rw[h2] at p3
  obtain⟨o,e',X',he,rfl,rfl,g5⟩:=(Dw (F:=Bp (ev R) R.glob (Bc H) Bg Uw) (lv:=[0,1,5,6]) xs.length
   (fun i e X=> ∃zs,zs=(xs.take i).filter (fun s=>decide (s∈ys))∧X=ap H [.row zs.length 1 ((zs.map D.str).map V.d)]∧e.get 0= .d (Bf xs)∧e.get 1= .d (Bf ys)∧e.get 5= .slc (Bc H) zs.length 0 zs.length∧e.get 6= .d (.int .i64 i))
   (fun o e X=>o= .exit 0∧X=ap H [.row (xs.filter (fun s=>decide (s∈ys))).length 1 (((xs.filter (fun s=>decide (s∈ys))).map D.str).map V.d)]∧e.get 5= .slc (Bc H) (xs.filter (fun s=>decide (s∈ys))).length 0 (xs.filter (fun s=>decide (s∈ys))).length)
   (by
    rintro e X ⟨zs,rfl,rfl,g0,g1,g5,g6⟩
    rw[List.take_length] at*
    simp[Co,-List.getD_eq_getElem?_getD,-List.map_map,Uw,g0,g1,g5,g6,p1,p3,Bf])
   (by
    rintro i e X hi ⟨zs,hz,rfl,g0,g1,g5,g6⟩
    have c: (i:Int)< (xs.length:Int):=by omega
    have g:=Dt xs i hi
    have w1:IntKind.i64.wrap ((i:Int)+1)=((i+1:Nat):Int):=by rw[IntWalk.i64_in _ (by omega)];rfl
    have hf:=Pt (fun s=>decide (s∈ys)) xs i [] hi
    have hl:=Ub (fun s=>decide (s∈ys)) xs i hi
    rw[←hz] at hf hl
    have p2:=Bsa ys (xs.getD i []) (by omega)
    have r: (zs.length+1)*16≤Cx:=by unfold Cx;omega
    by_cases h:xs.getD i []∈ys
    ·simp only[decide_eq_true h,Bool.not_true,if_true] at hf
     rw[decide_eq_true h] at p2
     simp[Co,-List.getD_eq_getElem?_getD,-List.map_map,Uw,g0,g1,g5,g6,p1,p3,c,g,hi,w1,hf,r,p2,p1,p3,Bf]
    ·simp only[decide_eq_false h,Bool.not_false,Bool.false_eq_true,if_false,List.append_nil] at hf
     rw[decide_eq_false h] at p2
     simp[Co,-List.getD_eq_getElem?_getD,-List.map_map,Uw,g0,g1,g5,g6,p1,p3,c,g,hi,w1,hf,p2,p1,p3,Bf])
   xs.length 0 [(0, .d (Bf xs)),(1, .d (Bf ys)),(5, .slc (Bc H) 0 0 0),(6, .d (.int .i64 0))] (ap H [.row 0 1 []]) (by omega) ⟨[],by simp,rfl,rfl,rfl,rfl,rfl⟩).out
  simp[Co,-List.getD_eq_getElem?_getD,-List.map_map,f99,p1,p3,he,g5,Bsg,Bf]
 ·rw[if_neg hs]
  have hb: (Gx xs&&Gx ys)=false:=by
   cases a:Gx xs<;>cases b:Gx ys<;>simp_all
  obtain⟨o,e',X',he,rfl,rfl,g5⟩: ∃o e' X',Bg (Bp (ev R) R.glob (Bc H) Bg Uw) [0,1,5,6] ⟨[(0, .d (Bf xs)),(1, .d (Bf ys)),(5, .slc (Bc H) 0 0 0),(6, .d (.int .i64 0))],ap H [.row 0 1 []]⟩=some (o,⟨e',X'⟩)∧o= .exit 0∧X'=ap H [.row 0 1 []]∧e'.get 5= .slc (Bc H) 0 0 0:=by
   have key: ∀e:Env,e.get 0= .d (Bf xs)→e.get 1= .d (Bf ys)→e.get 5= .slc (Bc H) 0 0 0→e.get 6= .d (.int .i64 0)→Gives (fun o e X=>o≠ .normal∧o= .exit 0∧X=ap H [.row 0 1 []]∧e.get 5= .slc (Bc H) 0 0 0) (Bp (ev R) R.glob (Bc H) Bg Uw ⟨e.keep [0,1,5,6],ap H [.row 0 1 []]⟩):=by
    intro e g0 g1 g5 g6
    by_cases hz:0<xs.length
    ·have c: (0:Int)< (xs.length:Int):=by omega
     cases a:Gx xs with
     |true=>
      rw[a,Bool.true_and] at hb
      rw[a] at p1;rw[hb] at p3
      simp[Co,-List.getD_eq_getElem?_getD,-List.map_map,Uw,g0,g1,g5,g6,c,hz,p1,p3,Bf]
     |false=>
      rw[a] at p1
      simp[Co,-List.getD_eq_getElem?_getD,-List.map_map,Uw,g0,g1,g5,g6,c,hz,p1,Bf]
    ·have c: ¬ (0:Int)< (xs.length:Int):=by omega
     simp[Co,-List.getD_eq_getElem?_getD,-List.map_map,Uw,g0,g1,g5,g6,c,hz,Bf]
   obtain⟨o,e',X',h1,h2,h3⟩:=(key [(0, .d (Bf xs)),(1, .d (Bf ys)),(5, .slc (Bc H) 0 0 0),(6, .d (.int .i64 0))] rfl rfl rfl rfl).out
   exact⟨o,e',X',F7 h1 h2,h3⟩
  simp[Co,-List.getD_eq_getElem?_getD,-List.map_map,f99,he,g5,Bf]
theorem B2d (xs ys:List Bl) (hx:xs.length≤1000000) (hy:ys.length≤1000000):Be (ev R) 101 [.d (Bf xs), .d (Bf ys)]=
  some (.d (Bf (if Gx xs=true∧Gx ys=true then M7 xs ys else[]))):=Bb fun H=>by
 refine Bo (fn:=f101) rfl rfl ?_
 have p1:=Z7 xs (by omega)
 have p3:=Z7 ys (by omega)
 by_cases hs:Gx xs=true∧Gx ys=true
 ·rw[if_pos hs]
  obtain⟨h1,h2⟩:=hs
  rw[h1] at p1
  rw[h2] at p3
  obtain⟨o,e',X',he,rfl,rfl,g5⟩:=(Dw (F:=Bp (ev R) R.glob (Bc H) Bg Qg) (lv:=[0,1,5,6]) xs.length
   (fun i e X=> ∃zs,zs=(xs.take i).filter (fun s=> !decide (s∈ys))∧X=ap H [.row zs.length 1 ((zs.map D.str).map V.d)]∧e.get 0= .d (Bf xs)∧e.get 1= .d (Bf ys)∧e.get 5= .slc (Bc H) zs.length 0 zs.length∧e.get 6= .d (.int .i64 i))
   (fun o e X=>o= .exit 0∧X=ap H [.row (xs.filter (fun s=> !decide (s∈ys))).length 1 (((xs.filter (fun s=> !decide (s∈ys))).map D.str).map V.d)]∧e.get 5= .slc (Bc H) (xs.filter (fun s=> !decide (s∈ys))).length 0 (xs.filter (fun s=> !decide (s∈ys))).length)
   (by
    rintro e X ⟨zs,rfl,rfl,g0,g1,g5,g6⟩
    rw[List.take_length] at*
    simp[Co,-List.getD_eq_getElem?_getD,-List.map_map,Qg,g0,g1,g5,g6,p1,p3,Bf])
   (by
    rintro i e X hi ⟨zs,hz,rfl,g0,g1,g5,g6⟩
    have c: (i:Int)< (xs.length:Int):=by omega
    have g:=Dt xs i hi
    have w1:IntKind.i64.wrap ((i:Int)+1)=((i+1:Nat):Int):=by rw[IntWalk.i64_in _ (by omega)];rfl
    have hf:=Pt (fun s=> !decide (s∈ys)) xs i [] hi
    have hl:=Ub (fun s=> !decide (s∈ys)) xs i hi
    rw[←hz] at hf hl
    have p2:=Bsa ys (xs.getD i []) (by omega)
    have r: (zs.length+1)*16≤Cx:=by unfold Cx;omega
    by_cases h: ¬xs.getD i []∈ys
    ·simp only[decide_eq_false h,Bool.not_false,if_true] at hf
     rw[decide_eq_false h] at p2
     simp[Co,-List.getD_eq_getElem?_getD,-List.map_map,Qg,g0,g1,g5,g6,p1,p3,c,g,hi,w1,hf,r,p2,p1,p3,Bf]
    ·simp only[decide_eq_true (Classical.not_not.1 h),Bool.not_true,Bool.false_eq_true,if_false,List.append_nil] at hf
     rw[decide_eq_true (Classical.not_not.1 h)] at p2
     simp[Co,-List.getD_eq_getElem?_getD,-List.map_map,Qg,g0,g1,g5,g6,p1,p3,c,g,hi,w1,hf,p2,p1,p3,Bf])
   xs.length 0 [(0, .d (Bf xs)),(1, .d (Bf ys)),(5, .slc (Bc H) 0 0 0),(6, .d (.int .i64 0))] (ap H [.row 0 1 []]) (by omega) ⟨[],by simp,rfl,rfl,rfl,rfl,rfl⟩).out
  simp[Co,-List.getD_eq_getElem?_getD,-List.map_map,f101,p1,p3,he,g5,M7,Bf]
 ·rw[if_neg hs]
  have hb: (Gx xs&&Gx ys)=false:=by
   cases a:Gx xs<;>cases b:Gx ys<;>simp_all
  obtain⟨o,e',X',he,rfl,rfl,g5⟩: ∃o e' X',Bg (Bp (ev R) R.glob (Bc H) Bg Qg) [0,1,5,6] ⟨[(0, .d (Bf xs)),(1, .d (Bf ys)),(5, .slc (Bc H) 0 0 0),(6, .d (.int .i64 0))],ap H [.row 0 1 []]⟩=some (o,⟨e',X'⟩)∧o= .exit 0∧X'=ap H [.row 0 1 []]∧e'.get 5= .slc (Bc H) 0 0 0:=by
   have key: ∀e:Env,e.get 0= .d (Bf xs)→e.get 1= .d (Bf ys)→e.get 5= .slc (Bc H) 0 0 0→e.get 6= .d (.int .i64 0)→Gives (fun o e X=>o≠ .normal∧o= .exit 0∧X=ap H [.row 0 1 []]∧e.get 5= .slc (Bc H) 0 0 0) (Bp (ev R) R.glob (Bc H) Bg Qg ⟨e.keep [0,1,5,6],ap H [.row 0 1 []]⟩):=by
    intro e g0 g1 g5 g6
    by_cases hz:0<xs.length
    ·have c: (0:Int)< (xs.length:Int):=by omega
     cases a:Gx xs with
     |true=>
      rw[a,Bool.true_and] at hb
      rw[a] at p1;rw[hb] at p3
      simp[Co,-List.getD_eq_getElem?_getD,-List.map_map,Qg,g0,g1,g5,g6,c,hz,p1,p3,Bf]
     |false=>
      rw[a] at p1
      simp[Co,-List.getD_eq_getElem?_getD,-List.map_map,Qg,g0,g1,g5,g6,c,hz,p1,Bf]
    ·have c: ¬ (0:Int)< (xs.length:Int):=by omega
     simp[Co,-List.getD_eq_getElem?_getD,-List.map_map,Qg,g0,g1,g5,g6,c,hz,Bf]
   obtain⟨o,e',X',h1,h2,h3⟩:=(key [(0, .d (Bf xs)),(1, .d (Bf ys)),(5, .slc (Bc H) 0 0 0),(6, .d (.int .i64 0))] rfl rfl rfl rfl).out
   exact⟨o,e',X',F7 h1 h2,h3⟩
  simp[Co,-List.getD_eq_getElem?_getD,-List.map_map,f101,he,g5,Bf]
def Jf (xs:List Sc) (t:Bl):List Sc:=xs.filter fun x=> !decide (x.1=t)
theorem Bx9 (xs:List Sc) (t:Bl) (hx:xs.length≤1000000):Be (ev R) 129 [.d (Fw xs), .d (.str t)]=some (.d (Fw (Jf xs t))):=Bb fun H=>by
 refine Bo (fn:=f129) rfl rfl ?_
 obtain⟨o,e',X',he,rfl,rfl,g5⟩:=(Dw (F:=Bp (ev R) R.glob (Bc H) Bg Bbr) (lv:=[0,1,5,6]) xs.length
  (fun i e X=> ∃zs,zs=(xs.take i).filter (fun x=> !decide (x.1=t))∧X=ap H [.row zs.length 2 ((zs.map Ms).map V.d)]∧e.get 0= .d (Fw xs)∧e.get 1= .d (.str t)∧e.get 5= .slc (Bc H) zs.length 0 zs.length∧e.get 6= .d (.int .i64 i))
  (fun o e X=>o= .exit 0∧X=ap H [.row (xs.filter (fun x=> !decide (x.1=t))).length 2 (((xs.filter (fun x=> !decide (x.1=t))).map Ms).map V.d)]∧e.get 5= .slc (Bc H) (xs.filter (fun x=> !decide (x.1=t))).length 0 (xs.filter (fun x=> !decide (x.1=t))).length)
  (by
   rintro e X ⟨zs,rfl,rfl,g0,g1,g5,g6⟩
   rw[List.take_length] at*
   simp[Co,-List.getD_eq_getElem?_getD,-List.map_map,Bbr,g0,g1,g5,g6,Fw])
  (by
   rintro i e X hi ⟨zs,hz,rfl,g0,g1,g5,g6⟩
   have c: (i:Int)< (xs.length:Int):=by omega
   have g:=M8 xs i hi
   have w1:IntKind.i64.wrap ((i:Int)+1)=((i+1:Nat):Int):=by rw[IntWalk.i64_in _ (by omega)];rfl
   have hf:=Pt (fun x=> !decide (x.1=t)) xs i ([],0) hi
   have hl:=Ub (fun x=> !decide (x.1=t)) xs i hi
   rw[←hz] at hf hl
   have r: (zs.length+1)*24≤Cx:=by unfold Cx;omega
   by_cases h: ¬ (xs.getD i ([],0)).1=t
   ·simp only[decide_eq_false h,Bool.not_false,if_true] at hf
    simp[Co,-List.getD_eq_getElem?_getD,-List.map_map,Bbr,g0,g1,g5,g6,c,g,hi,w1,hf,r,eq_false h,Fw]
   ·simp only[decide_eq_true (Classical.not_not.1 h),Bool.not_true,Bool.false_eq_true,if_false,List.append_nil] at hf
    have h:=Classical.not_not.1 h
    simp[Co,-List.getD_eq_getElem?_getD,-List.map_map,Bbr,g0,g1,g5,g6,c,g,hi,w1,hf,eq_true h,Fw])
  xs.length 0 [(0, .d (Fw xs)),(1, .d (.str t)),(5, .slc (Bc H) 0 0 0),(6, .d (.int .i64 0))] (ap H [.row 0 2 []]) (by omega) ⟨[],by simp,rfl,rfl,rfl,rfl,rfl⟩).out
 simp[Co,-List.getD_eq_getElem?_getD,-List.map_map,f129,he,g5,Jf,Fw]
theorem Beh (xs:List Sc) (hx:xs.length≤9223372036854775807):Be (ev R) 115 [.d (Fw xs)]=some (.d (.bool (Fe xs))):=Bb fun H=>Zo H xs hx
theorem Bmy (xs:List Pr) (hx:xs.length≤9223372036854775807):Be (ev R) 116 [.d (Jw xs)]=some (.d (.bool (Fp xs))):=Bb fun H=>Zp H xs hx
theorem Bm9 {α:Type} (p:α→Bool) (xs:List α): (xs.takeWhile p).length≤xs.length:=(List.takeWhile_prefix p).length_le
theorem Uq {α:Type} (p:α→Bool) (d:α): ∀ (xs:List α) (i:Nat),i≤(xs.takeWhile p).length→i<xs.length→p (xs.getD i d)=true→i+1≤(xs.takeWhile p).length
 | [],i,_,h,_=>by simp at h
 |x::xs,0,_,_,h=>by
  simp only[List.getD_cons_zero] at h
  simp[List.takeWhile,h]
 |x::xs,i+1,h1,h2,h=>by
  cases hp:p x with
  |false=>simp[List.takeWhile,hp] at h1
  |true=>
   simp only[List.takeWhile,hp,List.length_cons] at h1⊢
   have:=Uq p d xs i (by omega) (by simpa using h2) (by simpa using h)
   omega
theorem Ur {α:Type} (p:α→Bool) (d:α): ∀ (xs:List α) (i:Nat),i≤(xs.takeWhile p).length→i<xs.length→p (xs.getD i d)=false→i=(xs.takeWhile p).length
 | [],i,_,h,_=>by simp at h
 |x::xs,0,_,_,h=>by
  simp only[List.getD_cons_zero] at h
  simp[List.takeWhile,h]
 |x::xs,i+1,h1,h2,h=>by
  cases hp:p x with
  |false=>simp[List.takeWhile,hp] at h1
  |true=>
   simp only[List.takeWhile,hp,List.length_cons] at h1⊢
   have:=Ur p d xs i (by omega) (by simpa using h2) (by simpa using h)
   omega
def Y0 (xs:List Pr) (t:Bl):Nat:=(xs.takeWhile fun x=>Op.bytesLess x.1 t).length
def Qi (xs:List Pr) (t:Bl):Bool:=decide (Y0 xs t<xs.length) &&decide ((xs.getD (Y0 xs t) ([],[])).1=t)
theorem Bq7 (xs:List Pr) (t:Bl):Y0 xs t≤xs.length:=Bm9 _ _
theorem Br3 (xs:List Pr) (t:Bl) (hx:xs.length≤1000000):Be (ev R) 131 [.d (Jw xs), .d (.str t)]=some (.tup [.d (.int .i64 (Y0 xs t)), .d (.bool (Qi xs t))]):=Bb fun H=>by
 refine Bo (fn:=f131) rfl rfl ?_
 obtain⟨o,e',X',he,rfl,rfl,g0,g1,g6⟩:=(Dw (F:=Bp (ev R) R.glob (Bc H) Bg Bbs) (lv:=[0,1,6]) xs.length
  (fun i e X=>X=H∧e.get 0= .d (Jw xs)∧e.get 1= .d (.str t)∧e.get 6= .d (.int .i64 i)∧i≤Y0 xs t)
  (fun o e X=>o= .exit 0∧X=H∧e.get 0= .d (Jw xs)∧e.get 1= .d (.str t)∧e.get 6= .d (.int .i64 (Y0 xs t)))
  (by
   rintro e X ⟨rfl,g0,g1,g6,hi⟩
   have hn:Y0 xs t=xs.length:=Nat.le_antisymm (Bq7 xs t) hi
   simp[Co,-List.getD_eq_getElem?_getD,-List.map_map,Bbs,g0,g1,g6,hn,Jw])
  (by
   rintro i e X hi ⟨rfl,g0,g1,g6,hk⟩
   have c: (i:Int)< (xs.length:Int):=by omega
   have g:=X5 xs i hi
   have w1:IntKind.i64.wrap ((i:Int)+1)=((i+1:Nat):Int):=by rw[IntWalk.i64_in _ (by omega)];rfl
   cases h:Op.bytesLess (xs.getD i ([],[])).1 t with
   |true=>
    have hn:=Uq (fun x:Pr=>Op.bytesLess x.1 t) ([],[]) xs i hk hi h
    have hn':i+1≤Y0 xs t:=hn
    simp[Co,-List.getD_eq_getElem?_getD,-List.map_map,Bbs,g0,g1,g6,c,hi,g,w1,h,hn',Jw]
   |false=>
    have hn:i=Y0 xs t:=Ur (fun x:Pr=>Op.bytesLess x.1 t) ([],[]) xs i hk hi h
    simp[Co,-List.getD_eq_getElem?_getD,-List.map_map,Bbs,g0,g1,g6,c,hi,g,w1,h,←hn,Jw])
  xs.length 0 [(0, .d (Jw xs)),(1, .d (.str t)),(6, .d (.int .i64 0))] H (by omega) ⟨rfl,rfl,rfl,rfl,Nat.zero_le _⟩).out
 by_cases hl:Y0 xs t<xs.length
 ·have c: (Y0 xs t:Int)< (xs.length:Int):=by omega
  have g:=X5 xs (Y0 xs t) hl
  simp[Co,-List.getD_eq_getElem?_getD,-List.map_map,f131,he,g0,g1,g6,hl,c,g,Qi,Jw]
 ·have c: ¬ (Y0 xs t:Int)< (xs.length:Int):=by omega
  simp[Co,-List.getD_eq_getElem?_getD,-List.map_map,f131,he,g0,g1,g6,hl,c,Qi,Jw]
def Y2 (es:List En) (t:Bl):Nat:=(es.takeWhile fun e=>Op.bytesLess e.key t).length
def Xv (es:List En) (t:Bl):Bool:=decide (Y2 es t<es.length) &&decide ((es.getD (Y2 es t) default).key=t)
theorem Bro (es:List En) (t:Bl):Y2 es t≤es.length:=Bm9 _ _
theorem Br8 (b:Ba) (t:Bl) (hx:b.ents.length≤1000000):Be (ev R) 71 [.d (D6 b), .d (.str t)]=some (.tup [.d (.int .i64 (Y2 b.ents t)), .d (.bool (Xv b.ents t))]):=Bb fun H=>by
 refine Bo (fn:=f71) rfl rfl ?_
 obtain⟨o,e',X',he,rfl,rfl,g2,g1,g6⟩:=(Dw (F:=Bp (ev R) R.glob (Bc H) Bg Bg0) (lv:=[1,2,6]) b.ents.length
  (fun i e X=>X=ap H [.row 0 2 [.d (D6 b)]]∧e.get 2= .ptr (Bc H) 0 0 0∧e.get 1= .d (.str t)∧e.get 6= .d (.int .i64 i)∧i≤Y2 b.ents t)
  (fun o e X=>o= .exit 0∧X=ap H [.row 0 2 [.d (D6 b)]]∧e.get 2= .ptr (Bc H) 0 0 0∧e.get 1= .d (.str t)∧e.get 6= .d (.int .i64 (Y2 b.ents t)))
  (by
   rintro e X ⟨rfl,g2,g1,g6,hi⟩
   have hn:Y2 b.ents t=b.ents.length:=Nat.le_antisymm (Bro b.ents t) hi
   simp[Co,-List.getD_eq_getElem?_getD,-List.map_map,Bg0,g2,g1,g6,hn])
  (by
   rintro i e X hi ⟨rfl,g2,g1,g6,hk⟩
   have c: (i:Int)< (b.ents.length:Int):=by omega
   have g:=M3 b.ents i hi
   have w1:IntKind.i64.wrap ((i:Int)+1)=((i+1:Nat):Int):=by rw[IntWalk.i64_in _ (by omega)];rfl
   cases h:Op.bytesLess (b.ents.getD i default).key t with
   |true=>
    have hn:=Uq (fun e:En=>Op.bytesLess e.key t) default b.ents i hk hi h
    have hn':i+1≤Y2 b.ents t:=hn
    simp[Co,-List.getD_eq_getElem?_getD,-List.map_map,Bg0,g2,g1,g6,c,hi,g,w1,h,hn']
   |false=>
    have hn:i=Y2 b.ents t:=Ur (fun e:En=>Op.bytesLess e.key t) default b.ents i hk hi h
    simp[Co,-List.getD_eq_getElem?_getD,-List.map_map,Bg0,g2,g1,g6,c,hi,g,w1,h,←hn])
  b.ents.length 0 [(1, .d (.str t)),(2, .ptr (Bc H) 0 0 0),(6, .d (.int .i64 0))] (ap H [.row 0 2 [.d (D6 b)]]) (by omega) ⟨rfl,rfl,rfl,rfl,Nat.zero_le _⟩).out
 by_cases hl:Y2 b.ents t<b.ents.length
 ·have c: (Y2 b.ents t:Int)< (b.ents.length:Int):=by omega
  have g:=M3 b.ents (Y2 b.ents t) hl
  simp[Co,-List.getD_eq_getElem?_getD,-List.map_map,f71,he,g2,g1,g6,hl,c,g,Xv]
 ·have c: ¬ (Y2 b.ents t:Int)< (b.ents.length:Int):=by omega
  simp[Co,-List.getD_eq_getElem?_getD,-List.map_map,f71,he,g2,g1,g6,hl,c,Xv]
def J2 {α:Type} (xs:List α) (k:Nat) (x:α):List α:=xs.take k++(x::xs.drop k)
theorem Ke {α:Type} (xs:List α) (k:Nat) (x:α): (J2 xs k x).length=xs.length+1:=by
 simp only[J2,List.length_append,List.length_take,List.length_cons,List.length_drop];omega
theorem Xt {α:Type} (f:α→D) (xs:List α) (k:Nat) (x:α):List.take k (List.map V.d (List.map f xs))++V.d (f x)::List.drop k (List.map V.d (List.map f xs))=List.map V.d (List.map f (J2 xs k x)):=by
 simp only[J2,List.map_append,List.map_cons,List.map_take,List.map_drop]
theorem Xu {α:Type} (f:α→D) (xs:List α) (k:Nat) (x:α) (h:k≤xs.length):List.take (k+1+(xs.length - k)) (List.map V.d (List.map f (J2 xs k x)))=List.map V.d (List.map f (J2 xs k x)):=by
 refine List.take_of_length_le ?_
 simp only[List.length_map,Ke];omega
theorem Bfj {α:Type} (xs:List α) (k:Nat) (x:α) (h:k≤xs.length): (k+1+(xs.length - k)≤(J2 xs k x).length)=True:=eq_true (by rw[Ke];omega)
def tAt (xs:List Bl) (t:Bl):Nat:=(xs.takeWhile fun x=>Op.bytesLess x t).length
def Bvz (xs:List Bl) (t:Bl):Bool:=decide (tAt xs t<xs.length) &&decide (xs.getD (tAt xs t) []=t)
theorem Bto (xs:List Bl) (t:Bl):tAt xs t≤xs.length:=Bm9 _ _
def Bde (xs:List Bl) (t:Bl):List Bl:=if Bvz xs t=true then xs else J2 xs (tAt xs t) t
theorem Bx8 (xs:List Bl) (t:Bl) (hx:xs.length≤1000000):Be (ev R) 128 [.d (Bf xs), .d (.str t)]=some (.d (Bf (Bde xs t))):=Bb fun H=>by
 refine Bo (fn:=f128) rfl rfl ?_
 obtain⟨o,e',X',he,rfl,rfl,g0,g1,g5⟩:=(Dw (F:=Bp (ev R) R.glob (Bc H) Bg Bbq) (lv:=[0,1,5]) xs.length
  (fun i e X=>X=H∧e.get 0= .d (Bf xs)∧e.get 1= .d (.str t)∧e.get 5= .d (.int .i64 i)∧i≤tAt xs t)
  (fun o e X=>o= .exit 0∧X=H∧e.get 0= .d (Bf xs)∧e.get 1= .d (.str t)∧e.get 5= .d (.int .i64 (tAt xs t)))
  (by
   rintro e X ⟨rfl,g0,g1,g5,hi⟩
   have hn:tAt xs t=xs.length:=Nat.le_antisymm (Bto xs t) hi
   simp[Co,-List.getD_eq_getElem?_getD,-List.map_map,Bbq,g0,g1,g5,hn,Bf])
  (by
   rintro i e X hi ⟨rfl,g0,g1,g5,hk⟩
   have c: (i:Int)< (xs.length:Int):=by omega
   have g:=Dt xs i hi
   have w1:IntKind.i64.wrap ((i:Int)+1)=((i+1:Nat):Int):=by rw[IntWalk.i64_in _ (by omega)];rfl
   cases h:Op.bytesLess (xs.getD i []) t with
   |true=>
    have hn:=Uq (fun x:Bl=>Op.bytesLess x t) [] xs i hk hi h
    have hn':i+1≤tAt xs t:=hn
    simp[Co,-List.getD_eq_getElem?_getD,-List.map_map,Bbq,g0,g1,g5,c,hi,g,w1,h,hn',Bf]
   |false=>
    have hn:i=tAt xs t:=Ur (fun x:Bl=>Op.bytesLess x t) [] xs i hk hi h
    simp[Co,-List.getD_eq_getElem?_getD,-List.map_map,Bbq,g0,g1,g5,c,hi,g,w1,h,←hn,Bf])
  xs.length 0 [(0, .d (Bf xs)),(1, .d (.str t)),(5, .d (.int .i64 0))] H (by omega) ⟨rfl,rfl,rfl,rfl,Nat.zero_le _⟩).out
 have hk:=Bto xs t
 have hk': (tAt xs t:Int)≤(xs.length:Int):=by omega
 have hk0: (0:Int)≤(tAt xs t:Int):=by omega
 have r1:tAt xs t*16≤Cx:=by unfold Cx;omega
 have r2: (tAt xs t+1)*16≤Cx:=by unfold Cx;omega
 have r3: (tAt xs t+1+(xs.length - tAt xs t))*16≤Cx:=by unfold Cx;omega
 have mn:min (tAt xs t) xs.length=tAt xs t:=by omega
 have f1:=Xt D.str xs (tAt xs t) t
 have f2:=Xu D.str xs (tAt xs t) t hk
 have f3:=Bfj xs (tAt xs t) t hk
 unfold Bde
 cases h:Bvz xs t with
 |true=>
  unfold Bvz at h
  rw[Bool.and_eq_true,decide_eq_true_eq,decide_eq_true_eq] at h
  obtain⟨hl,h2⟩:=h
  have c: (tAt xs t:Int)< (xs.length:Int):=by omega
  have g:=Dt xs (tAt xs t) hl
  simp[Co,-List.getD_eq_getElem?_getD,-List.map_map,f128,he,g0,g1,g5,hl,c,g,eq_true h2,Bf]
 |false=>
  unfold Bvz at h
  by_cases hl:tAt xs t<xs.length
  ·rw[decide_eq_true hl,Bool.true_and,decide_eq_false_iff_not] at h
   have c: (tAt xs t:Int)< (xs.length:Int):=by omega
   have g:=Dt xs (tAt xs t) hl
   simp[Co,-List.getD_eq_getElem?_getD,-List.map_map,f128,he,g0,g1,g5,hl,c,g,eq_false h,Bf,De,hk,hk',hk0,r1,r2,r3,mn,f1,f2,f3]
  ·have c: ¬ (tAt xs t:Int)< (xs.length:Int):=by omega
   simp[Co,-List.getD_eq_getElem?_getD,-List.map_map,f128,he,g0,g1,g5,hl,c,Bf,De,hk,hk',hk0,r1,r2,r3,mn,f1,f2,f3]
def sAt (xs:List Sc) (x:Sc):Nat:=(xs.takeWhile fun y=>Qa y.1 x.1 y.2 x.2).length
theorem Bs2 (xs:List Sc) (x:Sc):sAt xs x≤xs.length:=Bm9 _ _
def Bsk (xs:List Sc) (x:Sc):List Sc:=J2 (Jf xs x.1) (sAt (Jf xs x.1) x) x
theorem Bik (xs:List Sc) (t:Bl): (Jf xs t).length≤xs.length:=List.length_filter_le _ _
theorem B2m (x y:Sc):Be (ev R) 130 [.d (Ms x), .d (Ms y)]=some (.d (.bool (Qa x.1 y.1 x.2 y.2))):=Bb fun H=>Bxw H x.1 y.1 x.2 y.2
def Na (xs:List Sc) (x:Sc):List Sc×Bool×Bool:=if Fe xs=true then(if Fe (Bsk xs x)=true then(Bsk xs x,decide ((Jf xs x.1).length=xs.length),true) else(xs,false,false)) else([],false,false)
theorem Bxt (H:Hp) (xs:List Sc) (x:Sc) (hx:xs.length≤1000000):ev R 104 [.d (Fw xs), .d (Ms x)] H=some (.tup [.slc (Bc H) 0 0 (Na xs x).1.length, .d (.bool (Na xs x).2.1), .d (.bool (Na xs x).2.2)],ap H [.row 0 2 (((Na xs x).1.map Ms).map V.d)]):=by
 unfold Na
 refine Bo (fn:=f104) rfl rfl ?_
 have p1:=Beh xs (by omega)
 cases h1:Fe xs with
 |false=>
  rw[h1] at p1
  simp[Co,-List.getD_eq_getElem?_getD,-List.map_map,f104,p1,Fw,Yv]
 |true=>
  rw[h1] at p1
  have hw:=Bik xs x.1
  have p2:=Bx9 xs x.1 hx
  have hr:Bsk xs x=J2 (Jf xs x.1) (sAt (Jf xs x.1) x) x:=rfl
  generalize Jf xs x.1=ys at*
  obtain⟨o,e',X',he,rfl,rfl,g0,g3,g7,g8⟩:=(Dw (F:=Bp (ev R) R.glob (Bc H) Bg Bbo) (lv:=[0,3,7,8]) ys.length
   (fun i e X=>X=ap H [.row 0 2 [.d (Ms x)]]∧e.get 0= .d (Fw xs)∧e.get 3= .ptr (Bc H) 0 0 0∧e.get 7= .d (Fw ys)∧e.get 8= .d (.int .i64 i)∧i≤sAt ys x)
   (fun o e X=>o= .exit 0∧X=ap H [.row 0 2 [.d (Ms x)]]∧e.get 0= .d (Fw xs)∧e.get 3= .ptr (Bc H) 0 0 0∧e.get 7= .d (Fw ys)∧e.get 8= .d (.int .i64 (sAt ys x)))
   (by
    rintro e X ⟨rfl,g0,g3,g7,g8,hi⟩
    have hn:sAt ys x=ys.length:=Nat.le_antisymm (Bs2 ys x) hi
    simp[Co,-List.getD_eq_getElem?_getD,-List.map_map,Bbo,g0,g3,g7,g8,hn,Fw])
   (by
    rintro i e X hi ⟨rfl,g0,g3,g7,g8,hk⟩
    have c: (i:Int)< (ys.length:Int):=by omega
    have g:=M8 ys i hi
    have p3:=B2m (ys.getD i ([],0)) x
    have w1:IntKind.i64.wrap ((i:Int)+1)=((i+1:Nat):Int):=by rw[IntWalk.i64_in _ (by omega)];rfl
    cases h:Qa (ys.getD i ([],0)).1 x.1 (ys.getD i ([],0)).2 x.2 with
    |true=>
     rw[h] at p3
     have hn:=Uq (fun y:Sc=>Qa y.1 x.1 y.2 x.2) ([],0) ys i hk hi h
     have hn':i+1≤sAt ys x:=hn
     simp[Co,-List.getD_eq_getElem?_getD,-List.map_map,Bbo,g0,g3,g7,g8,c,hi,g,w1,p3,hn',Fw]
    |false=>
     rw[h] at p3
     have hn:i=sAt ys x:=Ur (fun y:Sc=>Qa y.1 x.1 y.2 x.2) ([],0) ys i hk hi h
     simp[Co,-List.getD_eq_getElem?_getD,-List.map_map,Bbo,g0,g3,g7,g8,c,hi,g,w1,p3,←hn,Fw])
   ys.length 0 [(0, .d (Fw xs)),(3, .ptr (Bc H) 0 0 0),(7, .d (Fw ys)),(8, .d (.int .i64 0))] (ap H [.row 0 2 [.d (Ms x)]]) (by omega) ⟨rfl,rfl,rfl,rfl,rfl,Nat.zero_le _⟩).out
  have hk:=Bs2 ys x
  rw[hr]
  generalize sAt ys x=k at*
  have hk': (k:Int)≤(ys.length:Int):=by omega
  have hk0: (0:Int)≤(k:Int):=by omega
  have r1:k*24≤Cx:=by unfold Cx;omega
  have r2: (k+1)*24≤Cx:=by unfold Cx;omega
  have r3: (k+1+(ys.length - k))*24≤Cx:=by unfold Cx;omega
  have r4:xs.length*24≤Cx:=by unfold Cx;omega
  have il:=Ke ys k x
  have fl:k+1+(ys.length - k)=ys.length+1:=by omega
  have mn:min k ys.length=k:=by omega
  have f1:=Xt Ms ys k x
  have f2:=Xu Ms ys k x hk
  have f3:=Bfj ys k x hk
  have p4:=Beh (J2 ys k x) (by rw[Ke];omega)
  have vw:Gi (List.map V.d (List.map Ms (J2 ys k x)))=some (List.map Ms (J2 ys k x)):=Wz _
  have f2':List.take (k+1+(ys.length - k)) (List.map Ms (J2 ys k x))=List.map Ms (J2 ys k x):=by
   refine List.take_of_length_le ?_
   simp only[List.length_map,Ke];omega
  rw[fl] at r3 f2 f2' f3
  cases h2:Fe (J2 ys k x) with
  |true=>
   rw[h2] at p4
   by_cases hl:ys.length=xs.length
   ·have hl': (ys.length:Int)=(xs.length:Int):=by omega
    simp[Co,-List.getD_eq_getElem?_getD,-List.map_map,f104,p1,p2,he,g0,g3,g7,g8,De,hk,hk',hk0,r1,r2,r3,r4,mn,f1,f2,f2',f3,p4,eq_true hl,eq_true hl',Fw,il,fl,Yv]
   ·have hl': ¬ (ys.length:Int)=(xs.length:Int):=by omega
    simp[Co,-List.getD_eq_getElem?_getD,-List.map_map,f104,p1,p2,he,g0,g3,g7,g8,De,hk,hk',hk0,r1,r2,r3,r4,mn,f1,f2,f2',f3,p4,eq_false hl,eq_false hl',Fw,il,fl,Yv]
  |false=>
   rw[h2] at p4
   simp[Co,-List.getD_eq_getElem?_getD,-List.map_map,f104,p1,p2,he,g0,g3,g7,g8,De,hk,hk',hk0,r1,r2,r3,r4,mn,f1,f2,f2',f3,p4,Fw,il,fl,Yv]
theorem Bx4 (xs:List Sc) (x:Sc) (hx:xs.length≤1000000):Jd (ev R) 104 [.d (Fw xs), .d (Ms x)]=some (.tup [.d (Fw (Na xs x).1), .d (.bool (Na xs x).2.1), .d (.bool (Na xs x).2.2)]):=by
 refine Nu fun H=> ⟨_,_,Bxt H xs x hx, ?_,W9 H _⟩
 simp[Co,-List.getD_eq_getElem?_getD,-List.map_map]
theorem Br1 (xs:List Sc) (x:Sc) (hx:xs.length≤1000000):Be (ev R) 104 [.d (Fw xs), .d (Ms x)]=none:=by
 cases h:Be (ev R) 104 [.d (Fw xs), .d (Ms x)] with
 |none=>rfl
 |some v=>
  have h1:=Fq h []
  rw[Bxt [] xs x hx] at h1
  simp[ap] at h1
def Mx {α:Type} (xs:List α) (k:Nat):List α:=xs.take k++xs.drop (k+1)
theorem Yt {α:Type} (xs:List α) (k:Nat) (h:k<xs.length): (Mx xs k).length=xs.length - 1:=by
 simp only[Mx,List.length_append,List.length_take,List.length_drop];omega
theorem Bgo {α:Type} (f:α→D) (xs:List α) (k:Nat):List.take k (List.map V.d (List.map f xs))++List.drop (k+1) (List.map V.d (List.map f xs))=List.map V.d (List.map f (Mx xs k)):=by
 simp only[Mx,List.map_append,List.map_take,List.map_drop]
theorem Bgp {α:Type} (f:α→D) (xs:List α) (k:Nat) (h:k<xs.length):List.take (k+(xs.length - (k+1))) (List.map V.d (List.map f (Mx xs k)))=List.map V.d (List.map f (Mx xs k)):=by
 refine List.take_of_length_le ?_
 simp only[List.length_map,Yt _ _ h];omega
theorem Bqx {α:Type} (xs:List α) (k:Nat) (h:k<xs.length): (k+(xs.length - (k+1))≤(Mx xs k).length)=True:=eq_true (by rw[Yt _ _ h];omega)
def Bem (xs:List Pr) (x:Pr):List Pr:=if Qi xs x.1=true then xs.set (Y0 xs x.1) x else J2 xs (Y0 xs x.1) x
theorem Bcy {α:Type} (f:α→D) (xs:List α) (k:Nat) (x:α): (List.map V.d (List.map f xs)).set k (V.d (f x))=List.map V.d (List.map f (xs.set k x)):=by
 simp only[List.map_set]
theorem Bo2 (xs:List Pr) (x:Pr): (Bem xs x).length≤xs.length+1:=by
 unfold Bem
 split
 ·rw[List.length_set];omega
 ·rw[Ke];omega
def M9 (xs:List Pr) (x:Pr):List Pr×Bool×Bool:=if Fp xs=true then(if Fp (Bem xs x)=true then(Bem xs x, !Qi xs x.1,true) else(xs,false,false)) else([],false,false)
theorem Bxu (H:Hp) (xs:List Pr) (x:Pr) (hx:xs.length≤1000000):ev R 110 [.d (Jw xs), .d (Pv x)] H=some (.tup [.slc (Bc H) 0 0 (M9 xs x).1.length, .d (.bool (M9 xs x).2.1), .d (.bool (M9 xs x).2.2)],ap H [.row 0 2 (((M9 xs x).1.map Pv).map V.d)]):=by
 unfold M9
 refine Bo (fn:=f110) rfl rfl ?_
 have p1:=Bmy xs (by omega)
 cases h1:Fp xs with
 |false=>
  rw[h1] at p1
  simp[Co,-List.getD_eq_getElem?_getD,-List.map_map,f110,p1,Jw,Yv]
 |true=>
  rw[h1] at p1
  have p2:=Br3 xs x.1 hx
  have hk:=Bq7 xs x.1
  have hx1:=Bo2 xs x
  have p4:=Bmy (Bem xs x) (by omega)
  have hr:Bem xs x=if Qi xs x.1=true then xs.set (Y0 xs x.1) x else J2 xs (Y0 xs x.1) x:=rfl
  have hl:Qi xs x.1=true→Y0 xs x.1<xs.length:=fun h=>by
   unfold Qi at h
   rw[Bool.and_eq_true,decide_eq_true_eq] at h
   exact h.1
  generalize Y0 xs x.1=k at*
  have hk': (k:Int)≤(xs.length:Int):=by omega
  have hk0: (0:Int)≤(k:Int):=by omega
  have r1:k*32≤Cx:=by unfold Cx;omega
  have r2: (k+1)*32≤Cx:=by unfold Cx;omega
  have r3: (k+1+(xs.length - k))*32≤Cx:=by unfold Cx;omega
  have r4:xs.length*32≤Cx:=by unfold Cx;omega
  have mn:min k xs.length=k:=by omega
  cases h3:Qi xs x.1 with
  |true=>
   have hl:=hl h3
   have hl': (k:Int)< (xs.length:Int):=by omega
   rw[h3] at p2
   rw[h3,if_pos rfl] at hr
   have f1:=Bcy Pv xs k x
   rw[hr] at p4⊢
   have f4:List.take xs.length (List.map V.d (List.map Pv (xs.set k x)))=List.map V.d (List.map Pv (xs.set k x)):=List.take_of_length_le (by simp)
   have f5:List.take xs.length (List.map Pv (xs.set k x))=List.map Pv (xs.set k x):=List.take_of_length_le (by simp)
   have f6: (xs.set k x).length=xs.length:=List.length_set
   generalize xs.set k x=zs at*
   cases h2:Fp zs with
   |true=>
    rw[h2] at p4
    simp[Co,-List.getD_eq_getElem?_getD,-List.map_map,f110,p1,p2,r4,hl,hl',hk0,f1,f4,f5,f6,p4,Jw,Yv]
   |false=>
    rw[h2] at p4
    simp[Co,-List.getD_eq_getElem?_getD,-List.map_map,f110,p1,p2,r4,hl,hl',hk0,f1,f4,f5,f6,p4,Jw,Yv]
  |false=>
   rw[h3] at p2
   rw[h3,if_neg (by simp)] at hr
   have il:=Ke xs k x
   have fl:k+1+(xs.length - k)=xs.length+1:=by omega
   rw[hr] at p4⊢
   have f1:=Xt Pv xs k x
   have f2:=Xu Pv xs k x hk
   have f3:=Bfj xs k x hk
   have f2':List.take (k+1+(xs.length - k)) (List.map Pv (J2 xs k x))=List.map Pv (J2 xs k x):=by
    refine List.take_of_length_le ?_
    simp only[List.length_map,Ke];omega
   rw[fl] at r3 f2 f2' f3
   cases h2:Fp (J2 xs k x) with
   |true=>
    rw[h2] at p4
    simp[Co,-List.getD_eq_getElem?_getD,-List.map_map,f110,p1,p2,De,hk,hk',hk0,r1,r2,r3,r4,mn,f1,f2,f2',f3,p4,Jw,il,fl,Yv]
   |false=>
    rw[h2] at p4
    simp[Co,-List.getD_eq_getElem?_getD,-List.map_map,f110,p1,p2,De,hk,hk',hk0,r1,r2,r3,r4,mn,f1,f2,f2',f3,p4,Jw,il,fl,Yv]
theorem Bx6 (xs:List Pr) (x:Pr) (hx:xs.length≤1000000):Jd (ev R) 110 [.d (Jw xs), .d (Pv x)]=some (.tup [.d (Jw (M9 xs x).1), .d (.bool (M9 xs x).2.1), .d (.bool (M9 xs x).2.2)]):=by
 refine Nu fun H=> ⟨_,_,Bxu H xs x hx, ?_,W9 H _⟩
 simp[Co,-List.getD_eq_getElem?_getD,-List.map_map]
theorem Br2 (xs:List Pr) (x:Pr) (hx:xs.length≤1000000):Be (ev R) 110 [.d (Jw xs), .d (Pv x)]=none:=by
 cases h:Be (ev R) 110 [.d (Jw xs), .d (Pv x)] with
 |none=>rfl
 |some v=>
  have h1:=Fq h []
  rw[Bxu [] xs x hx] at h1
  simp[ap] at h1
theorem B2i (xs:List Pr) (t:Bl) (hx:xs.length≤1000000):Be (ev R) 109 [.d (Jw xs), .d (.str t)]=
  some (if Fp xs=true then .tup [.d (Jw (if Qi xs t=true then Mx xs (Y0 xs t) else xs)), .d (.bool (Qi xs t))] else .tup [.d (Jw []), .d (.bool false)]):=Bb fun H=>by
 refine Bo (fn:=f109) rfl rfl ?_
 have p1:=Bmy xs (by omega)
 cases h1:Fp xs with
 |false=>
  rw[h1] at p1
  simp[Co,-List.getD_eq_getElem?_getD,-List.map_map,f109,p1,Jw]
 |true=>
  rw[h1] at p1
  have p2:=Br3 xs t hx
  have hl:Qi xs t=true→Y0 xs t<xs.length:=fun h=>by
   unfold Qi at h
   rw[Bool.and_eq_true,decide_eq_true_eq] at h
   exact h.1
  generalize Y0 xs t=k at*
  have r4:xs.length*32≤Cx:=by unfold Cx;omega
  cases h3:Qi xs t with
  |false=>
   rw[h3] at p2
   simp[Co,-List.getD_eq_getElem?_getD,-List.map_map,f109,p1,p2,r4,Jw]
  |true=>
   rw[h3] at p2
   have hl:=hl h3
   have hk:k≤xs.length:=by omega
   have hk': (k:Int)≤(xs.length:Int):=by omega
   have hk0: (0:Int)≤(k:Int):=by omega
   have w1:IntKind.i64.wrap ((k:Int)+1)=((k+1:Nat):Int):=by rw[IntWalk.i64_in _ (by omega)];rfl
   have hk1: (k:Int)+1≤(xs.length:Int):=by omega
   have hk4: ((k:Int)+1).toNat=k+1:=by omega
   have hk2:k+1≤xs.length:=by omega
   have hk3: (0:Int)≤(k:Int)+1:=by omega
   have r1:k*32≤Cx:=by unfold Cx;omega
   have r3: (k+(xs.length - (k+1)))*32≤Cx:=by unfold Cx;omega
   have mn:min k xs.length=k:=by omega
   have f1:=Bgo Pv xs k
   have f2:=Bgp Pv xs k hl
   have f3:=Bqx xs k hl
   simp[Co,-List.getD_eq_getElem?_getD,-List.map_map,f109,p1,p2,De,hl,hk,hk',hk0,w1,hk1,hk2,hk3,hk4,r1,r3,mn,f1,f2,f3,Jw]
theorem B2h (xs:List Pr) (t:Bl) (hx:xs.length≤1000000):Be (ev R) 108 [.d (Jw xs), .d (.str t)]=
  some (if Fp xs=true∧Qi xs t=true then .tup [.d (.str (xs.getD (Y0 xs t) ([],[])).2), .d (.bool true)] else .tup [.d (.str []), .d (.bool false)]):=Bb fun H=>by
 refine Bo (fn:=f108) rfl rfl ?_
 have p1:=Bmy xs (by omega)
 have p2:=Br3 xs t hx
 cases h1:Fp xs with
 |false=>
  rw[h1] at p1
  simp[Co,-List.getD_eq_getElem?_getD,-List.map_map,f108,p1,p2,Jw]
 |true=>
  rw[h1] at p1
  have hl:Qi xs t=true→Y0 xs t<xs.length:=fun h=>by
   unfold Qi at h
   rw[Bool.and_eq_true,decide_eq_true_eq] at h
   exact h.1
  generalize Y0 xs t=k at*
  cases h3:Qi xs t with
  |false=>
   rw[h3] at p2
   simp[Co,-List.getD_eq_getElem?_getD,-List.map_map,f108,p1,p2,Jw]
  |true=>
   rw[h3] at p2
   have hl:=hl h3
   have hl': (k:Int)< (xs.length:Int):=by omega
   have hk0: (0:Int)≤(k:Int):=by omega
   have g:=X5 xs k hl
   simp[Co,-List.getD_eq_getElem?_getD,-List.map_map,f108,p1,p2,g,hl,hl',hk0,Jw]
theorem B2e (xs:List Sc) (t:Bl) (hx:xs.length≤1000000):Be (ev R) 102 [.d (Fw xs), .d (.str t)]=
  some (if Fe xs=true then .tup [.d (Fw (Jf xs t)), .d (.bool (decide ((Jf xs t).length<xs.length)))] else .tup [.d (Fw []), .d (.bool false)]):=Bb fun H=>by
 refine Bo (fn:=f102) rfl rfl ?_
 have p1:=Beh xs (by omega)
 have p2:=Bx9 xs t hx
 cases h1:Fe xs with
 |false=>
  rw[h1] at p1
  simp[Co,-List.getD_eq_getElem?_getD,-List.map_map,f102,p1,Fw]
 |true=>
  rw[h1] at p1
  generalize Jf xs t=ys at*
  simp[Co,-List.getD_eq_getElem?_getD,-List.map_map,f102,p1,p2,Fw]
def G5 (xs:List Sc) (t:Bl):Int:=if Fe xs=true then(if(xs.takeWhile fun x=> !decide (x.1=t)).length<xs.length then((xs.takeWhile fun x=> !decide (x.1=t)).length:Int) else -1) else -1
theorem Bmx (xs:List Sc) (t:Bl) (hx:xs.length≤1000000):Be (ev R) 103 [.d (Fw xs), .d (.str t)]=some (.d (.int .i64 (G5 xs t))):=Bb fun H=>by
 refine Bo (fn:=f103) rfl rfl ?_
 have p1:=Beh xs (by omega)
 have key:Gives (fun o e X=>X=H∧(o= .exit 0∧G5 xs t= -1∨o= .ret∧e.get 4= .d (.int .i64 (G5 xs t)))) (Bg (Bp (ev R) R.glob (Bc H) Bg Wd) [0,1,5] ⟨[(0, .d (Fw xs)),(1, .d (.str t)),(5, .d (.int .i64 0))],H⟩):=by
  refine Dw (F:=Bp (ev R) R.glob (Bc H) Bg Wd) (lv:=[0,1,5]) xs.length
   (fun i e X=>X=H∧e.get 0= .d (Fw xs)∧e.get 1= .d (.str t)∧e.get 5= .d (.int .i64 i)∧i≤(xs.takeWhile fun x=> !decide (x.1=t)).length) _ ?_ ?_ xs.length 0 _ _ (by omega) ⟨rfl,rfl,rfl,rfl,Nat.zero_le _⟩
  ·rintro e X ⟨rfl,g0,g1,g5,hi⟩
   have hn: ¬ (xs.takeWhile fun x=> !decide (x.1=t)).length<xs.length:=by omega
   have hr:G5 xs t= -1:=by unfold G5;rw[if_neg hn];split<;>rfl
   simp[Co,-List.getD_eq_getElem?_getD,-List.map_map,Wd,g0,g1,g5,hr,Fw]
  ·rintro i e X hi ⟨rfl,g0,g1,g5,hk⟩
   have c: (i:Int)< (xs.length:Int):=by omega
   have g:=M8 xs i hi
   have w1:IntKind.i64.wrap ((i:Int)+1)=((i+1:Nat):Int):=by rw[IntWalk.i64_in _ (by omega)];rfl
   cases h1:Fe xs with
   |false=>
    rw[h1] at p1
    have hr:G5 xs t= -1:=by unfold G5;rw[h1];simp
    simp[Co,-List.getD_eq_getElem?_getD,-List.map_map,Wd,g0,g1,g5,c,hi,p1,hr,Fw]
   |true=>
    rw[h1] at p1
    by_cases h: (xs.getD i ([],0)).1=t
    ·have hn:=Ur (fun x:Sc=> !decide (x.1=t)) ([],0) xs i hk hi (by simp only[decide_eq_true h,Bool.not_true])
     have hr:G5 xs t=(i:Int):=by unfold G5;rw[h1,if_pos rfl,←hn,if_pos hi]
     simp[Co,-List.getD_eq_getElem?_getD,-List.map_map,Wd,g0,g1,g5,c,hi,g,p1,w1,eq_true h,hr,Fw]
    ·have hn:=Uq (fun x:Sc=> !decide (x.1=t)) ([],0) xs i hk hi (by simp only[decide_eq_false h,Bool.not_false])
     simp[Co,-List.getD_eq_getElem?_getD,-List.map_map,Wd,g0,g1,g5,c,hi,g,p1,w1,eq_false h,hn,Fw]
 obtain⟨o,e',X',he,rfl,g⟩:=key.out
 rcases g with⟨rfl,g⟩ | ⟨rfl,g4⟩
 ·simp[Co,-List.getD_eq_getElem?_getD,-List.map_map,f103,he,g]
 ·simp[Co,-List.getD_eq_getElem?_getD,-List.map_map,f103,he,g4]
end Go.Proofs.YtedlandcnpjghaaGreatDoor.Code

/- Lemmas (several texts in one). -/
import Derived.Test.YtpajcoanfkeibaaGreatDoorMDoKind6
import Derived.Test.YtpajcoanfkeibaaGreatDoorMDoKind11
import Derived.Test.YtpajcoanfkeibaaGreatDoorMDoKind12
import Derived.Test.YtpajcoanfkeibaaGreatDoorMDoKind13
import Derived.Test.YtpajcoanfkeibaaGreatDoorMDoKind15
set_option maxRecDepth 100000
set_option linter.unusedSimpArgs false
set_option linter.unusedVariables false
open List renaming take_length → Cdm, getD_eq_getElem?_getD → Cda, map_map → Cdb, length_cons → Cdc, length_append → Cdi, length_take → Cdn, take_of_length_le → Cdg, length_map → Cdo
open Bool renaming false_eq_true → Cdw, and_eq_true → Cdv
namespace Go.Proofs.YtpajcoanfkeibaaGreatDoor.Code
open Go Go.Ev Go.Proofs
def Bth (xs ys:List Br):List Br:=xs.filter fun s=>decide (s∈ys)
theorem B6q (xs ys:List Br) (hx:xs.length≤1000000) (hy:ys.length≤1000000):Be (ev R) 216 [.d (Bf xs), .d (Bf ys)]=
  some (.d (Bf (if Gg xs=true∧Gg ys=true then Bth xs ys else[]))):=Bb fun H=>by
 refine Bh (fn:=f216) rfl rfl ?_
 have p1:=Bio xs (by omega)
 have p3:=Bio ys (by omega)
 by_cases hs:Gg xs=true∧Gg ys=true
 ·rw[if_pos hs]
  obtain⟨h1,h2⟩:=hs
  rw[h1] at p1
  rw[h2] at p3
  obtain⟨o,e',X',he,rfl,rfl,g5⟩:=(C9 (F:=Bq (ev R) R.glob (Bc H) Bg Qf) (lv:=[0,1,5,6]) xs.length
   (fun i e X=> ∃zs,zs=(xs.take i).filter (fun s=>decide (s∈ys))∧X=ap H [.row zs.length 1 ((zs.map D.str).map V.d)]∧e.get 0= .d (Bf xs)∧e.get 1= .d (Bf ys)∧e.get 5= .slc (Bc H) zs.length 0 zs.length∧e.get 6= .d (.int .i64 i))
   (fun o e X=>o= .exit 0∧X=ap H [.row (xs.filter (fun s=>decide (s∈ys))).length 1 (((xs.filter (fun s=>decide (s∈ys))).map D.str).map V.d)]∧e.get 5= .slc (Bc H) (xs.filter (fun s=>decide (s∈ys))).length 0 (xs.filter (fun s=>decide (s∈ys))).length)
   (by
    rintro e X ⟨zs,rfl,rfl,g0,g1,g5,g6⟩
    rw[Cdm] at*
    simp[Cg,-Cda,-Cdb,Qf,g0,g1,g5,g6,p1,p3,Bf])
   (by
    rintro i e X hi ⟨zs,hz,rfl,g0,g1,g5,g6⟩
    have c: (i:Int)< (xs.length:Int):=by omega
    have g:=Dk xs i hi
    have w1:IntKind.i64.wrap ((i:Int)+1)=((i+1:Nat):Int):=by rw[IntWalk.i64_in _ (by omega)];rfl
    have hf:=Ps (fun s=>decide (s∈ys)) xs i [] hi
    have hl:=Uc (fun s=>decide (s∈ys)) xs i hi
    rw[←hz] at hf hl
    have p2:=Bim ys (xs.getD i []) (by omega)
    have r: (zs.length+1)*16≤Ct:=by unfold Ct;omega
    by_cases h:xs.getD i []∈ys
    ·simp only[decide_eq_true h,Bool.not_true,if_true] at hf
     rw[decide_eq_true h] at p2
     simp[Cg,-Cda,-Cdb,Qf,g0,g1,g5,g6,p1,p3,c,g,hi,w1,hf,r,p2,p1,p3,Bf]
    ·simp only[decide_eq_false h,Bool.not_false,Cdw,if_false,List.append_nil] at hf
     rw[decide_eq_false h] at p2
     simp[Cg,-Cda,-Cdb,Qf,g0,g1,g5,g6,p1,p3,c,g,hi,w1,hf,p2,p1,p3,Bf])
   xs.length 0 [(0, .d (Bf xs)),(1, .d (Bf ys)),(5, .slc (Bc H) 0 0 0),(6, .d (.int .i64 0))] (ap H [.row 0 1 []]) (by omega) ⟨[],by simp,rfl,rfl,rfl,rfl,rfl⟩).out
  simp[Cg,-Cda,-Cdb,f216,p1,p3,he,g5,Bth,Bf]
 ·rw[if_neg hs]
  have hb: (Gg xs&&Gg ys)=false:=by
   cases a:Gg xs<;>cases b:Gg ys<;>simp_all
  obtain⟨o,e',X',he,rfl,rfl,g5⟩: ∃o e' X',Bg (Bq (ev R) R.glob (Bc H) Bg Qf) [0,1,5,6] ⟨[(0, .d (Bf xs)),(1, .d (Bf ys)),(5, .slc (Bc H) 0 0 0),(6, .d (.int .i64 0))],ap H [.row 0 1 []]⟩=some (o,⟨e',X'⟩)∧o= .exit 0∧X'=ap H [.row 0 1 []]∧e'.get 5= .slc (Bc H) 0 0 0:=by
   have key: ∀e:Env,e.get 0= .d (Bf xs)→e.get 1= .d (Bf ys)→e.get 5= .slc (Bc H) 0 0 0→e.get 6= .d (.int .i64 0)→Gives (fun o e X=>o≠ .normal∧o= .exit 0∧X=ap H [.row 0 1 []]∧e.get 5= .slc (Bc H) 0 0 0) (Bq (ev R) R.glob (Bc H) Bg Qf ⟨e.keep [0,1,5,6],ap H [.row 0 1 []]⟩):=by
    intro e g0 g1 g5 g6
    by_cases hz:0<xs.length
    ·have c: (0:Int)< (xs.length:Int):=by omega
     cases a:Gg xs with
     |true=>
      rw[a,Bool.true_and] at hb
      rw[a] at p1;rw[hb] at p3
      simp[Cg,-Cda,-Cdb,Qf,g0,g1,g5,g6,c,hz,p1,p3,Bf]
     |false=>
      rw[a] at p1
      simp[Cg,-Cda,-Cdb,Qf,g0,g1,g5,g6,c,hz,p1,Bf]
    ·have c: ¬ (0:Int)< (xs.length:Int):=by omega
     simp[Cg,-Cda,-Cdb,Qf,g0,g1,g5,g6,c,hz,Bf]
   obtain⟨o,e',X',h1,h2,h3⟩:=(key [(0, .d (Bf xs)),(1, .d (Bf ys)),(5, .slc (Bc H) 0 0 0),(6, .d (.int .i64 0))] rfl rfl rfl rfl).out
   exact⟨o,e',X',Gb h1 h2,h3⟩
  simp[Cg,-Cda,-Cdb,f216,he,g5,Bf]
theorem B6s (xs ys:List Br) (hx:xs.length≤1000000) (hy:ys.length≤1000000):Be (ev R) 218 [.d (Bf xs), .d (Bf ys)]=
  some (.d (Bf (if Gg xs=true∧Gg ys=true then M0 xs ys else[]))):=Bb fun H=>by
 refine Bh (fn:=f218) rfl rfl ?_
 have p1:=Bio xs (by omega)
 have p3:=Bio ys (by omega)
 by_cases hs:Gg xs=true∧Gg ys=true
 ·rw[if_pos hs]
  obtain⟨h1,h2⟩:=hs
  rw[h1] at p1
  rw[h2] at p3
  obtain⟨o,e',X',he,rfl,rfl,g5⟩:=(C9 (F:=Bq (ev R) R.glob (Bc H) Bg Qg) (lv:=[0,1,5,6]) xs.length
   (fun i e X=> ∃zs,zs=(xs.take i).filter (fun s=> !decide (s∈ys))∧X=ap H [.row zs.length 1 ((zs.map D.str).map V.d)]∧e.get 0= .d (Bf xs)∧e.get 1= .d (Bf ys)∧e.get 5= .slc (Bc H) zs.length 0 zs.length∧e.get 6= .d (.int .i64 i))
   (fun o e X=>o= .exit 0∧X=ap H [.row (xs.filter (fun s=> !decide (s∈ys))).length 1 (((xs.filter (fun s=> !decide (s∈ys))).map D.str).map V.d)]∧e.get 5= .slc (Bc H) (xs.filter (fun s=> !decide (s∈ys))).length 0 (xs.filter (fun s=> !decide (s∈ys))).length)
   (by
    rintro e X ⟨zs,rfl,rfl,g0,g1,g5,g6⟩
    rw[Cdm] at*
    simp[Cg,-Cda,-Cdb,Qg,g0,g1,g5,g6,p1,p3,Bf])
   (by
    rintro i e X hi ⟨zs,hz,rfl,g0,g1,g5,g6⟩
    have c: (i:Int)< (xs.length:Int):=by omega
    have g:=Dk xs i hi
    have w1:IntKind.i64.wrap ((i:Int)+1)=((i+1:Nat):Int):=by rw[IntWalk.i64_in _ (by omega)];rfl
    have hf:=Ps (fun s=> !decide (s∈ys)) xs i [] hi
    have hl:=Uc (fun s=> !decide (s∈ys)) xs i hi
    rw[←hz] at hf hl
    have p2:=Bim ys (xs.getD i []) (by omega)
    have r: (zs.length+1)*16≤Ct:=by unfold Ct;omega
    by_cases h: ¬xs.getD i []∈ys
    ·simp only[decide_eq_false h,Bool.not_false,if_true] at hf
     rw[decide_eq_false h] at p2
     simp[Cg,-Cda,-Cdb,Qg,g0,g1,g5,g6,p1,p3,c,g,hi,w1,hf,r,p2,p1,p3,Bf]
    ·simp only[decide_eq_true (Classical.not_not.1 h),Bool.not_true,Cdw,if_false,List.append_nil] at hf
     rw[decide_eq_true (Classical.not_not.1 h)] at p2
     simp[Cg,-Cda,-Cdb,Qg,g0,g1,g5,g6,p1,p3,c,g,hi,w1,hf,p2,p1,p3,Bf])
   xs.length 0 [(0, .d (Bf xs)),(1, .d (Bf ys)),(5, .slc (Bc H) 0 0 0),(6, .d (.int .i64 0))] (ap H [.row 0 1 []]) (by omega) ⟨[],by simp,rfl,rfl,rfl,rfl,rfl⟩).out
  simp[Cg,-Cda,-Cdb,f218,p1,p3,he,g5,M0,Bf]
 ·rw[if_neg hs]
  have hb: (Gg xs&&Gg ys)=false:=by
   cases a:Gg xs<;>cases b:Gg ys<;>simp_all
  obtain⟨o,e',X',he,rfl,rfl,g5⟩: ∃o e' X',Bg (Bq (ev R) R.glob (Bc H) Bg Qg) [0,1,5,6] ⟨[(0, .d (Bf xs)),(1, .d (Bf ys)),(5, .slc (Bc H) 0 0 0),(6, .d (.int .i64 0))],ap H [.row 0 1 []]⟩=some (o,⟨e',X'⟩)∧o= .exit 0∧X'=ap H [.row 0 1 []]∧e'.get 5= .slc (Bc H) 0 0 0:=by
   have key: ∀e:Env,e.get 0= .d (Bf xs)→e.get 1= .d (Bf ys)→e.get 5= .slc (Bc H) 0 0 0→e.get 6= .d (.int .i64 0)→Gives (fun o e X=>o≠ .normal∧o= .exit 0∧X=ap H [.row 0 1 []]∧e.get 5= .slc (Bc H) 0 0 0) (Bq (ev R) R.glob (Bc H) Bg Qg ⟨e.keep [0,1,5,6],ap H [.row 0 1 []]⟩):=by
    intro e g0 g1 g5 g6
    by_cases hz:0<xs.length
    ·have c: (0:Int)< (xs.length:Int):=by omega
     cases a:Gg xs with
     |true=>
      rw[a,Bool.true_and] at hb
      rw[a] at p1;rw[hb] at p3
      simp[Cg,-Cda,-Cdb,Qg,g0,g1,g5,g6,c,hz,p1,p3,Bf]
     |false=>
      rw[a] at p1
      simp[Cg,-Cda,-Cdb,Qg,g0,g1,g5,g6,c,hz,p1,Bf]
    ·have c: ¬ (0:Int)< (xs.length:Int):=by omega
     simp[Cg,-Cda,-Cdb,Qg,g0,g1,g5,g6,c,hz,Bf]
   obtain⟨o,e',X',h1,h2,h3⟩:=(key [(0, .d (Bf xs)),(1, .d (Bf ys)),(5, .slc (Bc H) 0 0 0),(6, .d (.int .i64 0))] rfl rfl rfl rfl).out
   exact⟨o,e',X',Gb h1 h2,h3⟩
  simp[Cg,-Cda,-Cdb,f218,he,g5,Bf]
def Ji (xs:List Sc) (t:Br):List Sc:=xs.filter fun x=> !decide (x.1=t)
theorem Bz9 (xs:List Sc) (t:Br) (hx:xs.length≤1000000):Be (ev R) 258 [.d (De xs), .d (.str t)]=some (.d (De (Ji xs t))):=Bb fun H=>by
 refine Bh (fn:=f258) rfl rfl ?_
 obtain⟨o,e',X',he,rfl,rfl,g5⟩:=(C9 (F:=Bq (ev R) R.glob (Bc H) Bg Bbo) (lv:=[0,1,5,6]) xs.length
  (fun i e X=> ∃zs,zs=(xs.take i).filter (fun x=> !decide (x.1=t))∧X=ap H [.row zs.length 2 ((zs.map Kh).map V.d)]∧e.get 0= .d (De xs)∧e.get 1= .d (.str t)∧e.get 5= .slc (Bc H) zs.length 0 zs.length∧e.get 6= .d (.int .i64 i))
  (fun o e X=>o= .exit 0∧X=ap H [.row (xs.filter (fun x=> !decide (x.1=t))).length 2 (((xs.filter (fun x=> !decide (x.1=t))).map Kh).map V.d)]∧e.get 5= .slc (Bc H) (xs.filter (fun x=> !decide (x.1=t))).length 0 (xs.filter (fun x=> !decide (x.1=t))).length)
  (by
   rintro e X ⟨zs,rfl,rfl,g0,g1,g5,g6⟩
   rw[Cdm] at*
   simp[Cg,-Cda,-Cdb,Bbo,g0,g1,g5,g6,De])
  (by
   rintro i e X hi ⟨zs,hz,rfl,g0,g1,g5,g6⟩
   have c: (i:Int)< (xs.length:Int):=by omega
   have g:=M3 xs i hi
   have w1:IntKind.i64.wrap ((i:Int)+1)=((i+1:Nat):Int):=by rw[IntWalk.i64_in _ (by omega)];rfl
   have hf:=Ps (fun x=> !decide (x.1=t)) xs i ([],0) hi
   have hl:=Uc (fun x=> !decide (x.1=t)) xs i hi
   rw[←hz] at hf hl
   have r: (zs.length+1)*24≤Ct:=by unfold Ct;omega
   by_cases h: ¬ (xs.getD i ([],0)).1=t
   ·simp only[decide_eq_false h,Bool.not_false,if_true] at hf
    simp[Cg,-Cda,-Cdb,Bbo,g0,g1,g5,g6,c,g,hi,w1,hf,r,eq_false h,De]
   ·simp only[decide_eq_true (Classical.not_not.1 h),Bool.not_true,Cdw,if_false,List.append_nil] at hf
    have h:=Classical.not_not.1 h
    simp[Cg,-Cda,-Cdb,Bbo,g0,g1,g5,g6,c,g,hi,w1,hf,eq_true h,De])
  xs.length 0 [(0, .d (De xs)),(1, .d (.str t)),(5, .slc (Bc H) 0 0 0),(6, .d (.int .i64 0))] (ap H [.row 0 2 []]) (by omega) ⟨[],by simp,rfl,rfl,rfl,rfl,rfl⟩).out
 simp[Cg,-Cda,-Cdb,f258,he,g5,Ji,De]
theorem Bps (xs:List Sc) (hx:xs.length≤9223372036854775807):Be (ev R) 62 [.d (De xs)]=some (.d (.bool (Dj xs))):=Bb fun H=>Bhi H xs hx
theorem Bxv (xs:List Pr) (hx:xs.length≤9223372036854775807):Be (ev R) 63 [.d (D7 xs)]=some (.d (.bool (Dm xs))):=Bb fun H=>Bhj H xs hx
theorem Bji {α:Type} (p:α→Bool) (xs:List α): (xs.takeWhile p).length≤xs.length:=(List.takeWhile_prefix p).length_le
theorem R5 {α:Type} (p:α→Bool) (d:α): ∀ (xs:List α) (i:Nat),i≤(xs.takeWhile p).length→i<xs.length→p (xs.getD i d)=true→i+1≤(xs.takeWhile p).length
 | [],i,_,h,_=>by simp at h
 |x::xs,0,_,_,h=>by
  simp only[List.getD_cons_zero] at h
  simp[List.takeWhile,h]
 |x::xs,i+1,h1,h2,h=>by
  cases hp:p x with
  |false=>simp[List.takeWhile,hp] at h1
  |true=>
   simp only[List.takeWhile,hp,Cdc] at h1⊢
   have:=R5 p d xs i (by omega) (by simpa using h2) (by simpa using h)
   omega
theorem R6 {α:Type} (p:α→Bool) (d:α): ∀ (xs:List α) (i:Nat),i≤(xs.takeWhile p).length→i<xs.length→p (xs.getD i d)=false→i=(xs.takeWhile p).length
 | [],i,_,h,_=>by simp at h
 |x::xs,0,_,_,h=>by
  simp only[List.getD_cons_zero] at h
  simp[List.takeWhile,h]
 |x::xs,i+1,h1,h2,h=>by
  cases hp:p x with
  |false=>simp[List.takeWhile,hp] at h1
  |true=>
   simp only[List.takeWhile,hp,Cdc] at h1⊢
   have:=R6 p d xs i (by omega) (by simpa using h2) (by simpa using h)
   omega
def Yy (xs:List Pr) (t:Br):Nat:=(xs.takeWhile fun x=>Op.bytesLess x.1 t).length
def Qj (xs:List Pr) (t:Br):Bool:=decide (Yy xs t<xs.length) &&decide ((xs.getD (Yy xs t) ([],[])).1=t)
theorem Bsh (xs:List Pr) (t:Br):Yy xs t≤xs.length:=Bji _ _
theorem Bta (xs:List Pr) (t:Br) (hx:xs.length≤1000000):Be (ev R) 259 [.d (D7 xs), .d (.str t)]=some (.tup [.d (.int .i64 (Yy xs t)), .d (.bool (Qj xs t))]):=Bb fun H=>by
 refine Bh (fn:=f259) rfl rfl ?_
 obtain⟨o,e',X',he,rfl,rfl,g0,g1,g6⟩:=(C9 (F:=Bq (ev R) R.glob (Bc H) Bg Bbp) (lv:=[0,1,6]) xs.length
  (fun i e X=>X=H∧e.get 0= .d (D7 xs)∧e.get 1= .d (.str t)∧e.get 6= .d (.int .i64 i)∧i≤Yy xs t)
  (fun o e X=>o= .exit 0∧X=H∧e.get 0= .d (D7 xs)∧e.get 1= .d (.str t)∧e.get 6= .d (.int .i64 (Yy xs t)))
  (by
   rintro e X ⟨rfl,g0,g1,g6,hi⟩
   have hn:Yy xs t=xs.length:=Nat.le_antisymm (Bsh xs t) hi
   simp[Cg,-Cda,-Cdb,Bbp,g0,g1,g6,hn,D7])
  (by
   rintro i e X hi ⟨rfl,g0,g1,g6,hk⟩
   have c: (i:Int)< (xs.length:Int):=by omega
   have g:=Xz xs i hi
   have w1:IntKind.i64.wrap ((i:Int)+1)=((i+1:Nat):Int):=by rw[IntWalk.i64_in _ (by omega)];rfl
   cases h:Op.bytesLess (xs.getD i ([],[])).1 t with
   |true=>
    have hn:=R5 (fun x:Pr=>Op.bytesLess x.1 t) ([],[]) xs i hk hi h
    have hn':i+1≤Yy xs t:=hn
    simp[Cg,-Cda,-Cdb,Bbp,g0,g1,g6,c,hi,g,w1,h,hn',D7]
   |false=>
    have hn:i=Yy xs t:=R6 (fun x:Pr=>Op.bytesLess x.1 t) ([],[]) xs i hk hi h
    simp[Cg,-Cda,-Cdb,Bbp,g0,g1,g6,c,hi,g,w1,h,←hn,D7])
  xs.length 0 [(0, .d (D7 xs)),(1, .d (.str t)),(6, .d (.int .i64 0))] H (by omega) ⟨rfl,rfl,rfl,rfl,Nat.zero_le _⟩).out
 by_cases hl:Yy xs t<xs.length
 ·have c: (Yy xs t:Int)< (xs.length:Int):=by omega
  have g:=Xz xs (Yy xs t) hl
  simp[Cg,-Cda,-Cdb,f259,he,g0,g1,g6,hl,c,g,Qj,D7]
 ·have c: ¬ (Yy xs t:Int)< (xs.length:Int):=by omega
  simp[Cg,-Cda,-Cdb,f259,he,g0,g1,g6,hl,c,Qj,D7]
def Jt (es:List En) (t:Br):Nat:=(es.takeWhile fun e=>Op.bytesLess e.key t).length
def G6 (es:List En) (t:Br):Bool:=decide (Jt es t<es.length) &&decide ((es.getD (Jt es t) default).key=t)
theorem Bsw (es:List En) (t:Br):Jt es t≤es.length:=Bji _ _
theorem Bpn (b:Ba) (t:Br) (hx:b.ents.length≤1000000):Be (ev R) 26 [.d (Df b), .d (.str t)]=some (.tup [.d (.int .i64 (Jt b.ents t)), .d (.bool (G6 b.ents t))]):=Bb fun H=>by
 refine Bh (fn:=f26) rfl rfl ?_
 obtain⟨o,e',X',he,rfl,rfl,g2,g1,g6⟩:=(C9 (F:=Bq (ev R) R.glob (Bc H) Bg Bho) (lv:=[1,2,6]) b.ents.length
  (fun i e X=>X=ap H [.row 0 2 [.d (Df b)]]∧e.get 2= .ptr (Bc H) 0 0 0∧e.get 1= .d (.str t)∧e.get 6= .d (.int .i64 i)∧i≤Jt b.ents t)
  (fun o e X=>o= .exit 0∧X=ap H [.row 0 2 [.d (Df b)]]∧e.get 2= .ptr (Bc H) 0 0 0∧e.get 1= .d (.str t)∧e.get 6= .d (.int .i64 (Jt b.ents t)))
  (by
   rintro e X ⟨rfl,g2,g1,g6,hi⟩
   have hn:Jt b.ents t=b.ents.length:=Nat.le_antisymm (Bsw b.ents t) hi
   simp[Cg,-Cda,-Cdb,Bho,g2,g1,g6,hn])
  (by
   rintro i e X hi ⟨rfl,g2,g1,g6,hk⟩
   have c: (i:Int)< (b.ents.length:Int):=by omega
   have g:=Gt b.ents i hi
   have w1:IntKind.i64.wrap ((i:Int)+1)=((i+1:Nat):Int):=by rw[IntWalk.i64_in _ (by omega)];rfl
   cases h:Op.bytesLess (b.ents.getD i default).key t with
   |true=>
    have hn:=R5 (fun e:En=>Op.bytesLess e.key t) default b.ents i hk hi h
    have hn':i+1≤Jt b.ents t:=hn
    simp[Cg,-Cda,-Cdb,Bho,g2,g1,g6,c,hi,g,w1,h,hn']
   |false=>
    have hn:i=Jt b.ents t:=R6 (fun e:En=>Op.bytesLess e.key t) default b.ents i hk hi h
    simp[Cg,-Cda,-Cdb,Bho,g2,g1,g6,c,hi,g,w1,h,←hn])
  b.ents.length 0 [(1, .d (.str t)),(2, .ptr (Bc H) 0 0 0),(6, .d (.int .i64 0))] (ap H [.row 0 2 [.d (Df b)]]) (by omega) ⟨rfl,rfl,rfl,rfl,Nat.zero_le _⟩).out
 by_cases hl:Jt b.ents t<b.ents.length
 ·have c: (Jt b.ents t:Int)< (b.ents.length:Int):=by omega
  have g:=Gt b.ents (Jt b.ents t) hl
  simp[Cg,-Cda,-Cdb,f26,he,g2,g1,g6,hl,c,g,G6]
 ·have c: ¬ (Jt b.ents t:Int)< (b.ents.length:Int):=by omega
  simp[Cg,-Cda,-Cdb,f26,he,g2,g1,g6,hl,c,G6]
def Jr {α:Type} (xs:List α) (k:Nat) (x:α):List α:=xs.take k++(x::xs.drop k)
theorem Ke {α:Type} (xs:List α) (k:Nat) (x:α): (Jr xs k x).length=xs.length+1:=by
 simp only[Jr,Cdi,Cdn,Cdc,List.length_drop];omega
theorem Xp {α:Type} (f:α→D) (xs:List α) (k:Nat) (x:α):List.take k (List.map V.d (List.map f xs))++V.d (f x)::List.drop k (List.map V.d (List.map f xs))=List.map V.d (List.map f (Jr xs k x)):=by
 simp only[Jr,List.map_append,List.map_cons,List.map_take,List.map_drop]
theorem Xq {α:Type} (f:α→D) (xs:List α) (k:Nat) (x:α) (h:k≤xs.length):List.take (k+1+(xs.length - k)) (List.map V.d (List.map f (Jr xs k x)))=List.map V.d (List.map f (Jr xs k x)):=by
 refine Cdg ?_
 simp only[Cdo,Ke];omega
theorem Bfy {α:Type} (xs:List α) (k:Nat) (x:α) (h:k≤xs.length): (k+1+(xs.length - k)≤(Jr xs k x).length)=True:=eq_true (by rw[Ke];omega)
def Z9 (xs:List Br) (t:Br):Nat:=(xs.takeWhile fun x=>Op.bytesLess x t).length
def Byl (xs:List Br) (t:Br):Bool:=decide (Z9 xs t<xs.length) &&decide (xs.getD (Z9 xs t) []=t)
theorem Buj (xs:List Br) (t:Br):Z9 xs t≤xs.length:=Bji _ _
def Bdo (xs:List Br) (t:Br):List Br:=if Byl xs t=true then xs else Jr xs (Z9 xs t) t
theorem Bz8 (xs:List Br) (t:Br) (hx:xs.length≤1000000):Be (ev R) 257 [.d (Bf xs), .d (.str t)]=some (.d (Bf (Bdo xs t))):=Bb fun H=>by
 refine Bh (fn:=f257) rfl rfl ?_
 obtain⟨o,e',X',he,rfl,rfl,g0,g1,g5⟩:=(C9 (F:=Bq (ev R) R.glob (Bc H) Bg Bbn) (lv:=[0,1,5]) xs.length
  (fun i e X=>X=H∧e.get 0= .d (Bf xs)∧e.get 1= .d (.str t)∧e.get 5= .d (.int .i64 i)∧i≤Z9 xs t)
  (fun o e X=>o= .exit 0∧X=H∧e.get 0= .d (Bf xs)∧e.get 1= .d (.str t)∧e.get 5= .d (.int .i64 (Z9 xs t)))
  (by
   rintro e X ⟨rfl,g0,g1,g5,hi⟩
   have hn:Z9 xs t=xs.length:=Nat.le_antisymm (Buj xs t) hi
   simp[Cg,-Cda,-Cdb,Bbn,g0,g1,g5,hn,Bf])
  (by
   rintro i e X hi ⟨rfl,g0,g1,g5,hk⟩
   have c: (i:Int)< (xs.length:Int):=by omega
   have g:=Dk xs i hi
   have w1:IntKind.i64.wrap ((i:Int)+1)=((i+1:Nat):Int):=by rw[IntWalk.i64_in _ (by omega)];rfl
   cases h:Op.bytesLess (xs.getD i []) t with
   |true=>
    have hn:=R5 (fun x:Br=>Op.bytesLess x t) [] xs i hk hi h
    have hn':i+1≤Z9 xs t:=hn
    simp[Cg,-Cda,-Cdb,Bbn,g0,g1,g5,c,hi,g,w1,h,hn',Bf]
   |false=>
    have hn:i=Z9 xs t:=R6 (fun x:Br=>Op.bytesLess x t) [] xs i hk hi h
    simp[Cg,-Cda,-Cdb,Bbn,g0,g1,g5,c,hi,g,w1,h,←hn,Bf])
  xs.length 0 [(0, .d (Bf xs)),(1, .d (.str t)),(5, .d (.int .i64 0))] H (by omega) ⟨rfl,rfl,rfl,rfl,Nat.zero_le _⟩).out
 have hk:=Buj xs t
 have hk': (Z9 xs t:Int)≤(xs.length:Int):=by omega
 have hk0: (0:Int)≤(Z9 xs t:Int):=by omega
 have r1:Z9 xs t*16≤Ct:=by unfold Ct;omega
 have r2: (Z9 xs t+1)*16≤Ct:=by unfold Ct;omega
 have r3: (Z9 xs t+1+(xs.length - Z9 xs t))*16≤Ct:=by unfold Ct;omega
 have mn:min (Z9 xs t) xs.length=Z9 xs t:=by omega
 have f1:=Xp D.str xs (Z9 xs t) t
 have f2:=Xq D.str xs (Z9 xs t) t hk
 have f3:=Bfy xs (Z9 xs t) t hk
 unfold Bdo
 cases h:Byl xs t with
 |true=>
  unfold Byl at h
  rw[Cdv,decide_eq_true_eq,decide_eq_true_eq] at h
  obtain⟨hl,h2⟩:=h
  have c: (Z9 xs t:Int)< (xs.length:Int):=by omega
  have g:=Dk xs (Z9 xs t) hl
  simp[Cg,-Cda,-Cdb,f257,he,g0,g1,g5,hl,c,g,eq_true h2,Bf]
 |false=>
  unfold Byl at h
  by_cases hl:Z9 xs t<xs.length
  ·rw[decide_eq_true hl,Bool.true_and,decide_eq_false_iff_not] at h
   have c: (Z9 xs t:Int)< (xs.length:Int):=by omega
   have g:=Dk xs (Z9 xs t) hl
   simp[Cg,-Cda,-Cdb,f257,he,g0,g1,g5,hl,c,g,eq_false h,Bf,Db,hk,hk',hk0,r1,r2,r3,mn,f1,f2,f3]
  ·have c: ¬ (Z9 xs t:Int)< (xs.length:Int):=by omega
   simp[Cg,-Cda,-Cdb,f257,he,g0,g1,g5,hl,c,Bf,Db,hk,hk',hk0,r1,r2,r3,mn,f1,f2,f3]
def sAt (xs:List Sc) (x:Sc):Nat:=(xs.takeWhile fun y=>Lj y.1 x.1 y.2 x.2).length
theorem Bt5 (xs:List Sc) (x:Sc):sAt xs x≤xs.length:=Bji _ _
def Btm (xs:List Sc) (x:Sc):List Sc:=Jr (Ji xs x.1) (sAt (Ji xs x.1) x) x
theorem Biz (xs:List Sc) (t:Br): (Ji xs t).length≤xs.length:=List.length_filter_le _ _
theorem B6f (x y:Sc):Be (ev R) 159 [.d (Kh x), .d (Kh y)]=some (.d (.bool (Lj x.1 y.1 x.2 y.2))):=Bb fun H=>Br8 H x.1 y.1 x.2 y.2
def M5 (xs:List Sc) (x:Sc):List Sc×Bool×Bool:=if Dj xs=true then(if Dj (Btm xs x)=true then(Btm xs x,decide ((Ji xs x.1).length=xs.length),true) else(xs,false,false)) else([],false,false)
theorem Bzp (H:Hp) (xs:List Sc) (x:Sc) (hx:xs.length≤1000000):ev R 221 [.d (De xs), .d (Kh x)] H=some (.tup [.slc (Bc H) 0 0 (M5 xs x).1.length, .d (.bool (M5 xs x).2.1), .d (.bool (M5 xs x).2.2)],ap H [.row 0 2 (((M5 xs x).1.map Kh).map V.d)]):=by
 unfold M5
 refine Bh (fn:=f221) rfl rfl ?_
 have p1:=Bps xs (by omega)
 cases h1:Dj xs with
 |false=>
  rw[h1] at p1
  simp[Cg,-Cda,-Cdb,f221,p1,De,U7]
 |true=>
  rw[h1] at p1
  have hw:=Biz xs x.1
  have p2:=Bz9 xs x.1 hx
  have hr:Btm xs x=Jr (Ji xs x.1) (sAt (Ji xs x.1) x) x:=rfl
  generalize Ji xs x.1=ys at*
  obtain⟨o,e',X',he,rfl,rfl,g0,g3,g7,g8⟩:=(C9 (F:=Bq (ev R) R.glob (Bc H) Bg Bbl) (lv:=[0,3,7,8]) ys.length
   (fun i e X=>X=ap H [.row 0 2 [.d (Kh x)]]∧e.get 0= .d (De xs)∧e.get 3= .ptr (Bc H) 0 0 0∧e.get 7= .d (De ys)∧e.get 8= .d (.int .i64 i)∧i≤sAt ys x)
   (fun o e X=>o= .exit 0∧X=ap H [.row 0 2 [.d (Kh x)]]∧e.get 0= .d (De xs)∧e.get 3= .ptr (Bc H) 0 0 0∧e.get 7= .d (De ys)∧e.get 8= .d (.int .i64 (sAt ys x)))
   (by
    rintro e X ⟨rfl,g0,g3,g7,g8,hi⟩
    have hn:sAt ys x=ys.length:=Nat.le_antisymm (Bt5 ys x) hi
    simp[Cg,-Cda,-Cdb,Bbl,g0,g3,g7,g8,hn,De])
   (by
    rintro i e X hi ⟨rfl,g0,g3,g7,g8,hk⟩
    have c: (i:Int)< (ys.length:Int):=by omega
    have g:=M3 ys i hi
    have p3:=B6f (ys.getD i ([],0)) x
    have w1:IntKind.i64.wrap ((i:Int)+1)=((i+1:Nat):Int):=by rw[IntWalk.i64_in _ (by omega)];rfl
    cases h:Lj (ys.getD i ([],0)).1 x.1 (ys.getD i ([],0)).2 x.2 with
    |true=>
     rw[h] at p3
     have hn:=R5 (fun y:Sc=>Lj y.1 x.1 y.2 x.2) ([],0) ys i hk hi h
     have hn':i+1≤sAt ys x:=hn
     simp[Cg,-Cda,-Cdb,Bbl,g0,g3,g7,g8,c,hi,g,w1,p3,hn',De]
    |false=>
     rw[h] at p3
     have hn:i=sAt ys x:=R6 (fun y:Sc=>Lj y.1 x.1 y.2 x.2) ([],0) ys i hk hi h
     simp[Cg,-Cda,-Cdb,Bbl,g0,g3,g7,g8,c,hi,g,w1,p3,←hn,De])
   ys.length 0 [(0, .d (De xs)),(3, .ptr (Bc H) 0 0 0),(7, .d (De ys)),(8, .d (.int .i64 0))] (ap H [.row 0 2 [.d (Kh x)]]) (by omega) ⟨rfl,rfl,rfl,rfl,rfl,Nat.zero_le _⟩).out
  have hk:=Bt5 ys x
  rw[hr]
  generalize sAt ys x=k at*
  have hk': (k:Int)≤(ys.length:Int):=by omega
  have hk0: (0:Int)≤(k:Int):=by omega
  have r1:k*24≤Ct:=by unfold Ct;omega
  have r2: (k+1)*24≤Ct:=by unfold Ct;omega
  have r3: (k+1+(ys.length - k))*24≤Ct:=by unfold Ct;omega
  have r4:xs.length*24≤Ct:=by unfold Ct;omega
  have il:=Ke ys k x
  have fl:k+1+(ys.length - k)=ys.length+1:=by omega
  have mn:min k ys.length=k:=by omega
  have f1:=Xp Kh ys k x
  have f2:=Xq Kh ys k x hk
  have f3:=Bfy ys k x hk
  have p4:=Bps (Jr ys k x) (by rw[Ke];omega)
  have vw:Gr (List.map V.d (List.map Kh (Jr ys k x)))=some (List.map Kh (Jr ys k x)):=Wy _
  have f2':List.take (k+1+(ys.length - k)) (List.map Kh (Jr ys k x))=List.map Kh (Jr ys k x):=by
   refine Cdg ?_
   simp only[Cdo,Ke];omega
  rw[fl] at r3 f2 f2' f3
  cases h2:Dj (Jr ys k x) with
  |true=>
   rw[h2] at p4
   by_cases hl:ys.length=xs.length
   ·have hl': (ys.length:Int)=(xs.length:Int):=by omega
    simp[Cg,-Cda,-Cdb,f221,p1,p2,he,g0,g3,g7,g8,Db,hk,hk',hk0,r1,r2,r3,r4,mn,f1,f2,f2',f3,p4,eq_true hl,eq_true hl',De,il,fl,U7]
   ·have hl': ¬ (ys.length:Int)=(xs.length:Int):=by omega
    simp[Cg,-Cda,-Cdb,f221,p1,p2,he,g0,g3,g7,g8,Db,hk,hk',hk0,r1,r2,r3,r4,mn,f1,f2,f2',f3,p4,eq_false hl,eq_false hl',De,il,fl,U7]
  |false=>
   rw[h2] at p4
   simp[Cg,-Cda,-Cdb,f221,p1,p2,he,g0,g3,g7,g8,Db,hk,hk',hk0,r1,r2,r3,r4,mn,f1,f2,f2',f3,p4,De,il,fl,U7]
theorem Bz4 (xs:List Sc) (x:Sc) (hx:xs.length≤1000000):F9 (ev R) 221 [.d (De xs), .d (Kh x)]=some (.tup [.d (De (M5 xs x).1), .d (.bool (M5 xs x).2.1), .d (.bool (M5 xs x).2.2)]):=by
 refine Jh fun H=> ⟨_,_,Bzp H xs x hx, ?_,Ll H _⟩
 simp[Cg,-Cda,-Cdb]
theorem Bs8 (xs:List Sc) (x:Sc) (hx:xs.length≤1000000):Be (ev R) 221 [.d (De xs), .d (Kh x)]=none:=by
 cases h:Be (ev R) 221 [.d (De xs), .d (Kh x)] with
 |none=>rfl
 |some v=>
  have h1:=Dr h []
  rw[Bzp [] xs x hx] at h1
  simp[ap] at h1
def Ka {α:Type} (xs:List α) (k:Nat):List α:=xs.take k++xs.drop (k+1)
theorem Ua {α:Type} (xs:List α) (k:Nat) (h:k<xs.length): (Ka xs k).length=xs.length - 1:=by
 simp only[Ka,Cdi,Cdn,List.length_drop];omega
theorem Bhc {α:Type} (f:α→D) (xs:List α) (k:Nat):List.take k (List.map V.d (List.map f xs))++List.drop (k+1) (List.map V.d (List.map f xs))=List.map V.d (List.map f (Ka xs k)):=by
 simp only[Ka,List.map_append,List.map_take,List.map_drop]
theorem Bhd {α:Type} (f:α→D) (xs:List α) (k:Nat) (h:k<xs.length):List.take (k+(xs.length - (k+1))) (List.map V.d (List.map f (Ka xs k)))=List.map V.d (List.map f (Ka xs k)):=by
 refine Cdg ?_
 simp only[Cdo,Ua _ _ h];omega
theorem Br2 {α:Type} (xs:List α) (k:Nat) (h:k<xs.length): (k+(xs.length - (k+1))≤(Ka xs k).length)=True:=eq_true (by rw[Ua _ _ h];omega)
def Bes (xs:List Pr) (x:Pr):List Pr:=if Qj xs x.1=true then xs.set (Yy xs x.1) x else Jr xs (Yy xs x.1) x
theorem Bc2 {α:Type} (f:α→D) (xs:List α) (k:Nat) (x:α): (List.map V.d (List.map f xs)).set k (V.d (f x))=List.map V.d (List.map f (xs.set k x)):=by
 simp only[List.map_set]
theorem Bpz (xs:List Pr) (x:Pr): (Bes xs x).length≤xs.length+1:=by
 unfold Bes
 split
 ·rw[List.length_set];omega
 ·rw[Ke];omega
def M4 (xs:List Pr) (x:Pr):List Pr×Bool×Bool:=if Dm xs=true then(if Dm (Bes xs x)=true then(Bes xs x, !Qj xs x.1,true) else(xs,false,false)) else([],false,false)
theorem Bzq (H:Hp) (xs:List Pr) (x:Pr) (hx:xs.length≤1000000):ev R 227 [.d (D7 xs), .d (Kz x)] H=some (.tup [.slc (Bc H) 0 0 (M4 xs x).1.length, .d (.bool (M4 xs x).2.1), .d (.bool (M4 xs x).2.2)],ap H [.row 0 2 (((M4 xs x).1.map Kz).map V.d)]):=by
 unfold M4
 refine Bh (fn:=f227) rfl rfl ?_
 have p1:=Bxv xs (by omega)
 cases h1:Dm xs with
 |false=>
  rw[h1] at p1
  simp[Cg,-Cda,-Cdb,f227,p1,D7,U7]
 |true=>
  rw[h1] at p1
  have p2:=Bta xs x.1 hx
  have hk:=Bsh xs x.1
  have hx1:=Bpz xs x
  have p4:=Bxv (Bes xs x) (by omega)
  have hr:Bes xs x=if Qj xs x.1=true then xs.set (Yy xs x.1) x else Jr xs (Yy xs x.1) x:=rfl
  have hl:Qj xs x.1=true→Yy xs x.1<xs.length:=fun h=>by
   unfold Qj at h
   rw[Cdv,decide_eq_true_eq] at h
   exact h.1
  generalize Yy xs x.1=k at*
  have hk': (k:Int)≤(xs.length:Int):=by omega
  have hk0: (0:Int)≤(k:Int):=by omega
  have r1:k*32≤Ct:=by unfold Ct;omega
  have r2: (k+1)*32≤Ct:=by unfold Ct;omega
  have r3: (k+1+(xs.length - k))*32≤Ct:=by unfold Ct;omega
  have r4:xs.length*32≤Ct:=by unfold Ct;omega
  have mn:min k xs.length=k:=by omega
  cases h3:Qj xs x.1 with
  |true=>
   have hl:=hl h3
   have hl': (k:Int)< (xs.length:Int):=by omega
   rw[h3] at p2
   rw[h3,if_pos rfl] at hr
   have f1:=Bc2 Kz xs k x
   rw[hr] at p4⊢
   have f4:List.take xs.length (List.map V.d (List.map Kz (xs.set k x)))=List.map V.d (List.map Kz (xs.set k x)):=Cdg (by simp)
   have f5:List.take xs.length (List.map Kz (xs.set k x))=List.map Kz (xs.set k x):=Cdg (by simp)
   have f6: (xs.set k x).length=xs.length:=List.length_set
   generalize xs.set k x=zs at*
   cases h2:Dm zs with
   |true=>
    rw[h2] at p4
    simp[Cg,-Cda,-Cdb,f227,p1,p2,r4,hl,hl',hk0,f1,f4,f5,f6,p4,D7,U7]
   |false=>
    rw[h2] at p4
    simp[Cg,-Cda,-Cdb,f227,p1,p2,r4,hl,hl',hk0,f1,f4,f5,f6,p4,D7,U7]
  |false=>
   rw[h3] at p2
   rw[h3,if_neg (by simp)] at hr
   have il:=Ke xs k x
   have fl:k+1+(xs.length - k)=xs.length+1:=by omega
   rw[hr] at p4⊢
   have f1:=Xp Kz xs k x
   have f2:=Xq Kz xs k x hk
   have f3:=Bfy xs k x hk
   have f2':List.take (k+1+(xs.length - k)) (List.map Kz (Jr xs k x))=List.map Kz (Jr xs k x):=by
    refine Cdg ?_
    simp only[Cdo,Ke];omega
   rw[fl] at r3 f2 f2' f3
   cases h2:Dm (Jr xs k x) with
   |true=>
    rw[h2] at p4
    simp[Cg,-Cda,-Cdb,f227,p1,p2,Db,hk,hk',hk0,r1,r2,r3,r4,mn,f1,f2,f2',f3,p4,D7,il,fl,U7]
   |false=>
    rw[h2] at p4
    simp[Cg,-Cda,-Cdb,f227,p1,p2,Db,hk,hk',hk0,r1,r2,r3,r4,mn,f1,f2,f2',f3,p4,D7,il,fl,U7]
theorem Bz6 (xs:List Pr) (x:Pr) (hx:xs.length≤1000000):F9 (ev R) 227 [.d (D7 xs), .d (Kz x)]=some (.tup [.d (D7 (M4 xs x).1), .d (.bool (M4 xs x).2.1), .d (.bool (M4 xs x).2.2)]):=by
 refine Jh fun H=> ⟨_,_,Bzq H xs x hx, ?_,Ll H _⟩
 simp[Cg,-Cda,-Cdb]
theorem Bs9 (xs:List Pr) (x:Pr) (hx:xs.length≤1000000):Be (ev R) 227 [.d (D7 xs), .d (Kz x)]=none:=by
 cases h:Be (ev R) 227 [.d (D7 xs), .d (Kz x)] with
 |none=>rfl
 |some v=>
  have h1:=Dr h []
  rw[Bzq [] xs x hx] at h1
  simp[ap] at h1
theorem B6x (xs:List Pr) (t:Br) (hx:xs.length≤1000000):Be (ev R) 226 [.d (D7 xs), .d (.str t)]=
  some (if Dm xs=true then .tup [.d (D7 (if Qj xs t=true then Ka xs (Yy xs t) else xs)), .d (.bool (Qj xs t))] else .tup [.d (D7 []), .d (.bool false)]):=Bb fun H=>by
 refine Bh (fn:=f226) rfl rfl ?_
 have p1:=Bxv xs (by omega)
 cases h1:Dm xs with
 |false=>
  rw[h1] at p1
  simp[Cg,-Cda,-Cdb,f226,p1,D7]
 |true=>
  rw[h1] at p1
  have p2:=Bta xs t hx
  have hl:Qj xs t=true→Yy xs t<xs.length:=fun h=>by
   unfold Qj at h
   rw[Cdv,decide_eq_true_eq] at h
   exact h.1
  generalize Yy xs t=k at*
  have r4:xs.length*32≤Ct:=by unfold Ct;omega
  cases h3:Qj xs t with
  |false=>
   rw[h3] at p2
   simp[Cg,-Cda,-Cdb,f226,p1,p2,r4,D7]
  |true=>
   rw[h3] at p2
   have hl:=hl h3
   have hk:k≤xs.length:=by omega
   have hk': (k:Int)≤(xs.length:Int):=by omega
   have hk0: (0:Int)≤(k:Int):=by omega
   have w1:IntKind.i64.wrap ((k:Int)+1)=((k+1:Nat):Int):=by rw[IntWalk.i64_in _ (by omega)];rfl
   have hk1: (k:Int)+1≤(xs.length:Int):=by omega
   have hk4: ((k:Int)+1).toNat=k+1:=by omega
   have hk2:k+1≤xs.length:=by omega
   have hk3: (0:Int)≤(k:Int)+1:=by omega
   have r1:k*32≤Ct:=by unfold Ct;omega
   have r3: (k+(xs.length - (k+1)))*32≤Ct:=by unfold Ct;omega
   have mn:min k xs.length=k:=by omega
   have f1:=Bhc Kz xs k
   have f2:=Bhd Kz xs k hl
   have f3:=Br2 xs k hl
   simp[Cg,-Cda,-Cdb,f226,p1,p2,Db,hl,hk,hk',hk0,w1,hk1,hk2,hk3,hk4,r1,r3,mn,f1,f2,f3,D7]
theorem B6w (xs:List Pr) (t:Br) (hx:xs.length≤1000000):Be (ev R) 225 [.d (D7 xs), .d (.str t)]=
  some (if Dm xs=true∧Qj xs t=true then .tup [.d (.str (xs.getD (Yy xs t) ([],[])).2), .d (.bool true)] else .tup [.d (.str []), .d (.bool false)]):=Bb fun H=>by
 refine Bh (fn:=f225) rfl rfl ?_
 have p1:=Bxv xs (by omega)
 have p2:=Bta xs t hx
 cases h1:Dm xs with
 |false=>
  rw[h1] at p1
  simp[Cg,-Cda,-Cdb,f225,p1,p2,D7]
 |true=>
  rw[h1] at p1
  have hl:Qj xs t=true→Yy xs t<xs.length:=fun h=>by
   unfold Qj at h
   rw[Cdv,decide_eq_true_eq] at h
   exact h.1
  generalize Yy xs t=k at*
  cases h3:Qj xs t with
  |false=>
   rw[h3] at p2
   simp[Cg,-Cda,-Cdb,f225,p1,p2,D7]
  |true=>
   rw[h3] at p2
   have hl:=hl h3
   have hl': (k:Int)< (xs.length:Int):=by omega
   have hk0: (0:Int)≤(k:Int):=by omega
   have g:=Xz xs k hl
   simp[Cg,-Cda,-Cdb,f225,p1,p2,g,hl,hl',hk0,D7]
theorem B6t (xs:List Sc) (t:Br) (hx:xs.length≤1000000):Be (ev R) 219 [.d (De xs), .d (.str t)]=
  some (if Dj xs=true then .tup [.d (De (Ji xs t)), .d (.bool (decide ((Ji xs t).length<xs.length)))] else .tup [.d (De []), .d (.bool false)]):=Bb fun H=>by
 refine Bh (fn:=f219) rfl rfl ?_
 have p1:=Bps xs (by omega)
 have p2:=Bz9 xs t hx
 cases h1:Dj xs with
 |false=>
  rw[h1] at p1
  simp[Cg,-Cda,-Cdb,f219,p1,De]
 |true=>
  rw[h1] at p1
  generalize Ji xs t=ys at*
  simp[Cg,-Cda,-Cdb,f219,p1,p2,De]
def G8 (xs:List Sc) (t:Br):Int:=if Dj xs=true then(if(xs.takeWhile fun x=> !decide (x.1=t)).length<xs.length then((xs.takeWhile fun x=> !decide (x.1=t)).length:Int) else -1) else -1
theorem Bnq (xs:List Sc) (t:Br) (hx:xs.length≤1000000):Be (ev R) 220 [.d (De xs), .d (.str t)]=some (.d (.int .i64 (G8 xs t))):=Bb fun H=>by
 refine Bh (fn:=f220) rfl rfl ?_
 have p1:=Bps xs (by omega)
 have key:Gives (fun o e X=>X=H∧(o= .exit 0∧G8 xs t= -1∨o= .ret∧e.get 4= .d (.int .i64 (G8 xs t)))) (Bg (Bq (ev R) R.glob (Bc H) Bg U9) [0,1,5] ⟨[(0, .d (De xs)),(1, .d (.str t)),(5, .d (.int .i64 0))],H⟩):=by
  refine C9 (F:=Bq (ev R) R.glob (Bc H) Bg U9) (lv:=[0,1,5]) xs.length
   (fun i e X=>X=H∧e.get 0= .d (De xs)∧e.get 1= .d (.str t)∧e.get 5= .d (.int .i64 i)∧i≤(xs.takeWhile fun x=> !decide (x.1=t)).length) _ ?_ ?_ xs.length 0 _ _ (by omega) ⟨rfl,rfl,rfl,rfl,Nat.zero_le _⟩
  ·rintro e X ⟨rfl,g0,g1,g5,hi⟩
   have hn: ¬ (xs.takeWhile fun x=> !decide (x.1=t)).length<xs.length:=by omega
   have hr:G8 xs t= -1:=by unfold G8;rw[if_neg hn];split<;>rfl
   simp[Cg,-Cda,-Cdb,U9,g0,g1,g5,hr,De]
  ·rintro i e X hi ⟨rfl,g0,g1,g5,hk⟩
   have c: (i:Int)< (xs.length:Int):=by omega
   have g:=M3 xs i hi
   have w1:IntKind.i64.wrap ((i:Int)+1)=((i+1:Nat):Int):=by rw[IntWalk.i64_in _ (by omega)];rfl
   cases h1:Dj xs with
   |false=>
    rw[h1] at p1
    have hr:G8 xs t= -1:=by unfold G8;rw[h1];simp
    simp[Cg,-Cda,-Cdb,U9,g0,g1,g5,c,hi,p1,hr,De]
   |true=>
    rw[h1] at p1
    by_cases h: (xs.getD i ([],0)).1=t
    ·have hn:=R6 (fun x:Sc=> !decide (x.1=t)) ([],0) xs i hk hi (by simp only[decide_eq_true h,Bool.not_true])
     have hr:G8 xs t=(i:Int):=by unfold G8;rw[h1,if_pos rfl,←hn,if_pos hi]
     simp[Cg,-Cda,-Cdb,U9,g0,g1,g5,c,hi,g,p1,w1,eq_true h,hr,De]
    ·have hn:=R5 (fun x:Sc=> !decide (x.1=t)) ([],0) xs i hk hi (by simp only[decide_eq_false h,Bool.not_false])
     simp[Cg,-Cda,-Cdb,U9,g0,g1,g5,c,hi,g,p1,w1,eq_false h,hn,De]
 obtain⟨o,e',X',he,rfl,g⟩:=key.out
 rcases g with⟨rfl,g⟩ | ⟨rfl,g4⟩
 ·simp[Cg,-Cda,-Cdb,f220,he,g]
 ·simp[Cg,-Cda,-Cdb,f220,he,g4]
end Go.Proofs.YtpajcoanfkeibaaGreatDoor.Code

/- Lemmas (several texts in one). -/
import Derived.Test.YtpajcoanfkeibaaGreatDoorMDoSet6
import Derived.Test.YtpajcoanfkeibaaGreatDoorMDoSet11
import Derived.Test.YtpajcoanfkeibaaGreatDoorMDoSet12
import Derived.Test.YtpajcoanfkeibaaGreatDoorMDoSet13
import Derived.Test.YtpajcoanfkeibaaGreatDoorMDoSet15
set_option maxRecDepth 100000
set_option linter.unusedSimpArgs false
set_option linter.unusedVariables false
namespace Go.Proofs.YtpajcoanfkeibaaGreatDoor.Code
open Go Go.Ev Go.Proofs
def Bsy (xs ys:List Bq):List Bq:=xs.filter fun s=>decide (s∈ys)
theorem B56 (xs ys:List Bq) (hx:xs.length≤1000000) (hy:ys.length≤1000000):Bc (ev R) 216 [.d (Bf xs), .d (Bf ys)]=
  some (.d (Bf (if Gn xs=true∧Gn ys=true then Bsy xs ys else[]))):=Bb fun H=>by
 refine Bh (fn:=f216) rfl rfl ?_
 have p1:=Bia xs (by omega)
 have p3:=Bia ys (by omega)
 by_cases hs:Gn xs=true∧Gn ys=true
 ·rw[if_pos hs]
  obtain⟨h1,h2⟩:=hs
  rw[h1] at p1
  rw[h2] at p3
  obtain⟨o,e',X',he,rfl,rfl,g5⟩:=(Di (F:=Bp (ev R) R.glob (Be H) Bg Qq) (lv:=[0,1,5,6]) xs.length
   (fun i e X=> ∃zs,zs=(xs.take i).filter (fun s=>decide (s∈ys))∧X=ap H [.row zs.length 1 ((zs.map D.str).map V.d)]∧e.get 0= .d (Bf xs)∧e.get 1= .d (Bf ys)∧e.get 5= .slc (Be H) zs.length 0 zs.length∧e.get 6= .d (.int .i64 i))
   (fun o e X=>o= .exit 0∧X=ap H [.row (xs.filter (fun s=>decide (s∈ys))).length 1 (((xs.filter (fun s=>decide (s∈ys))).map D.str).map V.d)]∧e.get 5= .slc (Be H) (xs.filter (fun s=>decide (s∈ys))).length 0 (xs.filter (fun s=>decide (s∈ys))).length)
   (by
    rintro e X ⟨zs,rfl,rfl,g0,g1,g5,g6⟩
    rw[List.take_length] at*
    simp[Ch,-List.getD_eq_getElem?_getD,-List.map_map,Qq,g0,g1,g5,g6,p1,p3,Bf])
   (by
    rintro i e X hi ⟨zs,hz,rfl,g0,g1,g5,g6⟩
    have c: (i:Int)< (xs.length:Int):=by omega
    have g:=Dt xs i hi
    have w1:IntKind.i64.wrap ((i:Int)+1)=((i+1:Nat):Int):=by rw[IntWalk.i64_in _ (by omega)];rfl
    have hf:=P6 (fun s=>decide (s∈ys)) xs i [] hi
    have hl:=Ug (fun s=>decide (s∈ys)) xs i hi
    rw[←hz] at hf hl
    have p2:=Bh9 ys (xs.getD i []) (by omega)
    have r: (zs.length+1)*16≤Cq:=by unfold Cq;omega
    by_cases h:xs.getD i []∈ys
    ·simp only[decide_eq_true h,Bool.not_true,if_true] at hf
     rw[decide_eq_true h] at p2
     simp[Ch,-List.getD_eq_getElem?_getD,-List.map_map,Qq,g0,g1,g5,g6,p1,p3,c,g,hi,w1,hf,r,p2,p1,p3,Bf]
    ·simp only[decide_eq_false h,Bool.not_false,Bool.false_eq_true,if_false,List.append_nil] at hf
     rw[decide_eq_false h] at p2
     simp[Ch,-List.getD_eq_getElem?_getD,-List.map_map,Qq,g0,g1,g5,g6,p1,p3,c,g,hi,w1,hf,p2,p1,p3,Bf])
   xs.length 0 [(0, .d (Bf xs)),(1, .d (Bf ys)),(5, .slc (Be H) 0 0 0),(6, .d (.int .i64 0))] (ap H [.row 0 1 []]) (by omega) ⟨[],by simp,rfl,rfl,rfl,rfl,rfl⟩).out
  simp[Ch,-List.getD_eq_getElem?_getD,-List.map_map,f216,p1,p3,he,g5,Bsy,Bf]
 ·rw[if_neg hs]
  have hb: (Gn xs&&Gn ys)=false:=by
   cases a:Gn xs<;>cases b:Gn ys<;>simp_all
  obtain⟨o,e',X',he,rfl,rfl,g5⟩: ∃o e' X',Bg (Bp (ev R) R.glob (Be H) Bg Qq) [0,1,5,6] ⟨[(0, .d (Bf xs)),(1, .d (Bf ys)),(5, .slc (Be H) 0 0 0),(6, .d (.int .i64 0))],ap H [.row 0 1 []]⟩=some (o,⟨e',X'⟩)∧o= .exit 0∧X'=ap H [.row 0 1 []]∧e'.get 5= .slc (Be H) 0 0 0:=by
   have key: ∀e:Env,e.get 0= .d (Bf xs)→e.get 1= .d (Bf ys)→e.get 5= .slc (Be H) 0 0 0→e.get 6= .d (.int .i64 0)→Gives (fun o e X=>o≠ .normal∧o= .exit 0∧X=ap H [.row 0 1 []]∧e.get 5= .slc (Be H) 0 0 0) (Bp (ev R) R.glob (Be H) Bg Qq ⟨e.keep [0,1,5,6],ap H [.row 0 1 []]⟩):=by
    intro e g0 g1 g5 g6
    by_cases hz:0<xs.length
    ·have c: (0:Int)< (xs.length:Int):=by omega
     cases a:Gn xs with
     |true=>
      rw[a,Bool.true_and] at hb
      rw[a] at p1;rw[hb] at p3
      simp[Ch,-List.getD_eq_getElem?_getD,-List.map_map,Qq,g0,g1,g5,g6,c,hz,p1,p3,Bf]
     |false=>
      rw[a] at p1
      simp[Ch,-List.getD_eq_getElem?_getD,-List.map_map,Qq,g0,g1,g5,g6,c,hz,p1,Bf]
    ·have c: ¬ (0:Int)< (xs.length:Int):=by omega
     simp[Ch,-List.getD_eq_getElem?_getD,-List.map_map,Qq,g0,g1,g5,g6,c,hz,Bf]
   obtain⟨o,e',X',h1,h2,h3⟩:=(key [(0, .d (Bf xs)),(1, .d (Bf ys)),(5, .slc (Be H) 0 0 0),(6, .d (.int .i64 0))] rfl rfl rfl rfl).out
   exact⟨o,e',X',Gm h1 h2,h3⟩
  simp[Ch,-List.getD_eq_getElem?_getD,-List.map_map,f216,he,g5,Bf]
theorem B58 (xs ys:List Bq) (hx:xs.length≤1000000) (hy:ys.length≤1000000):Bc (ev R) 218 [.d (Bf xs), .d (Bf ys)]=
  some (.d (Bf (if Gn xs=true∧Gn ys=true then Nb xs ys else[]))):=Bb fun H=>by
 refine Bh (fn:=f218) rfl rfl ?_
 have p1:=Bia xs (by omega)
 have p3:=Bia ys (by omega)
 by_cases hs:Gn xs=true∧Gn ys=true
 ·rw[if_pos hs]
  obtain⟨h1,h2⟩:=hs
  rw[h1] at p1
  rw[h2] at p3
  obtain⟨o,e',X',he,rfl,rfl,g5⟩:=(Di (F:=Bp (ev R) R.glob (Be H) Bg Qr) (lv:=[0,1,5,6]) xs.length
   (fun i e X=> ∃zs,zs=(xs.take i).filter (fun s=> !decide (s∈ys))∧X=ap H [.row zs.length 1 ((zs.map D.str).map V.d)]∧e.get 0= .d (Bf xs)∧e.get 1= .d (Bf ys)∧e.get 5= .slc (Be H) zs.length 0 zs.length∧e.get 6= .d (.int .i64 i))
   (fun o e X=>o= .exit 0∧X=ap H [.row (xs.filter (fun s=> !decide (s∈ys))).length 1 (((xs.filter (fun s=> !decide (s∈ys))).map D.str).map V.d)]∧e.get 5= .slc (Be H) (xs.filter (fun s=> !decide (s∈ys))).length 0 (xs.filter (fun s=> !decide (s∈ys))).length)
   (by
    rintro e X ⟨zs,rfl,rfl,g0,g1,g5,g6⟩
    rw[List.take_length] at*
    simp[Ch,-List.getD_eq_getElem?_getD,-List.map_map,Qr,g0,g1,g5,g6,p1,p3,Bf])
   (by
    rintro i e X hi ⟨zs,hz,rfl,g0,g1,g5,g6⟩
    have c: (i:Int)< (xs.length:Int):=by omega
    have g:=Dt xs i hi
    have w1:IntKind.i64.wrap ((i:Int)+1)=((i+1:Nat):Int):=by rw[IntWalk.i64_in _ (by omega)];rfl
    have hf:=P6 (fun s=> !decide (s∈ys)) xs i [] hi
    have hl:=Ug (fun s=> !decide (s∈ys)) xs i hi
    rw[←hz] at hf hl
    have p2:=Bh9 ys (xs.getD i []) (by omega)
    have r: (zs.length+1)*16≤Cq:=by unfold Cq;omega
    by_cases h: ¬xs.getD i []∈ys
    ·simp only[decide_eq_false h,Bool.not_false,if_true] at hf
     rw[decide_eq_false h] at p2
     simp[Ch,-List.getD_eq_getElem?_getD,-List.map_map,Qr,g0,g1,g5,g6,p1,p3,c,g,hi,w1,hf,r,p2,p1,p3,Bf]
    ·simp only[decide_eq_true (Classical.not_not.1 h),Bool.not_true,Bool.false_eq_true,if_false,List.append_nil] at hf
     rw[decide_eq_true (Classical.not_not.1 h)] at p2
     simp[Ch,-List.getD_eq_getElem?_getD,-List.map_map,Qr,g0,g1,g5,g6,p1,p3,c,g,hi,w1,hf,p2,p1,p3,Bf])
   xs.length 0 [(0, .d (Bf xs)),(1, .d (Bf ys)),(5, .slc (Be H) 0 0 0),(6, .d (.int .i64 0))] (ap H [.row 0 1 []]) (by omega) ⟨[],by simp,rfl,rfl,rfl,rfl,rfl⟩).out
  simp[Ch,-List.getD_eq_getElem?_getD,-List.map_map,f218,p1,p3,he,g5,Nb,Bf]
 ·rw[if_neg hs]
  have hb: (Gn xs&&Gn ys)=false:=by
   cases a:Gn xs<;>cases b:Gn ys<;>simp_all
  obtain⟨o,e',X',he,rfl,rfl,g5⟩: ∃o e' X',Bg (Bp (ev R) R.glob (Be H) Bg Qr) [0,1,5,6] ⟨[(0, .d (Bf xs)),(1, .d (Bf ys)),(5, .slc (Be H) 0 0 0),(6, .d (.int .i64 0))],ap H [.row 0 1 []]⟩=some (o,⟨e',X'⟩)∧o= .exit 0∧X'=ap H [.row 0 1 []]∧e'.get 5= .slc (Be H) 0 0 0:=by
   have key: ∀e:Env,e.get 0= .d (Bf xs)→e.get 1= .d (Bf ys)→e.get 5= .slc (Be H) 0 0 0→e.get 6= .d (.int .i64 0)→Gives (fun o e X=>o≠ .normal∧o= .exit 0∧X=ap H [.row 0 1 []]∧e.get 5= .slc (Be H) 0 0 0) (Bp (ev R) R.glob (Be H) Bg Qr ⟨e.keep [0,1,5,6],ap H [.row 0 1 []]⟩):=by
    intro e g0 g1 g5 g6
    by_cases hz:0<xs.length
    ·have c: (0:Int)< (xs.length:Int):=by omega
     cases a:Gn xs with
     |true=>
      rw[a,Bool.true_and] at hb
      rw[a] at p1;rw[hb] at p3
      simp[Ch,-List.getD_eq_getElem?_getD,-List.map_map,Qr,g0,g1,g5,g6,c,hz,p1,p3,Bf]
     |false=>
      rw[a] at p1
      simp[Ch,-List.getD_eq_getElem?_getD,-List.map_map,Qr,g0,g1,g5,g6,c,hz,p1,Bf]
    ·have c: ¬ (0:Int)< (xs.length:Int):=by omega
     simp[Ch,-List.getD_eq_getElem?_getD,-List.map_map,Qr,g0,g1,g5,g6,c,hz,Bf]
   obtain⟨o,e',X',h1,h2,h3⟩:=(key [(0, .d (Bf xs)),(1, .d (Bf ys)),(5, .slc (Be H) 0 0 0),(6, .d (.int .i64 0))] rfl rfl rfl rfl).out
   exact⟨o,e',X',Gm h1 h2,h3⟩
  simp[Ch,-List.getD_eq_getElem?_getD,-List.map_map,f218,he,g5,Bf]
def Ju (xs:List Sc) (t:Bq):List Sc:=xs.filter fun x=> !decide (x.1=t)
theorem Bzk (xs:List Sc) (t:Bq) (hx:xs.length≤1000000):Bc (ev R) 258 [.d (Dj xs), .d (.str t)]=some (.d (Dj (Ju xs t))):=Bb fun H=>by
 refine Bh (fn:=f258) rfl rfl ?_
 obtain⟨o,e',X',he,rfl,rfl,g5⟩:=(Di (F:=Bp (ev R) R.glob (Be H) Bg Bbj) (lv:=[0,1,5,6]) xs.length
  (fun i e X=> ∃zs,zs=(xs.take i).filter (fun x=> !decide (x.1=t))∧X=ap H [.row zs.length 2 ((zs.map Ku).map V.d)]∧e.get 0= .d (Dj xs)∧e.get 1= .d (.str t)∧e.get 5= .slc (Be H) zs.length 0 zs.length∧e.get 6= .d (.int .i64 i))
  (fun o e X=>o= .exit 0∧X=ap H [.row (xs.filter (fun x=> !decide (x.1=t))).length 2 (((xs.filter (fun x=> !decide (x.1=t))).map Ku).map V.d)]∧e.get 5= .slc (Be H) (xs.filter (fun x=> !decide (x.1=t))).length 0 (xs.filter (fun x=> !decide (x.1=t))).length)
  (by
   rintro e X ⟨zs,rfl,rfl,g0,g1,g5,g6⟩
   rw[List.take_length] at*
   simp[Ch,-List.getD_eq_getElem?_getD,-List.map_map,Bbj,g0,g1,g5,g6,Dj])
  (by
   rintro i e X hi ⟨zs,hz,rfl,g0,g1,g5,g6⟩
   have c: (i:Int)< (xs.length:Int):=by omega
   have g:=Nf xs i hi
   have w1:IntKind.i64.wrap ((i:Int)+1)=((i+1:Nat):Int):=by rw[IntWalk.i64_in _ (by omega)];rfl
   have hf:=P6 (fun x=> !decide (x.1=t)) xs i ([],0) hi
   have hl:=Ug (fun x=> !decide (x.1=t)) xs i hi
   rw[←hz] at hf hl
   have r: (zs.length+1)*24≤Cq:=by unfold Cq;omega
   by_cases h: ¬ (xs.getD i ([],0)).1=t
   ·simp only[decide_eq_false h,Bool.not_false,if_true] at hf
    simp[Ch,-List.getD_eq_getElem?_getD,-List.map_map,Bbj,g0,g1,g5,g6,c,g,hi,w1,hf,r,eq_false h,Dj]
   ·simp only[decide_eq_true (Classical.not_not.1 h),Bool.not_true,Bool.false_eq_true,if_false,List.append_nil] at hf
    have h:=Classical.not_not.1 h
    simp[Ch,-List.getD_eq_getElem?_getD,-List.map_map,Bbj,g0,g1,g5,g6,c,g,hi,w1,hf,eq_true h,Dj])
  xs.length 0 [(0, .d (Dj xs)),(1, .d (.str t)),(5, .slc (Be H) 0 0 0),(6, .d (.int .i64 0))] (ap H [.row 0 2 []]) (by omega) ⟨[],by simp,rfl,rfl,rfl,rfl,rfl⟩).out
 simp[Ch,-List.getD_eq_getElem?_getD,-List.map_map,f258,he,g5,Ju,Dj]
theorem Bpi (xs:List Sc) (hx:xs.length≤9223372036854775807):Bc (ev R) 62 [.d (Dj xs)]=some (.d (.bool (Dr xs))):=Bb fun H=>Bg5 H xs hx
theorem Bw9 (xs:List Pr) (hx:xs.length≤9223372036854775807):Bc (ev R) 63 [.d (Fw xs)]=some (.d (.bool (Du xs))):=Bb fun H=>Bg6 H xs hx
theorem Bi7 {α:Type} (p:α→Bool) (xs:List α): (xs.takeWhile p).length≤xs.length:=(List.takeWhile_prefix p).length_le
theorem Sa {α:Type} (p:α→Bool) (d:α): ∀ (xs:List α) (i:Nat),i≤(xs.takeWhile p).length→i<xs.length→p (xs.getD i d)=true→i+1≤(xs.takeWhile p).length
 | [],i,_,h,_=>by simp at h
 |x::xs,0,_,_,h=>by
  simp only[List.getD_cons_zero] at h
  simp[List.takeWhile,h]
 |x::xs,i+1,h1,h2,h=>by
  cases hp:p x with
  |false=>simp[List.takeWhile,hp] at h1
  |true=>
   simp only[List.takeWhile,hp,List.length_cons] at h1⊢
   have:=Sa p d xs i (by omega) (by simpa using h2) (by simpa using h)
   omega
theorem Sb {α:Type} (p:α→Bool) (d:α): ∀ (xs:List α) (i:Nat),i≤(xs.takeWhile p).length→i<xs.length→p (xs.getD i d)=false→i=(xs.takeWhile p).length
 | [],i,_,h,_=>by simp at h
 |x::xs,0,_,_,h=>by
  simp only[List.getD_cons_zero] at h
  simp[List.takeWhile,h]
 |x::xs,i+1,h1,h2,h=>by
  cases hp:p x with
  |false=>simp[List.takeWhile,hp] at h1
  |true=>
   simp only[List.takeWhile,hp,List.length_cons] at h1⊢
   have:=Sb p d xs i (by omega) (by simpa using h2) (by simpa using h)
   omega
def Yx (xs:List Pr) (t:Bq):Nat:=(xs.takeWhile fun x=>Op.bytesLess x.1 t).length
def Qu (xs:List Pr) (t:Bq):Bool:=decide (Yx xs t<xs.length) &&decide ((xs.getD (Yx xs t) ([],[])).1=t)
theorem Br4 (xs:List Pr) (t:Bq):Yx xs t≤xs.length:=Bi7 _ _
theorem Bst (xs:List Pr) (t:Bq) (hx:xs.length≤1000000):Bc (ev R) 259 [.d (Fw xs), .d (.str t)]=some (.tup [.d (.int .i64 (Yx xs t)), .d (.bool (Qu xs t))]):=Bb fun H=>by
 refine Bh (fn:=f259) rfl rfl ?_
 obtain⟨o,e',X',he,rfl,rfl,g0,g1,g6⟩:=(Di (F:=Bp (ev R) R.glob (Be H) Bg Bbk) (lv:=[0,1,6]) xs.length
  (fun i e X=>X=H∧e.get 0= .d (Fw xs)∧e.get 1= .d (.str t)∧e.get 6= .d (.int .i64 i)∧i≤Yx xs t)
  (fun o e X=>o= .exit 0∧X=H∧e.get 0= .d (Fw xs)∧e.get 1= .d (.str t)∧e.get 6= .d (.int .i64 (Yx xs t)))
  (by
   rintro e X ⟨rfl,g0,g1,g6,hi⟩
   have hn:Yx xs t=xs.length:=Nat.le_antisymm (Br4 xs t) hi
   simp[Ch,-List.getD_eq_getElem?_getD,-List.map_map,Bbk,g0,g1,g6,hn,Fw])
  (by
   rintro i e X hi ⟨rfl,g0,g1,g6,hk⟩
   have c: (i:Int)< (xs.length:Int):=by omega
   have g:=Xx xs i hi
   have w1:IntKind.i64.wrap ((i:Int)+1)=((i+1:Nat):Int):=by rw[IntWalk.i64_in _ (by omega)];rfl
   cases h:Op.bytesLess (xs.getD i ([],[])).1 t with
   |true=>
    have hn:=Sa (fun x:Pr=>Op.bytesLess x.1 t) ([],[]) xs i hk hi h
    have hn':i+1≤Yx xs t:=hn
    simp[Ch,-List.getD_eq_getElem?_getD,-List.map_map,Bbk,g0,g1,g6,c,hi,g,w1,h,hn',Fw]
   |false=>
    have hn:i=Yx xs t:=Sb (fun x:Pr=>Op.bytesLess x.1 t) ([],[]) xs i hk hi h
    simp[Ch,-List.getD_eq_getElem?_getD,-List.map_map,Bbk,g0,g1,g6,c,hi,g,w1,h,←hn,Fw])
  xs.length 0 [(0, .d (Fw xs)),(1, .d (.str t)),(6, .d (.int .i64 0))] H (by omega) ⟨rfl,rfl,rfl,rfl,Nat.zero_le _⟩).out
 by_cases hl:Yx xs t<xs.length
 ·have c: (Yx xs t:Int)< (xs.length:Int):=by omega
  have g:=Xx xs (Yx xs t) hl
  simp[Ch,-List.getD_eq_getElem?_getD,-List.map_map,f259,he,g0,g1,g6,hl,c,g,Qu,Fw]
 ·have c: ¬ (Yx xs t:Int)< (xs.length:Int):=by omega
  simp[Ch,-List.getD_eq_getElem?_getD,-List.map_map,f259,he,g0,g1,g6,hl,c,Qu,Fw]
def Ga (es:List En) (t:Bq):Nat:=(es.takeWhile fun e=>Op.bytesLess e.key t).length
def Fh (es:List En) (t:Bq):Bool:=decide (Ga es t<es.length) &&decide ((es.getD (Ga es t) default).key=t)
theorem Bkn (es:List En) (t:Bq):Ga es t≤es.length:=Bi7 _ _
theorem Bpc (b:Ba) (t:Bq) (hx:b.ents.length≤1000000):Bc (ev R) 26 [.d (Db b), .d (.str t)]=some (.tup [.d (.int .i64 (Ga b.ents t)), .d (.bool (Fh b.ents t))]):=Bb fun H=>by
 refine Bh (fn:=f26) rfl rfl ?_
 obtain⟨o,e',X',he,rfl,rfl,g2,g1,g6⟩:=(Di (F:=Bp (ev R) R.glob (Be H) Bg Bhb) (lv:=[1,2,6]) b.ents.length
  (fun i e X=>X=ap H [.row 0 2 [.d (Db b)]]∧e.get 2= .ptr (Be H) 0 0 0∧e.get 1= .d (.str t)∧e.get 6= .d (.int .i64 i)∧i≤Ga b.ents t)
  (fun o e X=>o= .exit 0∧X=ap H [.row 0 2 [.d (Db b)]]∧e.get 2= .ptr (Be H) 0 0 0∧e.get 1= .d (.str t)∧e.get 6= .d (.int .i64 (Ga b.ents t)))
  (by
   rintro e X ⟨rfl,g2,g1,g6,hi⟩
   have hn:Ga b.ents t=b.ents.length:=Nat.le_antisymm (Bkn b.ents t) hi
   simp[Ch,-List.getD_eq_getElem?_getD,-List.map_map,Bhb,g2,g1,g6,hn])
  (by
   rintro i e X hi ⟨rfl,g2,g1,g6,hk⟩
   have c: (i:Int)< (b.ents.length:Int):=by omega
   have g:=Gy b.ents i hi
   have w1:IntKind.i64.wrap ((i:Int)+1)=((i+1:Nat):Int):=by rw[IntWalk.i64_in _ (by omega)];rfl
   cases h:Op.bytesLess (b.ents.getD i default).key t with
   |true=>
    have hn:=Sa (fun e:En=>Op.bytesLess e.key t) default b.ents i hk hi h
    have hn':i+1≤Ga b.ents t:=hn
    simp[Ch,-List.getD_eq_getElem?_getD,-List.map_map,Bhb,g2,g1,g6,c,hi,g,w1,h,hn']
   |false=>
    have hn:i=Ga b.ents t:=Sb (fun e:En=>Op.bytesLess e.key t) default b.ents i hk hi h
    simp[Ch,-List.getD_eq_getElem?_getD,-List.map_map,Bhb,g2,g1,g6,c,hi,g,w1,h,←hn])
  b.ents.length 0 [(1, .d (.str t)),(2, .ptr (Be H) 0 0 0),(6, .d (.int .i64 0))] (ap H [.row 0 2 [.d (Db b)]]) (by omega) ⟨rfl,rfl,rfl,rfl,Nat.zero_le _⟩).out
 by_cases hl:Ga b.ents t<b.ents.length
 ·have c: (Ga b.ents t:Int)< (b.ents.length:Int):=by omega
  have g:=Gy b.ents (Ga b.ents t) hl
  simp[Ch,-List.getD_eq_getElem?_getD,-List.map_map,f26,he,g2,g1,g6,hl,c,g,Fh]
 ·have c: ¬ (Ga b.ents t:Int)< (b.ents.length:Int):=by omega
  simp[Ch,-List.getD_eq_getElem?_getD,-List.map_map,f26,he,g2,g1,g6,hl,c,Fh]
def Fa {α:Type} (xs:List α) (k:Nat) (x:α):List α:=xs.take k++(x::xs.drop k)
theorem Gt {α:Type} (xs:List α) (k:Nat) (x:α): (Fa xs k x).length=xs.length+1:=by
 simp only[Fa,List.length_append,List.length_take,List.length_cons,List.length_drop];omega
theorem Xp {α:Type} (f:α→D) (xs:List α) (k:Nat) (x:α):List.take k (List.map V.d (List.map f xs))++V.d (f x)::List.drop k (List.map V.d (List.map f xs))=List.map V.d (List.map f (Fa xs k x)):=by
 simp only[Fa,List.map_append,List.map_cons,List.map_take,List.map_drop]
theorem Xq {α:Type} (f:α→D) (xs:List α) (k:Nat) (x:α) (h:k≤xs.length):List.take (k+1+(xs.length - k)) (List.map V.d (List.map f (Fa xs k x)))=List.map V.d (List.map f (Fa xs k x)):=by
 refine List.take_of_length_le ?_
 simp only[List.length_map,Gt];omega
theorem Bfr {α:Type} (xs:List α) (k:Nat) (x:α) (h:k≤xs.length): (k+1+(xs.length - k)≤(Fa xs k x).length)=True:=eq_true (by rw[Gt];omega)
def Z6 (xs:List Bq) (t:Bq):Nat:=(xs.takeWhile fun x=>Op.bytesLess x t).length
def Bxy (xs:List Bq) (t:Bq):Bool:=decide (Z6 xs t<xs.length) &&decide (xs.getD (Z6 xs t) []=t)
theorem Btu (xs:List Bq) (t:Bq):Z6 xs t≤xs.length:=Bi7 _ _
def Bdh (xs:List Bq) (t:Bq):List Bq:=if Bxy xs t=true then xs else Fa xs (Z6 xs t) t
theorem Bzj (xs:List Bq) (t:Bq) (hx:xs.length≤1000000):Bc (ev R) 257 [.d (Bf xs), .d (.str t)]=some (.d (Bf (Bdh xs t))):=Bb fun H=>by
 refine Bh (fn:=f257) rfl rfl ?_
 obtain⟨o,e',X',he,rfl,rfl,g0,g1,g5⟩:=(Di (F:=Bp (ev R) R.glob (Be H) Bg Bbi) (lv:=[0,1,5]) xs.length
  (fun i e X=>X=H∧e.get 0= .d (Bf xs)∧e.get 1= .d (.str t)∧e.get 5= .d (.int .i64 i)∧i≤Z6 xs t)
  (fun o e X=>o= .exit 0∧X=H∧e.get 0= .d (Bf xs)∧e.get 1= .d (.str t)∧e.get 5= .d (.int .i64 (Z6 xs t)))
  (by
   rintro e X ⟨rfl,g0,g1,g5,hi⟩
   have hn:Z6 xs t=xs.length:=Nat.le_antisymm (Btu xs t) hi
   simp[Ch,-List.getD_eq_getElem?_getD,-List.map_map,Bbi,g0,g1,g5,hn,Bf])
  (by
   rintro i e X hi ⟨rfl,g0,g1,g5,hk⟩
   have c: (i:Int)< (xs.length:Int):=by omega
   have g:=Dt xs i hi
   have w1:IntKind.i64.wrap ((i:Int)+1)=((i+1:Nat):Int):=by rw[IntWalk.i64_in _ (by omega)];rfl
   cases h:Op.bytesLess (xs.getD i []) t with
   |true=>
    have hn:=Sa (fun x:Bq=>Op.bytesLess x t) [] xs i hk hi h
    have hn':i+1≤Z6 xs t:=hn
    simp[Ch,-List.getD_eq_getElem?_getD,-List.map_map,Bbi,g0,g1,g5,c,hi,g,w1,h,hn',Bf]
   |false=>
    have hn:i=Z6 xs t:=Sb (fun x:Bq=>Op.bytesLess x t) [] xs i hk hi h
    simp[Ch,-List.getD_eq_getElem?_getD,-List.map_map,Bbi,g0,g1,g5,c,hi,g,w1,h,←hn,Bf])
  xs.length 0 [(0, .d (Bf xs)),(1, .d (.str t)),(5, .d (.int .i64 0))] H (by omega) ⟨rfl,rfl,rfl,rfl,Nat.zero_le _⟩).out
 have hk:=Btu xs t
 have hk': (Z6 xs t:Int)≤(xs.length:Int):=by omega
 have hk0: (0:Int)≤(Z6 xs t:Int):=by omega
 have r1:Z6 xs t*16≤Cq:=by unfold Cq;omega
 have r2: (Z6 xs t+1)*16≤Cq:=by unfold Cq;omega
 have r3: (Z6 xs t+1+(xs.length - Z6 xs t))*16≤Cq:=by unfold Cq;omega
 have mn:min (Z6 xs t) xs.length=Z6 xs t:=by omega
 have f1:=Xp D.str xs (Z6 xs t) t
 have f2:=Xq D.str xs (Z6 xs t) t hk
 have f3:=Bfr xs (Z6 xs t) t hk
 unfold Bdh
 cases h:Bxy xs t with
 |true=>
  unfold Bxy at h
  rw[Bool.and_eq_true,decide_eq_true_eq,decide_eq_true_eq] at h
  obtain⟨hl,h2⟩:=h
  have c: (Z6 xs t:Int)< (xs.length:Int):=by omega
  have g:=Dt xs (Z6 xs t) hl
  simp[Ch,-List.getD_eq_getElem?_getD,-List.map_map,f257,he,g0,g1,g5,hl,c,g,eq_true h2,Bf]
 |false=>
  unfold Bxy at h
  by_cases hl:Z6 xs t<xs.length
  ·rw[decide_eq_true hl,Bool.true_and,decide_eq_false_iff_not] at h
   have c: (Z6 xs t:Int)< (xs.length:Int):=by omega
   have g:=Dt xs (Z6 xs t) hl
   simp[Ch,-List.getD_eq_getElem?_getD,-List.map_map,f257,he,g0,g1,g5,hl,c,g,eq_false h,Bf,De,hk,hk',hk0,r1,r2,r3,mn,f1,f2,f3]
  ·have c: ¬ (Z6 xs t:Int)< (xs.length:Int):=by omega
   simp[Ch,-List.getD_eq_getElem?_getD,-List.map_map,f257,he,g0,g1,g5,hl,c,Bf,De,hk,hk',hk0,r1,r2,r3,mn,f1,f2,f3]
def sAt (xs:List Sc) (x:Sc):Nat:=(xs.takeWhile fun y=>Lx y.1 x.1 y.2 x.2).length
theorem Bth (xs:List Sc) (x:Sc):sAt xs x≤xs.length:=Bi7 _ _
def Bs2 (xs:List Sc) (x:Sc):List Sc:=Fa (Ju xs x.1) (sAt (Ju xs x.1) x) x
theorem Bim (xs:List Sc) (t:Bq): (Ju xs t).length≤xs.length:=List.length_filter_le _ _
theorem B5u (x y:Sc):Bc (ev R) 159 [.d (Ku x), .d (Ku y)]=some (.d (.bool (Lx x.1 y.1 x.2 y.2))):=Bb fun H=>Brw H x.1 y.1 x.2 y.2
def Nh (xs:List Sc) (x:Sc):List Sc×Bool×Bool:=if Dr xs=true then(if Dr (Bs2 xs x)=true then(Bs2 xs x,decide ((Ju xs x.1).length=xs.length),true) else(xs,false,false)) else([],false,false)
theorem By0 (H:Hp) (xs:List Sc) (x:Sc) (hx:xs.length≤1000000):ev R 221 [.d (Dj xs), .d (Ku x)] H=some (.tup [.slc (Be H) 0 0 (Nh xs x).1.length, .d (.bool (Nh xs x).2.1), .d (.bool (Nh xs x).2.2)],ap H [.row 0 2 (((Nh xs x).1.map Ku).map V.d)]):=by
 unfold Nh
 refine Bh (fn:=f221) rfl rfl ?_
 have p1:=Bpi xs (by omega)
 cases h1:Dr xs with
 |false=>
  rw[h1] at p1
  simp[Ch,-List.getD_eq_getElem?_getD,-List.map_map,f221,p1,Dj,Ux]
 |true=>
  rw[h1] at p1
  have hw:=Bim xs x.1
  have p2:=Bzk xs x.1 hx
  have hr:Bs2 xs x=Fa (Ju xs x.1) (sAt (Ju xs x.1) x) x:=rfl
  generalize Ju xs x.1=ys at*
  obtain⟨o,e',X',he,rfl,rfl,g0,g3,g7,g8⟩:=(Di (F:=Bp (ev R) R.glob (Be H) Bg Bbg) (lv:=[0,3,7,8]) ys.length
   (fun i e X=>X=ap H [.row 0 2 [.d (Ku x)]]∧e.get 0= .d (Dj xs)∧e.get 3= .ptr (Be H) 0 0 0∧e.get 7= .d (Dj ys)∧e.get 8= .d (.int .i64 i)∧i≤sAt ys x)
   (fun o e X=>o= .exit 0∧X=ap H [.row 0 2 [.d (Ku x)]]∧e.get 0= .d (Dj xs)∧e.get 3= .ptr (Be H) 0 0 0∧e.get 7= .d (Dj ys)∧e.get 8= .d (.int .i64 (sAt ys x)))
   (by
    rintro e X ⟨rfl,g0,g3,g7,g8,hi⟩
    have hn:sAt ys x=ys.length:=Nat.le_antisymm (Bth ys x) hi
    simp[Ch,-List.getD_eq_getElem?_getD,-List.map_map,Bbg,g0,g3,g7,g8,hn,Dj])
   (by
    rintro i e X hi ⟨rfl,g0,g3,g7,g8,hk⟩
    have c: (i:Int)< (ys.length:Int):=by omega
    have g:=Nf ys i hi
    have p3:=B5u (ys.getD i ([],0)) x
    have w1:IntKind.i64.wrap ((i:Int)+1)=((i+1:Nat):Int):=by rw[IntWalk.i64_in _ (by omega)];rfl
    cases h:Lx (ys.getD i ([],0)).1 x.1 (ys.getD i ([],0)).2 x.2 with
    |true=>
     rw[h] at p3
     have hn:=Sa (fun y:Sc=>Lx y.1 x.1 y.2 x.2) ([],0) ys i hk hi h
     have hn':i+1≤sAt ys x:=hn
     simp[Ch,-List.getD_eq_getElem?_getD,-List.map_map,Bbg,g0,g3,g7,g8,c,hi,g,w1,p3,hn',Dj]
    |false=>
     rw[h] at p3
     have hn:i=sAt ys x:=Sb (fun y:Sc=>Lx y.1 x.1 y.2 x.2) ([],0) ys i hk hi h
     simp[Ch,-List.getD_eq_getElem?_getD,-List.map_map,Bbg,g0,g3,g7,g8,c,hi,g,w1,p3,←hn,Dj])
   ys.length 0 [(0, .d (Dj xs)),(3, .ptr (Be H) 0 0 0),(7, .d (Dj ys)),(8, .d (.int .i64 0))] (ap H [.row 0 2 [.d (Ku x)]]) (by omega) ⟨rfl,rfl,rfl,rfl,rfl,Nat.zero_le _⟩).out
  have hk:=Bth ys x
  rw[hr]
  generalize sAt ys x=k at*
  have hk': (k:Int)≤(ys.length:Int):=by omega
  have hk0: (0:Int)≤(k:Int):=by omega
  have r1:k*24≤Cq:=by unfold Cq;omega
  have r2: (k+1)*24≤Cq:=by unfold Cq;omega
  have r3: (k+1+(ys.length - k))*24≤Cq:=by unfold Cq;omega
  have r4:xs.length*24≤Cq:=by unfold Cq;omega
  have il:=Gt ys k x
  have fl:k+1+(ys.length - k)=ys.length+1:=by omega
  have mn:min k ys.length=k:=by omega
  have f1:=Xp Ku ys k x
  have f2:=Xq Ku ys k x hk
  have f3:=Bfr ys k x hk
  have p4:=Bpi (Fa ys k x) (by rw[Gt];omega)
  have vw:Gu (List.map V.d (List.map Ku (Fa ys k x)))=some (List.map Ku (Fa ys k x)):=Ud _
  have f2':List.take (k+1+(ys.length - k)) (List.map Ku (Fa ys k x))=List.map Ku (Fa ys k x):=by
   refine List.take_of_length_le ?_
   simp only[List.length_map,Gt];omega
  rw[fl] at r3 f2 f2' f3
  cases h2:Dr (Fa ys k x) with
  |true=>
   rw[h2] at p4
   by_cases hl:ys.length=xs.length
   ·have hl': (ys.length:Int)=(xs.length:Int):=by omega
    simp[Ch,-List.getD_eq_getElem?_getD,-List.map_map,f221,p1,p2,he,g0,g3,g7,g8,De,hk,hk',hk0,r1,r2,r3,r4,mn,f1,f2,f2',f3,p4,eq_true hl,eq_true hl',Dj,il,fl,Ux]
   ·have hl': ¬ (ys.length:Int)=(xs.length:Int):=by omega
    simp[Ch,-List.getD_eq_getElem?_getD,-List.map_map,f221,p1,p2,he,g0,g3,g7,g8,De,hk,hk',hk0,r1,r2,r3,r4,mn,f1,f2,f2',f3,p4,eq_false hl,eq_false hl',Dj,il,fl,Ux]
  |false=>
   rw[h2] at p4
   simp[Ch,-List.getD_eq_getElem?_getD,-List.map_map,f221,p1,p2,he,g0,g3,g7,g8,De,hk,hk',hk0,r1,r2,r3,r4,mn,f1,f2,f2',f3,p4,Dj,il,fl,Ux]
theorem Bzf (xs:List Sc) (x:Sc) (hx:xs.length≤1000000):Gl (ev R) 221 [.d (Dj xs), .d (Ku x)]=some (.tup [.d (Dj (Nh xs x).1), .d (.bool (Nh xs x).2.1), .d (.bool (Nh xs x).2.2)]):=by
 refine Jt fun H=> ⟨_,_,By0 H xs x hx, ?_,L6 H _⟩
 simp[Ch,-List.getD_eq_getElem?_getD,-List.map_map]
theorem Bsr (xs:List Sc) (x:Sc) (hx:xs.length≤1000000):Bc (ev R) 221 [.d (Dj xs), .d (Ku x)]=none:=by
 cases h:Bc (ev R) 221 [.d (Dj xs), .d (Ku x)] with
 |none=>rfl
 |some v=>
  have h1:=Dx h []
  rw[By0 [] xs x hx] at h1
  simp[ap] at h1
def Gx {α:Type} (xs:List α) (k:Nat):List α:=xs.take k++xs.drop (k+1)
theorem Ms {α:Type} (xs:List α) (k:Nat) (h:k<xs.length): (Gx xs k).length=xs.length - 1:=by
 simp only[Gx,List.length_append,List.length_take,List.length_drop];omega
theorem Xh {α:Type} (f:α→D) (xs:List α) (k:Nat):List.take k (List.map V.d (List.map f xs))++List.drop (k+1) (List.map V.d (List.map f xs))=List.map V.d (List.map f (Gx xs k)):=by
 simp only[Gx,List.map_append,List.map_take,List.map_drop]
theorem Bg1 {α:Type} (f:α→D) (xs:List α) (k:Nat) (h:k<xs.length):List.take (k+(xs.length - (k+1))) (List.map V.d (List.map f (Gx xs k)))=List.map V.d (List.map f (Gx xs k)):=by
 refine List.take_of_length_le ?_
 simp only[List.length_map,Ms _ _ h];omega
theorem Brr {α:Type} (xs:List α) (k:Nat) (h:k<xs.length): (k+(xs.length - (k+1))≤(Gx xs k).length)=True:=eq_true (by rw[Ms _ _ h];omega)
def Bek (xs:List Pr) (x:Pr):List Pr:=if Qu xs x.1=true then xs.set (Yx xs x.1) x else Fa xs (Yx xs x.1) x
theorem Bcz {α:Type} (f:α→D) (xs:List α) (k:Nat) (x:α): (List.map V.d (List.map f xs)).set k (V.d (f x))=List.map V.d (List.map f (xs.set k x)):=by
 simp only[List.map_set]
theorem Bpp (xs:List Pr) (x:Pr): (Bek xs x).length≤xs.length+1:=by
 unfold Bek
 split
 ·rw[List.length_set];omega
 ·rw[Gt];omega
def Ng (xs:List Pr) (x:Pr):List Pr×Bool×Bool:=if Du xs=true then(if Du (Bek xs x)=true then(Bek xs x, !Qu xs x.1,true) else(xs,false,false)) else([],false,false)
theorem By1 (H:Hp) (xs:List Pr) (x:Pr) (hx:xs.length≤1000000):ev R 227 [.d (Fw xs), .d (Lb x)] H=some (.tup [.slc (Be H) 0 0 (Ng xs x).1.length, .d (.bool (Ng xs x).2.1), .d (.bool (Ng xs x).2.2)],ap H [.row 0 2 (((Ng xs x).1.map Lb).map V.d)]):=by
 unfold Ng
 refine Bh (fn:=f227) rfl rfl ?_
 have p1:=Bw9 xs (by omega)
 cases h1:Du xs with
 |false=>
  rw[h1] at p1
  simp[Ch,-List.getD_eq_getElem?_getD,-List.map_map,f227,p1,Fw,Ux]
 |true=>
  rw[h1] at p1
  have p2:=Bst xs x.1 hx
  have hk:=Br4 xs x.1
  have hx1:=Bpp xs x
  have p4:=Bw9 (Bek xs x) (by omega)
  have hr:Bek xs x=if Qu xs x.1=true then xs.set (Yx xs x.1) x else Fa xs (Yx xs x.1) x:=rfl
  have hl:Qu xs x.1=true→Yx xs x.1<xs.length:=fun h=>by
   unfold Qu at h
   rw[Bool.and_eq_true,decide_eq_true_eq] at h
   exact h.1
  generalize Yx xs x.1=k at*
  have hk': (k:Int)≤(xs.length:Int):=by omega
  have hk0: (0:Int)≤(k:Int):=by omega
  have r1:k*32≤Cq:=by unfold Cq;omega
  have r2: (k+1)*32≤Cq:=by unfold Cq;omega
  have r3: (k+1+(xs.length - k))*32≤Cq:=by unfold Cq;omega
  have r4:xs.length*32≤Cq:=by unfold Cq;omega
  have mn:min k xs.length=k:=by omega
  cases h3:Qu xs x.1 with
  |true=>
   have hl:=hl h3
   have hl': (k:Int)< (xs.length:Int):=by omega
   rw[h3] at p2
   rw[h3,if_pos rfl] at hr
   have f1:=Bcz Lb xs k x
   rw[hr] at p4⊢
   have f4:List.take xs.length (List.map V.d (List.map Lb (xs.set k x)))=List.map V.d (List.map Lb (xs.set k x)):=List.take_of_length_le (by simp)
   have f5:List.take xs.length (List.map Lb (xs.set k x))=List.map Lb (xs.set k x):=List.take_of_length_le (by simp)
   have f6: (xs.set k x).length=xs.length:=List.length_set
   generalize xs.set k x=zs at*
   cases h2:Du zs with
   |true=>
    rw[h2] at p4
    simp[Ch,-List.getD_eq_getElem?_getD,-List.map_map,f227,p1,p2,r4,hl,hl',hk0,f1,f4,f5,f6,p4,Fw,Ux]
   |false=>
    rw[h2] at p4
    simp[Ch,-List.getD_eq_getElem?_getD,-List.map_map,f227,p1,p2,r4,hl,hl',hk0,f1,f4,f5,f6,p4,Fw,Ux]
  |false=>
   rw[h3] at p2
   rw[h3,if_neg (by simp)] at hr
   have il:=Gt xs k x
   have fl:k+1+(xs.length - k)=xs.length+1:=by omega
   rw[hr] at p4⊢
   have f1:=Xp Lb xs k x
   have f2:=Xq Lb xs k x hk
   have f3:=Bfr xs k x hk
   have f2':List.take (k+1+(xs.length - k)) (List.map Lb (Fa xs k x))=List.map Lb (Fa xs k x):=by
    refine List.take_of_length_le ?_
    simp only[List.length_map,Gt];omega
   rw[fl] at r3 f2 f2' f3
   cases h2:Du (Fa xs k x) with
   |true=>
    rw[h2] at p4
    simp[Ch,-List.getD_eq_getElem?_getD,-List.map_map,f227,p1,p2,De,hk,hk',hk0,r1,r2,r3,r4,mn,f1,f2,f2',f3,p4,Fw,il,fl,Ux]
   |false=>
    rw[h2] at p4
    simp[Ch,-List.getD_eq_getElem?_getD,-List.map_map,f227,p1,p2,De,hk,hk',hk0,r1,r2,r3,r4,mn,f1,f2,f2',f3,p4,Fw,il,fl,Ux]
theorem Bzh (xs:List Pr) (x:Pr) (hx:xs.length≤1000000):Gl (ev R) 227 [.d (Fw xs), .d (Lb x)]=some (.tup [.d (Fw (Ng xs x).1), .d (.bool (Ng xs x).2.1), .d (.bool (Ng xs x).2.2)]):=by
 refine Jt fun H=> ⟨_,_,By1 H xs x hx, ?_,L6 H _⟩
 simp[Ch,-List.getD_eq_getElem?_getD,-List.map_map]
theorem Bss (xs:List Pr) (x:Pr) (hx:xs.length≤1000000):Bc (ev R) 227 [.d (Fw xs), .d (Lb x)]=none:=by
 cases h:Bc (ev R) 227 [.d (Fw xs), .d (Lb x)] with
 |none=>rfl
 |some v=>
  have h1:=Dx h []
  rw[By1 [] xs x hx] at h1
  simp[ap] at h1
theorem B6d (xs:List Pr) (t:Bq) (hx:xs.length≤1000000):Bc (ev R) 226 [.d (Fw xs), .d (.str t)]=
  some (if Du xs=true then .tup [.d (Fw (if Qu xs t=true then Gx xs (Yx xs t) else xs)), .d (.bool (Qu xs t))] else .tup [.d (Fw []), .d (.bool false)]):=Bb fun H=>by
 refine Bh (fn:=f226) rfl rfl ?_
 have p1:=Bw9 xs (by omega)
 cases h1:Du xs with
 |false=>
  rw[h1] at p1
  simp[Ch,-List.getD_eq_getElem?_getD,-List.map_map,f226,p1,Fw]
 |true=>
  rw[h1] at p1
  have p2:=Bst xs t hx
  have hl:Qu xs t=true→Yx xs t<xs.length:=fun h=>by
   unfold Qu at h
   rw[Bool.and_eq_true,decide_eq_true_eq] at h
   exact h.1
  generalize Yx xs t=k at*
  have r4:xs.length*32≤Cq:=by unfold Cq;omega
  cases h3:Qu xs t with
  |false=>
   rw[h3] at p2
   simp[Ch,-List.getD_eq_getElem?_getD,-List.map_map,f226,p1,p2,r4,Fw]
  |true=>
   rw[h3] at p2
   have hl:=hl h3
   have hk:k≤xs.length:=by omega
   have hk': (k:Int)≤(xs.length:Int):=by omega
   have hk0: (0:Int)≤(k:Int):=by omega
   have w1:IntKind.i64.wrap ((k:Int)+1)=((k+1:Nat):Int):=by rw[IntWalk.i64_in _ (by omega)];rfl
   have hk1: (k:Int)+1≤(xs.length:Int):=by omega
   have hk4: ((k:Int)+1).toNat=k+1:=by omega
   have hk2:k+1≤xs.length:=by omega
   have hk3: (0:Int)≤(k:Int)+1:=by omega
   have r1:k*32≤Cq:=by unfold Cq;omega
   have r3: (k+(xs.length - (k+1)))*32≤Cq:=by unfold Cq;omega
   have mn:min k xs.length=k:=by omega
   have f1:=Xh Lb xs k
   have f2:=Bg1 Lb xs k hl
   have f3:=Brr xs k hl
   simp[Ch,-List.getD_eq_getElem?_getD,-List.map_map,f226,p1,p2,De,hl,hk,hk',hk0,w1,hk1,hk2,hk3,hk4,r1,r3,mn,f1,f2,f3,Fw]
theorem B6c (xs:List Pr) (t:Bq) (hx:xs.length≤1000000):Bc (ev R) 225 [.d (Fw xs), .d (.str t)]=
  some (if Du xs=true∧Qu xs t=true then .tup [.d (.str (xs.getD (Yx xs t) ([],[])).2), .d (.bool true)] else .tup [.d (.str []), .d (.bool false)]):=Bb fun H=>by
 refine Bh (fn:=f225) rfl rfl ?_
 have p1:=Bw9 xs (by omega)
 have p2:=Bst xs t hx
 cases h1:Du xs with
 |false=>
  rw[h1] at p1
  simp[Ch,-List.getD_eq_getElem?_getD,-List.map_map,f225,p1,p2,Fw]
 |true=>
  rw[h1] at p1
  have hl:Qu xs t=true→Yx xs t<xs.length:=fun h=>by
   unfold Qu at h
   rw[Bool.and_eq_true,decide_eq_true_eq] at h
   exact h.1
  generalize Yx xs t=k at*
  cases h3:Qu xs t with
  |false=>
   rw[h3] at p2
   simp[Ch,-List.getD_eq_getElem?_getD,-List.map_map,f225,p1,p2,Fw]
  |true=>
   rw[h3] at p2
   have hl:=hl h3
   have hl': (k:Int)< (xs.length:Int):=by omega
   have hk0: (0:Int)≤(k:Int):=by omega
   have g:=Xx xs k hl
   simp[Ch,-List.getD_eq_getElem?_getD,-List.map_map,f225,p1,p2,g,hl,hl',hk0,Fw]
theorem B59 (xs:List Sc) (t:Bq) (hx:xs.length≤1000000):Bc (ev R) 219 [.d (Dj xs), .d (.str t)]=
  some (if Dr xs=true then .tup [.d (Dj (Ju xs t)), .d (.bool (decide ((Ju xs t).length<xs.length)))] else .tup [.d (Dj []), .d (.bool false)]):=Bb fun H=>by
 refine Bh (fn:=f219) rfl rfl ?_
 have p1:=Bpi xs (by omega)
 have p2:=Bzk xs t hx
 cases h1:Dr xs with
 |false=>
  rw[h1] at p1
  simp[Ch,-List.getD_eq_getElem?_getD,-List.map_map,f219,p1,Dj]
 |true=>
  rw[h1] at p1
  generalize Ju xs t=ys at*
  simp[Ch,-List.getD_eq_getElem?_getD,-List.map_map,f219,p1,p2,Dj]
def Jl (xs:List Sc) (t:Bq):Int:=if Dr xs=true then(if(xs.takeWhile fun x=> !decide (x.1=t)).length<xs.length then((xs.takeWhile fun x=> !decide (x.1=t)).length:Int) else -1) else -1
theorem Bnj (xs:List Sc) (t:Bq) (hx:xs.length≤1000000):Bc (ev R) 220 [.d (Dj xs), .d (.str t)]=some (.d (.int .i64 (Jl xs t))):=Bb fun H=>by
 refine Bh (fn:=f220) rfl rfl ?_
 have p1:=Bpi xs (by omega)
 have key:Gives (fun o e X=>X=H∧(o= .exit 0∧Jl xs t= -1∨o= .ret∧e.get 4= .d (.int .i64 (Jl xs t)))) (Bg (Bp (ev R) R.glob (Be H) Bg We) [0,1,5] ⟨[(0, .d (Dj xs)),(1, .d (.str t)),(5, .d (.int .i64 0))],H⟩):=by
  refine Di (F:=Bp (ev R) R.glob (Be H) Bg We) (lv:=[0,1,5]) xs.length
   (fun i e X=>X=H∧e.get 0= .d (Dj xs)∧e.get 1= .d (.str t)∧e.get 5= .d (.int .i64 i)∧i≤(xs.takeWhile fun x=> !decide (x.1=t)).length) _ ?_ ?_ xs.length 0 _ _ (by omega) ⟨rfl,rfl,rfl,rfl,Nat.zero_le _⟩
  ·rintro e X ⟨rfl,g0,g1,g5,hi⟩
   have hn: ¬ (xs.takeWhile fun x=> !decide (x.1=t)).length<xs.length:=by omega
   have hr:Jl xs t= -1:=by unfold Jl;rw[if_neg hn];split<;>rfl
   simp[Ch,-List.getD_eq_getElem?_getD,-List.map_map,We,g0,g1,g5,hr,Dj]
  ·rintro i e X hi ⟨rfl,g0,g1,g5,hk⟩
   have c: (i:Int)< (xs.length:Int):=by omega
   have g:=Nf xs i hi
   have w1:IntKind.i64.wrap ((i:Int)+1)=((i+1:Nat):Int):=by rw[IntWalk.i64_in _ (by omega)];rfl
   cases h1:Dr xs with
   |false=>
    rw[h1] at p1
    have hr:Jl xs t= -1:=by unfold Jl;rw[h1];simp
    simp[Ch,-List.getD_eq_getElem?_getD,-List.map_map,We,g0,g1,g5,c,hi,p1,hr,Dj]
   |true=>
    rw[h1] at p1
    by_cases h: (xs.getD i ([],0)).1=t
    ·have hn:=Sb (fun x:Sc=> !decide (x.1=t)) ([],0) xs i hk hi (by simp only[decide_eq_true h,Bool.not_true])
     have hr:Jl xs t=(i:Int):=by unfold Jl;rw[h1,if_pos rfl,←hn,if_pos hi]
     simp[Ch,-List.getD_eq_getElem?_getD,-List.map_map,We,g0,g1,g5,c,hi,g,p1,w1,eq_true h,hr,Dj]
    ·have hn:=Sa (fun x:Sc=> !decide (x.1=t)) ([],0) xs i hk hi (by simp only[decide_eq_false h,Bool.not_false])
     simp[Ch,-List.getD_eq_getElem?_getD,-List.map_map,We,g0,g1,g5,c,hi,g,p1,w1,eq_false h,hn,Dj]
 obtain⟨o,e',X',he,rfl,g⟩:=key.out
 rcases g with⟨rfl,g⟩ | ⟨rfl,g4⟩
 ·simp[Ch,-List.getD_eq_getElem?_getD,-List.map_map,f220,he,g]
 ·simp[Ch,-List.getD_eq_getElem?_getD,-List.map_map,f220,he,g4]
end Go.Proofs.YtpajcoanfkeibaaGreatDoor.Code

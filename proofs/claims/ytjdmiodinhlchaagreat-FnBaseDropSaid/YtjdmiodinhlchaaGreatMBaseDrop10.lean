/- Lemmas (several texts in one). -/
import Derived.Test.YtjdmiodinhlchaaGreatMBaseDrop7
import Derived.Test.YtjdmiodinhlchaaGreatMBaseDrop8
import Derived.Test.YtjdmiodinhlchaaGreatMBaseDrop9
set_option maxRecDepth 100000
set_option linter.unusedSimpArgs false
set_option linter.unusedVariables false
namespace Go.Proofs.YtjdmiodinhlchaaGreat.Code
open Go Go.Ev Go.Proofs
def Kp (xs:List Pr) (i:Nat):Bool:=decide (40< (xs.getD i ([],[])).1.length) ||decide (40< (xs.getD i ([],[])).2.length) || (decide (0<i) && !Op.bytesLess (xs.getD (i - 1) ([],[])).1 (xs.getD i ([],[])).1)
theorem Bbm {X:Hp} {n:Nat} (o:Ev.Obj) (h:n≤Bc X):Ck (Bp X o) n=Ck X n:=by
 simp only[Ck,Bp,Bc] at*
 rw[List.take_append_of_le_length h]
def Cx (xs:List Pr):Bool:= !De (Kp xs) xs.length 0&&decide (xs.length≤16)
theorem Bvh (n0:Nat) (xs:List Pr) (hx:xs.length≤9223372036854775807) (H:Hp): ∀ (n i:Nat) (e:Env),i+n=xs.length→e.get 0= .d (Dp xs)→e.get 3= .d (.int .i64 i)→
  ∃e',Bg (Bo (ev R) R.glob n0 Bg Q2) [0,3] ⟨e,H⟩=some ((bif De (Kp xs) n i then .ret else .exit 0),⟨e',H⟩)∧
   (De (Kp xs) n i=true→e'.get 2= .d (.bool false))∧(De (Kp xs) n i=false→e'.get 0= .d (Dp xs))
 |0,i,e,h1,g0,g3=>by
  have c: ¬ (i:Int)< (xs.length:Int):=by omega
  have c': ¬i<xs.length:=by omega
  rw[Bz]
  simp only[De]
  refine⟨?_, ?_, ?_, ?_⟩
  rotate_left
  ·simp[B9,-List.getD_eq_getElem?_getD,-List.map_map,Q2,g0,g3,Dp,c,c']
   try rfl
  ·intro h;simp at h
  ·intro _;simp[B9,-List.getD_eq_getElem?_getD,-List.map_map,g0,Dp]
 |n+1,i,e,h1,g0,g3=>by
  have h4:i+(n+1)=xs.length:=h1
  have c':i<xs.length:=by omega
  have ga:=Rg xs i c'
  have hp:Kp xs i=(decide (40< (xs.getD i ([],[])).1.length) ||decide (40< (xs.getD i ([],[])).2.length) || (decide (0<i) && !Op.bytesLess (xs.getD (i - 1) ([],[])).1 (xs.getD i ([],[])).1)):=rfl
  have gb:=Rg xs (i - 1) (by omega)
  obtain⟨I,hI⟩: ∃I:Int,(i:Int)=I:=⟨_,rfl⟩
  obtain⟨I2,hI2⟩: ∃I:Int,((i+1:Nat):Int)=I:=⟨_,rfl⟩
  obtain⟨J,hJ⟩: ∃I:Int,((i - 1:Nat):Int)=I:=⟨_,rfl⟩
  have w1:IntKind.i64.wrap (I+1)=I2:=by rw[IntWalk.i64_in _ (by omega)];omega
  have c:I< (xs.length:Int):=by omega
  have cj:J< (xs.length:Int):=by omega
  have p0:0≤I:=by omega
  have pj:0≤J:=by omega
  have t0:I.toNat=i:=by omega
  have tj:J.toNat=i - 1:=by omega
  have hk:i+1+n=xs.length:=by omega
  have w0:0<i→IntKind.i64.wrap (I - 1)=J:=fun _=>by rw[IntWalk.i64_in _ (by omega)];omega
  have z0:0<i→0<I:=fun _=>by omega
  have z1: ¬0<i→¬0<I:=fun _=>by omega
  have ih:=Bvh n0 xs hx H n (i+1)
  rw[hI] at g3
  rw[hI2] at ih
  simp only[De]
  generalize Kp xs i=b at*
  generalize De (Kp xs) n (i+1)=S at*
  generalize xs.getD i ([],[])=x at*
  generalize xs.getD (i - 1) ([],[])=y at*
  obtain⟨x1,x2⟩:=x
  obtain⟨y1,y2⟩:=y
  simp only at*
  rw[Bz]
  generalize Bg (Bo (ev R) R.glob n0 Bg Q2) [0,3]=F at ih⊢
  by_cases k1:40<x1.length
  ·have k1': (40:Int)< (x1.length:Int):=by omega
   simp only[k1,decide_true,Bool.true_or] at hp
   subst hp
   simp only[Bool.true_or,cond_true]
   refine⟨?_, ?_, ?_, ?_⟩
   rotate_left
   ·simp[B9,-List.getD_eq_getElem?_getD,-List.map_map,Q2,g0,g3,Dp,c,cj,p0,pj,t0,tj,ga,gb,k1,k1']
    try rfl
   ·intro _;simp[B9,-List.getD_eq_getElem?_getD,-List.map_map]
   ·intro h;simp at h
  ·have k1': ¬ (40:Int)< (x1.length:Int):=by omega
   by_cases k2:40<x2.length
   ·have k2': (40:Int)< (x2.length:Int):=by omega
    simp only[k1,k2,decide_true,decide_false,Bool.false_or,Bool.true_or] at hp
    subst hp
    simp only[Bool.true_or,cond_true]
    refine⟨?_, ?_, ?_, ?_⟩
    rotate_left
    ·simp[B9,-List.getD_eq_getElem?_getD,-List.map_map,Q2,g0,g3,Dp,c,cj,p0,pj,t0,tj,ga,gb,k1,k1',k2,k2']
     try rfl
    ·intro _;simp[B9,-List.getD_eq_getElem?_getD,-List.map_map]
    ·intro h;simp at h
   ·have k2': ¬ (40:Int)< (x2.length:Int):=by omega
    by_cases k3:0<i
    ·have w0:=w0 k3
     have z0:=z0 k3
     cases hl:Op.bytesLess y1 x1 with
     |false=>
      simp only[k1,k2,k3,hl,decide_true,decide_false,Bool.false_or,Bool.true_and,Bool.not_false] at hp
      subst hp
      simp only[Bool.true_or,cond_true]
      refine⟨?_, ?_, ?_, ?_⟩
      rotate_left
      ·simp[B9,-List.getD_eq_getElem?_getD,-List.map_map,Q2,g0,g3,Dp,c,cj,p0,pj,t0,tj,ga,gb,k1,k1',k2,k2',z0,w0,hl]
       try rfl
      ·intro _;simp[B9,-List.getD_eq_getElem?_getD,-List.map_map]
      ·intro h;simp at h
     |true=>
      simp only[k1,k2,k3,hl,decide_true,decide_false,Bool.false_or,Bool.true_and,Bool.not_true] at hp
      subst hp
      simp only[Bool.false_or]
      simp[B9,-List.getD_eq_getElem?_getD,-List.map_map,Q2,g0,g3,Dp,c,cj,p0,pj,t0,tj,w1,ga,gb,k1,k1',k2,k2',z0,w0,hl]
      refine ih _ hk ?_ ?_<;>rfl
    ·have z1:=z1 k3
     simp only[k1,k2,k3,decide_false,Bool.false_or,Bool.false_and] at hp
     subst hp
     simp only[Bool.false_or]
     simp[B9,-List.getD_eq_getElem?_getD,-List.map_map,Q2,g0,g3,Dp,c,cj,p0,pj,t0,tj,w1,ga,gb,k1,k1',k2,k2',z1]
     refine ih _ hk ?_ ?_<;>rfl
theorem Ba7 (H:Hp) (xs:List Pr) (hx:xs.length≤9223372036854775807):ev R 59 [.d (Dp xs)] H=some (.d (.bool (Cx xs)),H):=by
 refine Bi (fn:=f59) rfl rfl ?_
 obtain⟨e',he,h1,h2⟩:=Bvh (Bc H) xs hx H xs.length 0 [(0, .d (Dp xs)),(3, .d (.int .i64 0))] (by omega) rfl rfl
 unfold Cx
 simp only[Dp] at he h2
 cases hb:De (Kp xs) xs.length 0 with
 |true=>
  have h1:=h1 hb
  simp only[hb,cond_true] at he
  simp[B9,-List.getD_eq_getElem?_getD,-List.map_map,f59,Dp,he,h1]
 |false=>
  have h2:=h2 hb
  simp only[hb,cond_false] at he
  by_cases hl:xs.length≤16
  ·have hl': (xs.length:Int)≤16:=by omega
   simp[B9,-List.getD_eq_getElem?_getD,-List.map_map,f59,Dp,he,h2,hl,hl']
  ·have hl': ¬ (xs.length:Int)≤16:=by omega
   simp[B9,-List.getD_eq_getElem?_getD,-List.map_map,f59,Dp,he,h2,hl,hl']
theorem Bvk (n0:Nat) (xs:List Pr) (hx:xs.length≤9223372036854775807) (H:Hp): ∀ (n i:Nat) (X:Hp) (e:Env),i+n=xs.length→Ck X (Bc H)=H→Bc H≤Bc X→e.get 0= .d (Dp xs)→e.get 5= .d (Dp xs)→e.get 6= .d (.int .i64 xs.length)→e.get 7= .d (.int .i64 i)→
  ∃e' X',Bg (Bo (ev R) R.glob n0 Bg Q3) [0,5,6,7] ⟨e,X⟩=some ((bif De (Kp xs) n i then .ret else .exit 0),⟨e',X'⟩)∧
   (De (Kp xs) n i=true→e'.get 2= .d (.bool false))∧(De (Kp xs) n i=false→e'.get 0= .d (Dp xs))∧Ck X' (Bc H)=H
 |0,i,X,e,h1,hx1,hx2,g0,g5,g6,g3=>by
  have c: ¬ (i:Int)< (xs.length:Int):=by omega
  have c': ¬i<xs.length:=by omega
  rw[Bz]
  simp only[De]
  refine⟨?_,X, ?_, ?_, ?_, ?_⟩
  rotate_left
  ·simp[B9,-List.getD_eq_getElem?_getD,-List.map_map,Q3,g0,g5,g6,g3,Dp,c,c']
   try rfl
  ·intro h;simp at h
  ·intro _;simp[B9,-List.getD_eq_getElem?_getD,-List.map_map,g0,Dp]
  ·exact hx1
 |n+1,i,X,e,h1,hx1,hx2,g0,g5,g6,g3=>by
  have h4:i+(n+1)=xs.length:=h1
  have c':i<xs.length:=by omega
  have ga:=Rg xs i c'
  have hp:Kp xs i=(decide (40< (xs.getD i ([],[])).1.length) ||decide (40< (xs.getD i ([],[])).2.length) || (decide (0<i) && !Op.bytesLess (xs.getD (i - 1) ([],[])).1 (xs.getD i ([],[])).1)):=rfl
  have gb:=Rg xs (i - 1) (by omega)
  obtain⟨I,hI⟩: ∃I:Int,(i:Int)=I:=⟨_,rfl⟩
  obtain⟨I2,hI2⟩: ∃I:Int,((i+1:Nat):Int)=I:=⟨_,rfl⟩
  obtain⟨J,hJ⟩: ∃I:Int,((i - 1:Nat):Int)=I:=⟨_,rfl⟩
  have w1:IntKind.i64.wrap (I+1)=I2:=by rw[IntWalk.i64_in _ (by omega)];omega
  have c:I< (xs.length:Int):=by omega
  have cj:J< (xs.length:Int):=by omega
  have p0:0≤I:=by omega
  have pj:0≤J:=by omega
  have t0:I.toNat=i:=by omega
  have tj:J.toNat=i - 1:=by omega
  have hk:i+1+n=xs.length:=by omega
  have w0:0<i→IntKind.i64.wrap (I - 1)=J:=fun _=>by rw[IntWalk.i64_in _ (by omega)];omega
  have z0:0<i→0<I:=fun _=>by omega
  have z1: ¬0<i→¬0<I:=fun _=>by omega
  have ga': ∀z:D,Km (Bp X (.row 0 2 [.d (.agg [.str [], .str []])])) (Bc X) 0 0 0 [.d (.str (xs.getD i ([],[])).1), .d (.str (xs.getD i ([],[])).2)]=some (Bp X (.row 0 2 [.d (.agg [.str (xs.getD i ([],[])).1, .str (xs.getD i ([],[])).2])])):=fun _=>by
   simp[Km,Ci,V.cells,D.cells,Jt,V.isAgg,Kt,Fi,Mh]
  have st:=ga' .nilp
  have ld0:C3 (Bp X (.row 0 2 [.d (.agg [.str (xs.getD i ([],[])).1, .str (xs.getD i ([],[])).2])])) (Bc X) 0 0 0 1=some [.d (.str (xs.getD i ([],[])).1)]:=by simp[C3,Ci,V.cells,D.cells]
  have ld1:C3 (Bp X (.row 0 2 [.d (.agg [.str (xs.getD i ([],[])).1, .str (xs.getD i ([],[])).2])])) (Bc X) 0 0 1 1=some [.d (.str (xs.getD i ([],[])).2)]:=by simp[C3,Ci,V.cells,D.cells]
  have tk:Ck (Bp X (.row 0 2 [.d (.agg [.str (xs.getD i ([],[])).1, .str (xs.getD i ([],[])).2])])) (Bc H)=H:=by rw[Bbm _ hx2];exact hx1
  have lk:Bc H≤Bc (Bp X (.row 0 2 [.d (.agg [.str (xs.getD i ([],[])).1, .str (xs.getD i ([],[])).2])])):=by rw[Bx];omega
  have ih:=Bvk n0 xs hx H n (i+1) (Bp X (.row 0 2 [.d (.agg [.str (xs.getD i ([],[])).1, .str (xs.getD i ([],[])).2])]))
  generalize Bp X (.row 0 2 [.d (.agg [.str (xs.getD i ([],[])).1, .str (xs.getD i ([],[])).2])])=Y at*
  rw[hI] at g3
  rw[hI2] at ih
  simp only[De]
  generalize Kp xs i=b at*
  generalize De (Kp xs) n (i+1)=S at*
  generalize xs.getD i ([],[])=x at*
  generalize xs.getD (i - 1) ([],[])=y at*
  obtain⟨x1,x2⟩:=x
  obtain⟨y1,y2⟩:=y
  simp only at*
  rw[Bz]
  generalize Bg (Bo (ev R) R.glob n0 Bg Q3) [0,5,6,7]=F at ih⊢
  by_cases k1:40<x1.length
  ·have k1': (40:Int)< (x1.length:Int):=by omega
   simp only[k1,decide_true,Bool.true_or] at hp
   subst hp
   simp only[Bool.true_or,cond_true]
   refine⟨?_,Y, ?_, ?_, ?_, ?_⟩
   rotate_left
   ·simp[B9,-List.getD_eq_getElem?_getD,-List.map_map,Q3,g0,g5,g6,g3,Dp,c,cj,p0,pj,t0,tj,ga,gb,st,ld0,ld1,k1,k1']
    try rfl
   ·intro _;simp[B9,-List.getD_eq_getElem?_getD,-List.map_map]
   ·intro h;simp at h
   ·exact tk
  ·have k1': ¬ (40:Int)< (x1.length:Int):=by omega
   by_cases k2:40<x2.length
   ·have k2': (40:Int)< (x2.length:Int):=by omega
    simp only[k1,k2,decide_true,decide_false,Bool.false_or,Bool.true_or] at hp
    subst hp
    simp only[Bool.true_or,cond_true]
    refine⟨?_,Y, ?_, ?_, ?_, ?_⟩
    rotate_left
    ·simp[B9,-List.getD_eq_getElem?_getD,-List.map_map,Q3,g0,g5,g6,g3,Dp,c,cj,p0,pj,t0,tj,ga,gb,st,ld0,ld1,k1,k1',k2,k2']
     try rfl
    ·intro _;simp[B9,-List.getD_eq_getElem?_getD,-List.map_map]
    ·intro h;simp at h
    ·exact tk
   ·have k2': ¬ (40:Int)< (x2.length:Int):=by omega
    by_cases k3:0<i
    ·have w0:=w0 k3
     have z0:=z0 k3
     cases hl:Op.bytesLess y1 x1 with
     |false=>
      simp only[k1,k2,k3,hl,decide_true,decide_false,Bool.false_or,Bool.true_and,Bool.not_false] at hp
      subst hp
      simp only[Bool.true_or,cond_true]
      refine⟨?_,Y, ?_, ?_, ?_, ?_⟩
      rotate_left
      ·simp[B9,-List.getD_eq_getElem?_getD,-List.map_map,Q3,g0,g5,g6,g3,Dp,c,cj,p0,pj,t0,tj,ga,gb,st,ld0,ld1,k1,k1',k2,k2',z0,w0,hl]
       try rfl
      ·intro _;simp[B9,-List.getD_eq_getElem?_getD,-List.map_map]
      ·intro h;simp at h
      ·exact tk
     |true=>
      simp only[k1,k2,k3,hl,decide_true,decide_false,Bool.false_or,Bool.true_and,Bool.not_true] at hp
      subst hp
      simp only[Bool.false_or]
      simp[B9,-List.getD_eq_getElem?_getD,-List.map_map,Q3,g0,g5,g6,g3,Dp,c,cj,p0,pj,t0,tj,w1,ga,gb,st,ld0,ld1,k1,k1',k2,k2',z0,w0,hl]
      refine ih _ hk tk lk ?_ ?_ ?_ ?_<;> (first|rfl|exact g6)
    ·have z1:=z1 k3
     simp only[k1,k2,k3,decide_false,Bool.false_or,Bool.false_and] at hp
     subst hp
     simp only[Bool.false_or]
     simp[B9,-List.getD_eq_getElem?_getD,-List.map_map,Q3,g0,g5,g6,g3,Dp,c,cj,p0,pj,t0,tj,w1,ga,gb,st,ld0,ld1,k1,k1',k2,k2',z1]
     refine ih _ hk tk lk ?_ ?_ ?_ ?_<;> (first|rfl|exact g6)
theorem Bd8 (H:Hp) (xs:List Pr) (hx:xs.length≤9223372036854775807):ev R 68 [.d (Dp xs)] H=some (.d (.bool (Cx xs)),H):=by
 refine Bi (fn:=f68) rfl rfl ?_
 obtain⟨e',X',he,h1,h2,tk⟩:=Bvk (Bc H) xs hx H xs.length 0 H [(0, .d (Dp xs)),(5, .d (Dp xs)),(6, .d (.int .i64 xs.length)),(7, .d (.int .i64 0))] (by omega) (Gp H) (Nat.le_refl _) rfl rfl rfl rfl
 unfold Cx
 simp only[Dp] at he h2
 cases hb:De (Kp xs) xs.length 0 with
 |true=>
  have h1:=h1 hb
  simp only[hb,cond_true] at he
  simp[B9,-List.getD_eq_getElem?_getD,-List.map_map,f68,Dp,he,h1,tk]
 |false=>
  have h2:=h2 hb
  simp only[hb,cond_false] at he
  by_cases hl:xs.length≤16
  ·have hl': (xs.length:Int)≤16:=by omega
   simp[B9,-List.getD_eq_getElem?_getD,-List.map_map,f68,Dp,he,h2,hl,hl',tk]
  ·have hl': ¬ (xs.length:Int)≤16:=by omega
   simp[B9,-List.getD_eq_getElem?_getD,-List.map_map,f68,Dp,he,h2,hl,hl',tk]
theorem Brz (H:Hp) (n:Int):ev R 157 [.d (.int .i64 n)] H=some (.d (.bool false),H):=by
 refine Bi (fn:=f157) rfl rfl ?_
 simp[B9,-List.getD_eq_getElem?_getD,-List.map_map,f157]
theorem Bu1 (H:Hp) (s:Bm):ev R 74 [.d (.str s)] H=some (.d (.bool false),H):=by
 refine Bi (fn:=f74) rfl rfl ?_
 simp[B9,-List.getD_eq_getElem?_getD,-List.map_map,f74]
def Baw (a b:Int):Int:=if a<b then -1 else if b<a then 1 else 0
def Bax (x y:Bm):Int:=if Op.bytesLess x y=true then -1 else if(!(Op.bytesLess x y||decide (x=y)))=true then 1 else 0
theorem Buq (H:Hp) (a b:Int):ev R 117 [.d (.int .i64 a), .d (.int .i64 b)] H=some (.d (.int .i64 (Baw a b)),H):=by
 refine Bi (fn:=f117) rfl rfl ?_
 have p1:=Bb (cl:=ev R) fun H=>Brz H a
 have p2:=Bb (cl:=ev R) fun H=>Brz H b
 unfold Baw
 by_cases c1:a<b
 ·simp[B9,-List.getD_eq_getElem?_getD,-List.map_map,f117,p1,p2,c1]
 ·by_cases c2:b<a
  ·simp[B9,-List.getD_eq_getElem?_getD,-List.map_map,f117,p1,p2,c1,c2]
  ·simp[B9,-List.getD_eq_getElem?_getD,-List.map_map,f117,p1,p2,c1,c2]
theorem Byx (H:Hp) (x y:Bm):ev R 50 [.d (.str x), .d (.str y)] H=some (.d (.int .i64 (Bax x y)),H):=by
 refine Bi (fn:=f50) rfl rfl ?_
 have p1:=Bb (cl:=ev R) fun H=>Bu1 H x
 have p2:=Bb (cl:=ev R) fun H=>Bu1 H y
 unfold Bax
 cases c1:Op.bytesLess x y with
 |true=>simp[B9,-List.getD_eq_getElem?_getD,-List.map_map,f50,p1,p2,c1]
 |false=>
  by_cases c2:x=y
  ·subst c2
   simp[B9,-List.getD_eq_getElem?_getD,-List.map_map,f50,p1,c1]
  ·simp[B9,-List.getD_eq_getElem?_getD,-List.map_map,f50,p1,p2,c1,c2]
def orV (a b:Int):Int:=if a=0 then b else a
theorem Bif (a b:D): [a,b].getD 0 .nilp=a:=rfl
theorem Big (a b:D): [a,b].getD 1 .nilp=b:=rfl
theorem Bup (H:Hp) (a b:Int):ev R 116 [.d (.vals 1 [.int .i64 a, .int .i64 b])] H=some (.d (.int .i64 (orV a b)),H):=by
 refine Bi (fn:=f116) rfl rfl ?_
 have w1:IntKind.i64.wrap (0+1)=1:=rfl
 have w2:IntKind.i64.wrap (1+1)=2:=rfl
 have w1':IntKind.i64.wrap 1=1:=rfl
 have w2':IntKind.i64.wrap 2=2:=rfl
 unfold orV
 by_cases c1:a=0
 ·subst c1
  by_cases c2:b=0
  ·subst c2
   have L: ∃e',Bg (Bo (ev R) R.glob (Bc H) Bg L5) [3,6,7,8] ⟨[(3, .d (.int .i64 0)),(6, .d (.vals 1 [.int .i64 0, .int .i64 0])),(7, .d (.int .i64 2)),(8, .d (.int .i64 0))],H⟩=some (.exit 0,⟨e',H⟩)∧e'.get 3= .d (.int .i64 0):=by
    rw[Bz]
    simp[B9,-List.getD_eq_getElem?_getD,-List.map_map,L5,Bif,Big,w1,w2,w1',w2']
    rw[Bz]
    simp[B9,-List.getD_eq_getElem?_getD,-List.map_map,L5,Bif,Big,w1,w2,w1',w2']
    rw[Bz]
    refine⟨?_, ?_, ?_⟩
    rotate_left
    ·simp[B9,-List.getD_eq_getElem?_getD,-List.map_map,L5,Bif,Big,w1,w2,w1',w2']
     try rfl
    ·simp[B9,-List.getD_eq_getElem?_getD,-List.map_map]
   obtain⟨e',he,h3⟩:=L
   simp[B9,-List.getD_eq_getElem?_getD,-List.map_map,f116,he,h3]
  ·have L: ∃e',Bg (Bo (ev R) R.glob (Bc H) Bg L5) [3,6,7,8] ⟨[(3, .d (.int .i64 0)),(6, .d (.vals 1 [.int .i64 0, .int .i64 b])),(7, .d (.int .i64 2)),(8, .d (.int .i64 0))],H⟩=some (.ret,⟨e',H⟩)∧e'.get 2= .d (.int .i64 b):=by
    rw[Bz]
    simp[B9,-List.getD_eq_getElem?_getD,-List.map_map,L5,Bif,Big,w1,w2,w1',w2',c2]
    rw[Bz]
    refine⟨?_, ?_, ?_⟩
    rotate_left
    ·simp[B9,-List.getD_eq_getElem?_getD,-List.map_map,L5,Bif,Big,w1,w2,w1',w2',c2]
     try rfl
    ·simp[B9,-List.getD_eq_getElem?_getD,-List.map_map]
   obtain⟨e',he,h3⟩:=L
   simp[B9,-List.getD_eq_getElem?_getD,-List.map_map,f116,he,h3,c2]
 ·have L: ∃e',Bg (Bo (ev R) R.glob (Bc H) Bg L5) [3,6,7,8] ⟨[(3, .d (.int .i64 0)),(6, .d (.vals 1 [.int .i64 a, .int .i64 b])),(7, .d (.int .i64 2)),(8, .d (.int .i64 0))],H⟩=some (.ret,⟨e',H⟩)∧e'.get 2= .d (.int .i64 a):=by
   rw[Bz]
   refine⟨?_, ?_, ?_⟩
   rotate_left
   ·simp[B9,-List.getD_eq_getElem?_getD,-List.map_map,L5,Bif,Big,w1,w2,w1',w2',c1]
    try rfl
   ·simp[B9,-List.getD_eq_getElem?_getD,-List.map_map]
  obtain⟨e',he,h3⟩:=L
  simp[B9,-List.getD_eq_getElem?_getD,-List.map_map,f116,he,h3,c1]
theorem Bhx (H:Hp) (a b:Ev.Obj):Ck (Bp (Bp H a) b) (Bc H)=H:=by simp[Ck,Bp,Bc]
theorem Bu6 (H:Hp) (x y:Bm) (a b:Int):ev R 88 [.d (.agg [.str x, .int .i64 a]), .d (.agg [.str y, .int .i64 b])] H=some (.d (.int .i64 (orV (Baw a b) (Bax x y))),H):=by
 refine Bi (fn:=f88) rfl rfl ?_
 have p1:=Bb (cl:=ev R) fun H=>Buq H a b
 have p2:=Bb (cl:=ev R) fun H=>Byx H x y
 have p3:=Bb (cl:=ev R) fun H=>Bup H (Baw a b) (Bax x y)
 simp[B9,-List.getD_eq_getElem?_getD,-List.map_map,f88,Bx,C3,Cm,Zr,Zs,p1,p2,p3,Bhx]
def Jn (x y:Bm) (a b:Int):Bool:=decide (a<b) || (decide (a=b) &&Op.bytesLess x y)
theorem Bs7 (H:Hp) (x y:Bm) (a b:Int):ev R 84 [.d (.agg [.str x, .int .i64 a]), .d (.agg [.str y, .int .i64 b])] H=some (.d (.bool (Jn x y a b)),H):=by
 refine Bi (fn:=f84) rfl rfl ?_
 unfold Jn
 by_cases c1:a<b
 ·simp[B9,-List.getD_eq_getElem?_getD,-List.map_map,f84,Bx,C3,Cm,Zr,Zs,c1,Bhx]
 ·by_cases c2:a=b
  ·simp[B9,-List.getD_eq_getElem?_getD,-List.map_map,f84,Bx,C3,Cm,Zr,Zs,c1,c2,Bhx]
  ·simp[B9,-List.getD_eq_getElem?_getD,-List.map_map,f84,Bx,C3,Cm,Zr,Zs,c1,c2,Bhx]
theorem S5 (x y:Bm) (a b:Int):decide (orV (Baw a b) (Bax x y)≥0)= !Jn x y a b:=by
 unfold orV Baw Bax Jn
 by_cases c1:a<b
 ·simp[c1]
 ·by_cases c2:b<a
  ·have: ¬a=b:=by omega
   simp[c1,c2,this]
  ·have:a=b:=by omega
   cases h:Op.bytesLess x y with
   |true=>simp[c1,c2,this]
   |false=>
    by_cases c3:x=y
    ·simp[c1,c2,this,c3]
    ·simp[c1,c2,this,c3]
theorem Bus (H:Hp) (t x:Bm) (n:Int):ev R 119 [.d (.agg [.str t, .int .i64 n]), .d (.rptr [.str x])] H=some (.d (.bool (decide (t=x))),H):=by
 refine Bi (fn:=f119) rfl rfl ?_
 have ld:C3 (Bp H (.row 0 2 [.d (.agg [.str t, .int .i64 n])])) (Bc H) 0 0 0 1=some [.d (.str t)]:=by simp[C3,Ci,V.cells,D.cells]
 simp[B9,-List.getD_eq_getElem?_getD,-List.map_map,f119,ld]
def Ja (xs:List Sc) (x:Bm) (i:Nat):Bool:=decide ((xs.getD i ([],0)).1=x)
theorem Br5 (n0:Nat) (xs:List Sc) (hx:xs.length≤9223372036854775807) (x:Bm) (H:Hp): ∀ (n i:Nat) (e:Env),i+n=xs.length→e.get 0= .d (Cs xs)→e.get 1= .d (.fn (.func 119) [.rptr [.str x]])→e.get 7= .d (.int .i64 xs.length)→e.get 8= .d (.int .i64 i)→
  ∃e',Bg (Bo (ev R) R.glob n0 Bg Sa) [0,1,7,8] ⟨e,H⟩=some ((match Ds (Ja xs x) n i with|some _=> .ret|none=> .exit 0),⟨e',H⟩)∧(∀j,Ds (Ja xs x) n i=some j→e'.get 4= .d (.int .i64 j))
 |0,i,e,h1,g0,g1,g7,g8=>by
  have c: ¬ (i:Int)< (xs.length:Int):=by omega
  have c': ¬i<xs.length:=by omega
  rw[Bz]
  simp only[Ds]
  refine⟨?_, ?_, ?_⟩
  rotate_left
  ·simp[B9,-List.getD_eq_getElem?_getD,-List.map_map,Sa,g0,g1,g7,g8,Cs,c,c']
   try rfl
  ·intro j h;simp at h
 |n+1,i,e,h1,g0,g1,g7,g8=>by
  have c: (i:Int)< (xs.length:Int):=by omega
  have c':i<xs.length:=by omega
  have ga:=Lx xs i c'
  have p:=Bb (cl:=ev R) fun H=>Bus H (xs.getD i ([],0)).1 x (xs.getD i ([],0)).2
  have hp:Ja xs x i=decide ((xs.getD i ([],0)).1=x):=rfl
  have w1:IntKind.i64.wrap ((i:Int)+1)=((i+1:Nat):Int):=by rw[IntWalk.i64_in _ (by omega)];rfl
  have ih:=Br5 n0 xs hx x H n (i+1)
  simp only[Ds]
  rw[hp]
  generalize(xs.getD i ([],0))=y at*
  rw[Bz]
  generalize Bg (Bo (ev R) R.glob n0 Bg Sa) [0,1,7,8]=F at ih⊢
  by_cases hb:y.1=x
  ·simp only[hb,decide_true,if_true] at p⊢
   refine⟨?_, ?_, ?_⟩
   rotate_left
   ·simp[B9,-List.getD_eq_getElem?_getD,-List.map_map,Sa,g0,g1,g7,g8,Cs,c,c',ga,hb,p]
    try rfl
   ·intro j hj
    simp only[Option.some.injEq] at hj
    subst hj
    simp[B9,-List.getD_eq_getElem?_getD,-List.map_map]
  ·simp only[hb,decide_false,Bool.false_eq_true,if_false] at p⊢
   generalize Ds (Ja xs x) n (i+1)=S at*
   simp[B9,-List.getD_eq_getElem?_getD,-List.map_map,Sa,g0,g1,g7,g8,Cs,c,c',ga,hb,p,w1]
   refine ih _ (by omega) ?_ ?_ ?_ ?_<;> (first|rfl|exact g7)
def Bfu (xs:List Sc) (x:Bm):Int:=match Ds (Ja xs x) xs.length 0 with|some j=>j|none=> -1
theorem Bur (H:Hp) (xs:List Sc) (hx:xs.length≤9223372036854775807) (x:Bm):ev R 118 [.d (Cs xs), .d (.fn (.func 119) [.rptr [.str x]])] H=some (.d (.int .i64 (Bfu xs x)),H):=by
 refine Bi (fn:=f118) rfl rfl ?_
 obtain⟨e',he,h4⟩:=Br5 (Bc H) xs hx x H xs.length 0 [(0, .d (Cs xs)),(1, .d (.fn (.func 119) [.rptr [.str x]])),(7, .d (.int .i64 xs.length)),(8, .d (.int .i64 0))] (by omega) rfl rfl rfl rfl
 unfold Bfu
 simp only[Cs] at he
 cases hr:Ds (Ja xs x) xs.length 0 with
 |some j=>
  have h4:=h4 j hr
  simp only[hr] at he
  simp[B9,-List.getD_eq_getElem?_getD,-List.map_map,f118,Cs,he,h4]
 |none=>
  simp only[hr] at he
  simp[B9,-List.getD_eq_getElem?_getD,-List.map_map,f118,Cs,he]
theorem Bu7 (H:Hp) (xs:List Sc) (hx:xs.length≤9223372036854775807) (x:Bm):ev R 89 [.d (Cs xs), .d (.str x)] H=some (.d (.int .i64 (Bfu xs x)),H):=by
 refine Bi (fn:=f89) rfl rfl ?_
 have p:=Bb (cl:=ev R) fun H=>Bur H xs hx x
 have uno: ∀a:D,[a].getD 0 .nilp=a:=fun _=>rfl
 simp only[Cs] at p
 simp[B9,-List.getD_eq_getElem?_getD,-List.map_map,f89,Cs,uno,p]
theorem Bhm (xs:List Sc) (i:Nat) (hi:i<xs.length):decide (¬Bfu xs (xs.getD i ([],0)).1=(i:Int))=De (Ja xs (xs.getD i ([],0)).1) i 0:=by
 have anyT: ∀ (p:Nat→Bool) (n k:Nat),De p n k=true↔∃j,k≤j∧j<k+n∧p j=true:=by
  intro p n
  induction n with
  |zero=>intro k;simp[De];intro j h1 h2;omega
  |succ n ih=>
   intro k
   simp only[De,Bool.or_eq_true,ih (k+1)]
   constructor
   ·rintro(h| ⟨j,h1,h2,h3⟩)
    ·exact⟨k,Nat.le_refl _,by omega,h⟩
    ·exact⟨j,by omega,by omega,h3⟩
   ·rintro⟨j,h1,h2,h3⟩
    by_cases e:j=k
    ·subst e;exact .inl h3
    ·exact .inr ⟨j,by omega,by omega,h3⟩
 have self:Ja xs (xs.getD i ([],0)).1 i=true:=by simp[Ja]
 generalize(xs.getD i ([],0)).1=x at*
 unfold Bfu
 cases hr:Ds (Ja xs x) xs.length 0 with
 |none=>
  have:=Pt hr i (by omega) (by omega)
  rw[self] at this;simp at this
 |some j=>
  obtain⟨h1,h2,h3,h4⟩:=Pu hr
  have hji:j≤i:=by
   refine Nat.le_of_not_lt fun h=> ?_
   have:=h4 i (by omega) h
   rw[self] at this;simp at this
  simp only
  cases hb:De (Ja xs x) i 0 with
  |true=>
   obtain⟨k,k1,k2,k3⟩:=(anyT _ _ _).1 hb
   have hk: ¬k<j:=fun h=>by
    have:=h4 k (by omega) h
    rw[k3] at this;simp at this
   simp;omega
  |false=>
   have: ¬j<i:=fun h=>by
    have:=(anyT (Ja xs x) i 0).2 ⟨j,by omega,by omega,h3⟩
    rw[hb] at this;simp at this
   simp;omega
end Go.Proofs.YtjdmiodinhlchaaGreat.Code

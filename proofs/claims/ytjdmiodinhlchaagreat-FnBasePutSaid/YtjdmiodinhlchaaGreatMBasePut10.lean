/- Lemmas (several texts in one). -/
import Derived.Test.YtjdmiodinhlchaaGreatMBasePut7
import Derived.Test.YtjdmiodinhlchaaGreatMBasePut8
import Derived.Test.YtjdmiodinhlchaaGreatMBasePut9
set_option maxRecDepth 100000
set_option linter.unusedSimpArgs false
set_option linter.unusedVariables false
namespace Go.Proofs.YtjdmiodinhlchaaGreat.Code
open Go Go.Ev Go.Proofs
def Li (xs:List Pr) (i:Nat):Bool:=decide (40< (xs.getD i ([],[])).1.length) ||decide (40< (xs.getD i ([],[])).2.length) || (decide (0<i) && !Op.bytesLess (xs.getD (i - 1) ([],[])).1 (xs.getD i ([],[])).1)
theorem Bgm {X:Hp} {n:Nat} (o:Ev.Obj) (h:n≤Bc X):Dl (Bt X o) n=Dl X n:=by
 simp only[Dl,Bt,Bc] at*
 rw[List.take_append_of_le_length h]
def Dw (xs:List Pr):Bool:= !Fj (Li xs) xs.length 0&&decide (xs.length≤16)
theorem B1n (n0:Nat) (xs:List Pr) (hx:xs.length≤9223372036854775807) (H:Hp): ∀ (n i:Nat) (e:Env),i+n=xs.length→e.get 0= .d (Fs xs)→e.get 3= .d (.int .i64 i)→
  ∃e',Bg (Bq (ev R) R.glob n0 Bg Wn) [0,3] ⟨e,H⟩=some ((bif Fj (Li xs) n i then .ret else .exit 0),⟨e',H⟩)∧
   (Fj (Li xs) n i=true→e'.get 2= .d (.bool false))∧(Fj (Li xs) n i=false→e'.get 0= .d (Fs xs))
 |0,i,e,h1,g0,g3=>by
  have c: ¬ (i:Int)< (xs.length:Int):=by omega
  have c': ¬i<xs.length:=by omega
  rw[Co]
  simp only[Fj]
  refine⟨?_, ?_, ?_, ?_⟩
  rotate_left
  ·simp[Cu,-List.getD_eq_getElem?_getD,-List.map_map,Wn,g0,g3,Fs,c,c']
   try rfl
  ·intro h;simp at h
  ·intro _;simp[Cu,-List.getD_eq_getElem?_getD,-List.map_map,g0,Fs]
 |n+1,i,e,h1,g0,g3=>by
  have h4:i+(n+1)=xs.length:=h1
  have c':i<xs.length:=by omega
  have ga:=Xc xs i c'
  have hp:Li xs i=(decide (40< (xs.getD i ([],[])).1.length) ||decide (40< (xs.getD i ([],[])).2.length) || (decide (0<i) && !Op.bytesLess (xs.getD (i - 1) ([],[])).1 (xs.getD i ([],[])).1)):=rfl
  have gb:=Xc xs (i - 1) (by omega)
  obtain⟨I,hI⟩: ∃I:Int,(i:Int)=I:=⟨_,rfl⟩
  obtain⟨I2,hI2⟩: ∃I:Int,((i+1:Nat):Int)=I:=⟨_,rfl⟩
  obtain⟨J,hJ⟩: ∃I:Int,((i - 1:Nat):Int)=I:=⟨_,rfl⟩
  have w1:IntKind.i64.wrap (I+1)=I2:=by rw[IntWalk.i64_in _ (by omega)];omega
  have c:I< (xs.length:Int):=by omega
  have cj:J< (xs.length:Int):=by omega
  have p0:0≤I:=by omega
  have pj:0≤J:=by omega
  have t0:I.toNat=i:=by omega
  have tj:J.toNat=i - 1:=by omega
  have hk:i+1+n=xs.length:=by omega
  have w0:0<i→IntKind.i64.wrap (I - 1)=J:=fun _=>by rw[IntWalk.i64_in _ (by omega)];omega
  have z0:0<i→0<I:=fun _=>by omega
  have z1: ¬0<i→¬0<I:=fun _=>by omega
  have ih:=B1n n0 xs hx H n (i+1)
  rw[hI] at g3
  rw[hI2] at ih
  simp only[Fj]
  generalize Li xs i=b at*
  generalize Fj (Li xs) n (i+1)=S at*
  generalize xs.getD i ([],[])=x at*
  generalize xs.getD (i - 1) ([],[])=y at*
  obtain⟨x1,x2⟩:=x
  obtain⟨y1,y2⟩:=y
  simp only at*
  rw[Co]
  generalize Bg (Bq (ev R) R.glob n0 Bg Wn) [0,3]=F at ih⊢
  by_cases k1:40<x1.length
  ·have k1': (40:Int)< (x1.length:Int):=by omega
   simp only[k1,decide_true,Bool.true_or] at hp
   subst hp
   simp only[Bool.true_or,cond_true]
   refine⟨?_, ?_, ?_, ?_⟩
   rotate_left
   ·simp[Cu,-List.getD_eq_getElem?_getD,-List.map_map,Wn,g0,g3,Fs,c,cj,p0,pj,t0,tj,ga,gb,k1,k1']
    try rfl
   ·intro _;simp[Cu,-List.getD_eq_getElem?_getD,-List.map_map]
   ·intro h;simp at h
  ·have k1': ¬ (40:Int)< (x1.length:Int):=by omega
   by_cases k2:40<x2.length
   ·have k2': (40:Int)< (x2.length:Int):=by omega
    simp only[k1,k2,decide_true,decide_false,Bool.false_or,Bool.true_or] at hp
    subst hp
    simp only[Bool.true_or,cond_true]
    refine⟨?_, ?_, ?_, ?_⟩
    rotate_left
    ·simp[Cu,-List.getD_eq_getElem?_getD,-List.map_map,Wn,g0,g3,Fs,c,cj,p0,pj,t0,tj,ga,gb,k1,k1',k2,k2']
     try rfl
    ·intro _;simp[Cu,-List.getD_eq_getElem?_getD,-List.map_map]
    ·intro h;simp at h
   ·have k2': ¬ (40:Int)< (x2.length:Int):=by omega
    by_cases k3:0<i
    ·have w0:=w0 k3
     have z0:=z0 k3
     cases hl:Op.bytesLess y1 x1 with
     |false=>
      simp only[k1,k2,k3,hl,decide_true,decide_false,Bool.false_or,Bool.true_and,Bool.not_false] at hp
      subst hp
      simp only[Bool.true_or,cond_true]
      refine⟨?_, ?_, ?_, ?_⟩
      rotate_left
      ·simp[Cu,-List.getD_eq_getElem?_getD,-List.map_map,Wn,g0,g3,Fs,c,cj,p0,pj,t0,tj,ga,gb,k1,k1',k2,k2',z0,w0,hl]
       try rfl
      ·intro _;simp[Cu,-List.getD_eq_getElem?_getD,-List.map_map]
      ·intro h;simp at h
     |true=>
      simp only[k1,k2,k3,hl,decide_true,decide_false,Bool.false_or,Bool.true_and,Bool.not_true] at hp
      subst hp
      simp only[Bool.false_or]
      simp[Cu,-List.getD_eq_getElem?_getD,-List.map_map,Wn,g0,g3,Fs,c,cj,p0,pj,t0,tj,w1,ga,gb,k1,k1',k2,k2',z0,w0,hl]
      refine ih _ hk ?_ ?_<;>rfl
    ·have z1:=z1 k3
     simp only[k1,k2,k3,decide_false,Bool.false_or,Bool.false_and] at hp
     subst hp
     simp only[Bool.false_or]
     simp[Cu,-List.getD_eq_getElem?_getD,-List.map_map,Wn,g0,g3,Fs,c,cj,p0,pj,t0,tj,w1,ga,gb,k1,k1',k2,k2',z1]
     refine ih _ hk ?_ ?_<;>rfl
theorem Bf5 (H:Hp) (xs:List Pr) (hx:xs.length≤9223372036854775807):ev R 59 [.d (Fs xs)] H=some (.d (.bool (Dw xs)),H):=by
 refine Bh (fn:=f59) rfl rfl ?_
 obtain⟨e',he,h1,h2⟩:=B1n (Bc H) xs hx H xs.length 0 [(0, .d (Fs xs)),(3, .d (.int .i64 0))] (by omega) rfl rfl
 unfold Dw
 simp only[Fs] at he h2
 cases hb:Fj (Li xs) xs.length 0 with
 |true=>
  have h1:=h1 hb
  simp only[hb,cond_true] at he
  simp[Cu,-List.getD_eq_getElem?_getD,-List.map_map,f59,Fs,he,h1]
 |false=>
  have h2:=h2 hb
  simp only[hb,cond_false] at he
  by_cases hl:xs.length≤16
  ·have hl': (xs.length:Int)≤16:=by omega
   simp[Cu,-List.getD_eq_getElem?_getD,-List.map_map,f59,Fs,he,h2,hl,hl']
  ·have hl': ¬ (xs.length:Int)≤16:=by omega
   simp[Cu,-List.getD_eq_getElem?_getD,-List.map_map,f59,Fs,he,h2,hl,hl']
theorem B1q (n0:Nat) (xs:List Pr) (hx:xs.length≤9223372036854775807) (H:Hp): ∀ (n i:Nat) (X:Hp) (e:Env),i+n=xs.length→Dl X (Bc H)=H→Bc H≤Bc X→e.get 0= .d (Fs xs)→e.get 5= .d (Fs xs)→e.get 6= .d (.int .i64 xs.length)→e.get 7= .d (.int .i64 i)→
  ∃e' X',Bg (Bq (ev R) R.glob n0 Bg Wo) [0,5,6,7] ⟨e,X⟩=some ((bif Fj (Li xs) n i then .ret else .exit 0),⟨e',X'⟩)∧
   (Fj (Li xs) n i=true→e'.get 2= .d (.bool false))∧(Fj (Li xs) n i=false→e'.get 0= .d (Fs xs))∧Dl X' (Bc H)=H
 |0,i,X,e,h1,hx1,hx2,g0,g5,g6,g3=>by
  have c: ¬ (i:Int)< (xs.length:Int):=by omega
  have c': ¬i<xs.length:=by omega
  rw[Co]
  simp only[Fj]
  refine⟨?_,X, ?_, ?_, ?_, ?_⟩
  rotate_left
  ·simp[Cu,-List.getD_eq_getElem?_getD,-List.map_map,Wo,g0,g5,g6,g3,Fs,c,c']
   try rfl
  ·intro h;simp at h
  ·intro _;simp[Cu,-List.getD_eq_getElem?_getD,-List.map_map,g0,Fs]
  ·exact hx1
 |n+1,i,X,e,h1,hx1,hx2,g0,g5,g6,g3=>by
  have h4:i+(n+1)=xs.length:=h1
  have c':i<xs.length:=by omega
  have ga:=Xc xs i c'
  have hp:Li xs i=(decide (40< (xs.getD i ([],[])).1.length) ||decide (40< (xs.getD i ([],[])).2.length) || (decide (0<i) && !Op.bytesLess (xs.getD (i - 1) ([],[])).1 (xs.getD i ([],[])).1)):=rfl
  have gb:=Xc xs (i - 1) (by omega)
  obtain⟨I,hI⟩: ∃I:Int,(i:Int)=I:=⟨_,rfl⟩
  obtain⟨I2,hI2⟩: ∃I:Int,((i+1:Nat):Int)=I:=⟨_,rfl⟩
  obtain⟨J,hJ⟩: ∃I:Int,((i - 1:Nat):Int)=I:=⟨_,rfl⟩
  have w1:IntKind.i64.wrap (I+1)=I2:=by rw[IntWalk.i64_in _ (by omega)];omega
  have c:I< (xs.length:Int):=by omega
  have cj:J< (xs.length:Int):=by omega
  have p0:0≤I:=by omega
  have pj:0≤J:=by omega
  have t0:I.toNat=i:=by omega
  have tj:J.toNat=i - 1:=by omega
  have hk:i+1+n=xs.length:=by omega
  have w0:0<i→IntKind.i64.wrap (I - 1)=J:=fun _=>by rw[IntWalk.i64_in _ (by omega)];omega
  have z0:0<i→0<I:=fun _=>by omega
  have z1: ¬0<i→¬0<I:=fun _=>by omega
  have ga': ∀z:D,M4 (Bt X (.row 0 2 [.d (.agg [.str [], .str []])])) (Bc X) 0 0 0 [.d (.str (xs.getD i ([],[])).1), .d (.str (xs.getD i ([],[])).2)]=some (Bt X (.row 0 2 [.d (.agg [.str (xs.getD i ([],[])).1, .str (xs.getD i ([],[])).2])])):=fun _=>by
   simp[M4,Dj,V.cells,D.cells,Ls,V.isAgg,M9,Gw,Qj]
  have st:=ga' .nilp
  have ld0:D5 (Bt X (.row 0 2 [.d (.agg [.str (xs.getD i ([],[])).1, .str (xs.getD i ([],[])).2])])) (Bc X) 0 0 0 1=some [.d (.str (xs.getD i ([],[])).1)]:=by simp[D5,Dj,V.cells,D.cells]
  have ld1:D5 (Bt X (.row 0 2 [.d (.agg [.str (xs.getD i ([],[])).1, .str (xs.getD i ([],[])).2])])) (Bc X) 0 0 1 1=some [.d (.str (xs.getD i ([],[])).2)]:=by simp[D5,Dj,V.cells,D.cells]
  have tk:Dl (Bt X (.row 0 2 [.d (.agg [.str (xs.getD i ([],[])).1, .str (xs.getD i ([],[])).2])])) (Bc H)=H:=by rw[Bgm _ hx2];exact hx1
  have lk:Bc H≤Bc (Bt X (.row 0 2 [.d (.agg [.str (xs.getD i ([],[])).1, .str (xs.getD i ([],[])).2])])):=by rw[Cg];omega
  have ih:=B1q n0 xs hx H n (i+1) (Bt X (.row 0 2 [.d (.agg [.str (xs.getD i ([],[])).1, .str (xs.getD i ([],[])).2])]))
  generalize Bt X (.row 0 2 [.d (.agg [.str (xs.getD i ([],[])).1, .str (xs.getD i ([],[])).2])])=Y at*
  rw[hI] at g3
  rw[hI2] at ih
  simp only[Fj]
  generalize Li xs i=b at*
  generalize Fj (Li xs) n (i+1)=S at*
  generalize xs.getD i ([],[])=x at*
  generalize xs.getD (i - 1) ([],[])=y at*
  obtain⟨x1,x2⟩:=x
  obtain⟨y1,y2⟩:=y
  simp only at*
  rw[Co]
  generalize Bg (Bq (ev R) R.glob n0 Bg Wo) [0,5,6,7]=F at ih⊢
  by_cases k1:40<x1.length
  ·have k1': (40:Int)< (x1.length:Int):=by omega
   simp only[k1,decide_true,Bool.true_or] at hp
   subst hp
   simp only[Bool.true_or,cond_true]
   refine⟨?_,Y, ?_, ?_, ?_, ?_⟩
   rotate_left
   ·simp[Cu,-List.getD_eq_getElem?_getD,-List.map_map,Wo,g0,g5,g6,g3,Fs,c,cj,p0,pj,t0,tj,ga,gb,st,ld0,ld1,k1,k1']
    try rfl
   ·intro _;simp[Cu,-List.getD_eq_getElem?_getD,-List.map_map]
   ·intro h;simp at h
   ·exact tk
  ·have k1': ¬ (40:Int)< (x1.length:Int):=by omega
   by_cases k2:40<x2.length
   ·have k2': (40:Int)< (x2.length:Int):=by omega
    simp only[k1,k2,decide_true,decide_false,Bool.false_or,Bool.true_or] at hp
    subst hp
    simp only[Bool.true_or,cond_true]
    refine⟨?_,Y, ?_, ?_, ?_, ?_⟩
    rotate_left
    ·simp[Cu,-List.getD_eq_getElem?_getD,-List.map_map,Wo,g0,g5,g6,g3,Fs,c,cj,p0,pj,t0,tj,ga,gb,st,ld0,ld1,k1,k1',k2,k2']
     try rfl
    ·intro _;simp[Cu,-List.getD_eq_getElem?_getD,-List.map_map]
    ·intro h;simp at h
    ·exact tk
   ·have k2': ¬ (40:Int)< (x2.length:Int):=by omega
    by_cases k3:0<i
    ·have w0:=w0 k3
     have z0:=z0 k3
     cases hl:Op.bytesLess y1 x1 with
     |false=>
      simp only[k1,k2,k3,hl,decide_true,decide_false,Bool.false_or,Bool.true_and,Bool.not_false] at hp
      subst hp
      simp only[Bool.true_or,cond_true]
      refine⟨?_,Y, ?_, ?_, ?_, ?_⟩
      rotate_left
      ·simp[Cu,-List.getD_eq_getElem?_getD,-List.map_map,Wo,g0,g5,g6,g3,Fs,c,cj,p0,pj,t0,tj,ga,gb,st,ld0,ld1,k1,k1',k2,k2',z0,w0,hl]
       try rfl
      ·intro _;simp[Cu,-List.getD_eq_getElem?_getD,-List.map_map]
      ·intro h;simp at h
      ·exact tk
     |true=>
      simp only[k1,k2,k3,hl,decide_true,decide_false,Bool.false_or,Bool.true_and,Bool.not_true] at hp
      subst hp
      simp only[Bool.false_or]
      simp[Cu,-List.getD_eq_getElem?_getD,-List.map_map,Wo,g0,g5,g6,g3,Fs,c,cj,p0,pj,t0,tj,w1,ga,gb,st,ld0,ld1,k1,k1',k2,k2',z0,w0,hl]
      refine ih _ hk tk lk ?_ ?_ ?_ ?_<;> (first|rfl|exact g6)
    ·have z1:=z1 k3
     simp only[k1,k2,k3,decide_false,Bool.false_or,Bool.false_and] at hp
     subst hp
     simp only[Bool.false_or]
     simp[Cu,-List.getD_eq_getElem?_getD,-List.map_map,Wo,g0,g5,g6,g3,Fs,c,cj,p0,pj,t0,tj,w1,ga,gb,st,ld0,ld1,k1,k1',k2,k2',z1]
     refine ih _ hk tk lk ?_ ?_ ?_ ?_<;> (first|rfl|exact g6)
theorem Bjh (H:Hp) (xs:List Pr) (hx:xs.length≤9223372036854775807):ev R 68 [.d (Fs xs)] H=some (.d (.bool (Dw xs)),H):=by
 refine Bh (fn:=f68) rfl rfl ?_
 obtain⟨e',X',he,h1,h2,tk⟩:=B1q (Bc H) xs hx H xs.length 0 H [(0, .d (Fs xs)),(5, .d (Fs xs)),(6, .d (.int .i64 xs.length)),(7, .d (.int .i64 0))] (by omega) (Gu H) (Nat.le_refl _) rfl rfl rfl rfl
 unfold Dw
 simp only[Fs] at he h2
 cases hb:Fj (Li xs) xs.length 0 with
 |true=>
  have h1:=h1 hb
  simp only[hb,cond_true] at he
  simp[Cu,-List.getD_eq_getElem?_getD,-List.map_map,f68,Fs,he,h1,tk]
 |false=>
  have h2:=h2 hb
  simp only[hb,cond_false] at he
  by_cases hl:xs.length≤16
  ·have hl': (xs.length:Int)≤16:=by omega
   simp[Cu,-List.getD_eq_getElem?_getD,-List.map_map,f68,Fs,he,h2,hl,hl',tk]
  ·have hl': ¬ (xs.length:Int)≤16:=by omega
   simp[Cu,-List.getD_eq_getElem?_getD,-List.map_map,f68,Fs,he,h2,hl,hl',tk]
theorem Bxz (H:Hp) (n:Int):ev R 157 [.d (.int .i64 n)] H=some (.d (.bool false),H):=by
 refine Bh (fn:=f157) rfl rfl ?_
 simp[Cu,-List.getD_eq_getElem?_getD,-List.map_map,f157]
theorem B07 (H:Hp) (s:Bp):ev R 74 [.d (.str s)] H=some (.d (.bool false),H):=by
 refine Bh (fn:=f74) rfl rfl ?_
 simp[Cu,-List.getD_eq_getElem?_getD,-List.map_map,f74]
def Bfu (a b:Int):Int:=if a<b then -1 else if b<a then 1 else 0
def Bfv (x y:Bp):Int:=if Op.bytesLess x y=true then -1 else if(!(Op.bytesLess x y||decide (x=y)))=true then 1 else 0
theorem B0w (H:Hp) (a b:Int):ev R 117 [.d (.int .i64 a), .d (.int .i64 b)] H=some (.d (.int .i64 (Bfu a b)),H):=by
 refine Bh (fn:=f117) rfl rfl ?_
 have p1:=Bb (cl:=ev R) fun H=>Bxz H a
 have p2:=Bb (cl:=ev R) fun H=>Bxz H b
 unfold Bfu
 by_cases c1:a<b
 ·simp[Cu,-List.getD_eq_getElem?_getD,-List.map_map,f117,p1,p2,c1]
 ·by_cases c2:b<a
  ·simp[Cu,-List.getD_eq_getElem?_getD,-List.map_map,f117,p1,p2,c1,c2]
  ·simp[Cu,-List.getD_eq_getElem?_getD,-List.map_map,f117,p1,p2,c1,c2]
theorem B5g (H:Hp) (x y:Bp):ev R 50 [.d (.str x), .d (.str y)] H=some (.d (.int .i64 (Bfv x y)),H):=by
 refine Bh (fn:=f50) rfl rfl ?_
 have p1:=Bb (cl:=ev R) fun H=>B07 H x
 have p2:=Bb (cl:=ev R) fun H=>B07 H y
 unfold Bfv
 cases c1:Op.bytesLess x y with
 |true=>simp[Cu,-List.getD_eq_getElem?_getD,-List.map_map,f50,p1,p2,c1]
 |false=>
  by_cases c2:x=y
  ·subst c2
   simp[Cu,-List.getD_eq_getElem?_getD,-List.map_map,f50,p1,c1]
  ·simp[Cu,-List.getD_eq_getElem?_getD,-List.map_map,f50,p1,p2,c1,c2]
def orV (a b:Int):Int:=if a=0 then b else a
theorem Bnr (a b:D): [a,b].getD 0 .nilp=a:=rfl
theorem Bns (a b:D): [a,b].getD 1 .nilp=b:=rfl
theorem B0v (H:Hp) (a b:Int):ev R 116 [.d (.vals 1 [.int .i64 a, .int .i64 b])] H=some (.d (.int .i64 (orV a b)),H):=by
 refine Bh (fn:=f116) rfl rfl ?_
 have w1:IntKind.i64.wrap (0+1)=1:=rfl
 have w2:IntKind.i64.wrap (1+1)=2:=rfl
 have w1':IntKind.i64.wrap 1=1:=rfl
 have w2':IntKind.i64.wrap 2=2:=rfl
 unfold orV
 by_cases c1:a=0
 ·subst c1
  by_cases c2:b=0
  ·subst c2
   have L: ∃e',Bg (Bq (ev R) R.glob (Bc H) Bg P7) [3,6,7,8] ⟨[(3, .d (.int .i64 0)),(6, .d (.vals 1 [.int .i64 0, .int .i64 0])),(7, .d (.int .i64 2)),(8, .d (.int .i64 0))],H⟩=some (.exit 0,⟨e',H⟩)∧e'.get 3= .d (.int .i64 0):=by
    rw[Co]
    simp[Cu,-List.getD_eq_getElem?_getD,-List.map_map,P7,Bnr,Bns,w1,w2,w1',w2']
    rw[Co]
    simp[Cu,-List.getD_eq_getElem?_getD,-List.map_map,P7,Bnr,Bns,w1,w2,w1',w2']
    rw[Co]
    refine⟨?_, ?_, ?_⟩
    rotate_left
    ·simp[Cu,-List.getD_eq_getElem?_getD,-List.map_map,P7,Bnr,Bns,w1,w2,w1',w2']
     try rfl
    ·simp[Cu,-List.getD_eq_getElem?_getD,-List.map_map]
   obtain⟨e',he,h3⟩:=L
   simp[Cu,-List.getD_eq_getElem?_getD,-List.map_map,f116,he,h3]
  ·have L: ∃e',Bg (Bq (ev R) R.glob (Bc H) Bg P7) [3,6,7,8] ⟨[(3, .d (.int .i64 0)),(6, .d (.vals 1 [.int .i64 0, .int .i64 b])),(7, .d (.int .i64 2)),(8, .d (.int .i64 0))],H⟩=some (.ret,⟨e',H⟩)∧e'.get 2= .d (.int .i64 b):=by
    rw[Co]
    simp[Cu,-List.getD_eq_getElem?_getD,-List.map_map,P7,Bnr,Bns,w1,w2,w1',w2',c2]
    rw[Co]
    refine⟨?_, ?_, ?_⟩
    rotate_left
    ·simp[Cu,-List.getD_eq_getElem?_getD,-List.map_map,P7,Bnr,Bns,w1,w2,w1',w2',c2]
     try rfl
    ·simp[Cu,-List.getD_eq_getElem?_getD,-List.map_map]
   obtain⟨e',he,h3⟩:=L
   simp[Cu,-List.getD_eq_getElem?_getD,-List.map_map,f116,he,h3,c2]
 ·have L: ∃e',Bg (Bq (ev R) R.glob (Bc H) Bg P7) [3,6,7,8] ⟨[(3, .d (.int .i64 0)),(6, .d (.vals 1 [.int .i64 a, .int .i64 b])),(7, .d (.int .i64 2)),(8, .d (.int .i64 0))],H⟩=some (.ret,⟨e',H⟩)∧e'.get 2= .d (.int .i64 a):=by
   rw[Co]
   refine⟨?_, ?_, ?_⟩
   rotate_left
   ·simp[Cu,-List.getD_eq_getElem?_getD,-List.map_map,P7,Bnr,Bns,w1,w2,w1',w2',c1]
    try rfl
   ·simp[Cu,-List.getD_eq_getElem?_getD,-List.map_map]
  obtain⟨e',he,h3⟩:=L
  simp[Cu,-List.getD_eq_getElem?_getD,-List.map_map,f116,he,h3,c1]
theorem Bm8 (H:Hp) (a b:Ev.Obj):Dl (Bt (Bt H a) b) (Bc H)=H:=by simp[Dl,Bt,Bc]
theorem B1b (H:Hp) (x y:Bp) (a b:Int):ev R 88 [.d (.agg [.str x, .int .i64 a]), .d (.agg [.str y, .int .i64 b])] H=some (.d (.int .i64 (orV (Bfu a b) (Bfv x y))),H):=by
 refine Bh (fn:=f88) rfl rfl ?_
 have p1:=Bb (cl:=ev R) fun H=>B0w H a b
 have p2:=Bb (cl:=ev R) fun H=>B5g H x y
 have p3:=Bb (cl:=ev R) fun H=>B0v H (Bfu a b) (Bfv x y)
 simp[Cu,-List.getD_eq_getElem?_getD,-List.map_map,f88,Cg,D5,Di,Bet,Beu,p1,p2,p3,Bm8]
def Kn (x y:Bp) (a b:Int):Bool:=decide (a<b) || (decide (a=b) &&Op.bytesLess x y)
theorem Bza (H:Hp) (x y:Bp) (a b:Int):ev R 84 [.d (.agg [.str x, .int .i64 a]), .d (.agg [.str y, .int .i64 b])] H=some (.d (.bool (Kn x y a b)),H):=by
 refine Bh (fn:=f84) rfl rfl ?_
 unfold Kn
 by_cases c1:a<b
 ·simp[Cu,-List.getD_eq_getElem?_getD,-List.map_map,f84,Cg,D5,Di,Bet,Beu,c1,Bm8]
 ·by_cases c2:a=b
  ·simp[Cu,-List.getD_eq_getElem?_getD,-List.map_map,f84,Cg,D5,Di,Bet,Beu,c1,c2,Bm8]
  ·simp[Cu,-List.getD_eq_getElem?_getD,-List.map_map,f84,Cg,D5,Di,Bet,Beu,c1,c2,Bm8]
theorem Y5 (x y:Bp) (a b:Int):decide (orV (Bfu a b) (Bfv x y)≥0)= !Kn x y a b:=by
 unfold orV Bfu Bfv Kn
 by_cases c1:a<b
 ·simp[c1]
 ·by_cases c2:b<a
  ·have: ¬a=b:=by omega
   simp[c1,c2,this]
  ·have:a=b:=by omega
   cases h:Op.bytesLess x y with
   |true=>simp[c1,c2,this]
   |false=>
    by_cases c3:x=y
    ·simp[c1,c2,this,c3]
    ·simp[c1,c2,this,c3]
theorem B0y (H:Hp) (t x:Bp) (n:Int):ev R 119 [.d (.agg [.str t, .int .i64 n]), .d (.rptr [.str x])] H=some (.d (.bool (decide (t=x))),H):=by
 refine Bh (fn:=f119) rfl rfl ?_
 have ld:D5 (Bt H (.row 0 2 [.d (.agg [.str t, .int .i64 n])])) (Bc H) 0 0 0 1=some [.d (.str t)]:=by simp[D5,Dj,V.cells,D.cells]
 simp[Cu,-List.getD_eq_getElem?_getD,-List.map_map,f119,ld]
def Kl (xs:List Sc) (x:Bp) (i:Nat):Bool:=decide ((xs.getD i ([],0)).1=x)
theorem Bx6 (n0:Nat) (xs:List Sc) (hx:xs.length≤9223372036854775807) (x:Bp) (H:Hp): ∀ (n i:Nat) (e:Env),i+n=xs.length→e.get 0= .d (Dr xs)→e.get 1= .d (.fn (.func 119) [.rptr [.str x]])→e.get 7= .d (.int .i64 xs.length)→e.get 8= .d (.int .i64 i)→
  ∃e',Bg (Bq (ev R) R.glob n0 Bg X9) [0,1,7,8] ⟨e,H⟩=some ((match Fz (Kl xs x) n i with|some _=> .ret|none=> .exit 0),⟨e',H⟩)∧(∀j,Fz (Kl xs x) n i=some j→e'.get 4= .d (.int .i64 j))
 |0,i,e,h1,g0,g1,g7,g8=>by
  have c: ¬ (i:Int)< (xs.length:Int):=by omega
  have c': ¬i<xs.length:=by omega
  rw[Co]
  simp only[Fz]
  refine⟨?_, ?_, ?_⟩
  rotate_left
  ·simp[Cu,-List.getD_eq_getElem?_getD,-List.map_map,X9,g0,g1,g7,g8,Dr,c,c']
   try rfl
  ·intro j h;simp at h
 |n+1,i,e,h1,g0,g1,g7,g8=>by
  have c: (i:Int)< (xs.length:Int):=by omega
  have c':i<xs.length:=by omega
  have ga:=Pw xs i c'
  have p:=Bb (cl:=ev R) fun H=>B0y H (xs.getD i ([],0)).1 x (xs.getD i ([],0)).2
  have hp:Kl xs x i=decide ((xs.getD i ([],0)).1=x):=rfl
  have w1:IntKind.i64.wrap ((i:Int)+1)=((i+1:Nat):Int):=by rw[IntWalk.i64_in _ (by omega)];rfl
  have ih:=Bx6 n0 xs hx x H n (i+1)
  simp only[Fz]
  rw[hp]
  generalize(xs.getD i ([],0))=y at*
  rw[Co]
  generalize Bg (Bq (ev R) R.glob n0 Bg X9) [0,1,7,8]=F at ih⊢
  by_cases hb:y.1=x
  ·simp only[hb,decide_true,if_true] at p⊢
   refine⟨?_, ?_, ?_⟩
   rotate_left
   ·simp[Cu,-List.getD_eq_getElem?_getD,-List.map_map,X9,g0,g1,g7,g8,Dr,c,c',ga,hb,p]
    try rfl
   ·intro j hj
    simp only[Option.some.injEq] at hj
    subst hj
    simp[Cu,-List.getD_eq_getElem?_getD,-List.map_map]
  ·simp only[hb,decide_false,Bool.false_eq_true,if_false] at p⊢
   generalize Fz (Kl xs x) n (i+1)=S at*
   simp[Cu,-List.getD_eq_getElem?_getD,-List.map_map,X9,g0,g1,g7,g8,Dr,c,c',ga,hb,p,w1]
   refine ih _ (by omega) ?_ ?_ ?_ ?_<;> (first|rfl|exact g7)
def Bk3 (xs:List Sc) (x:Bp):Int:=match Fz (Kl xs x) xs.length 0 with|some j=>j|none=> -1
theorem B0x (H:Hp) (xs:List Sc) (hx:xs.length≤9223372036854775807) (x:Bp):ev R 118 [.d (Dr xs), .d (.fn (.func 119) [.rptr [.str x]])] H=some (.d (.int .i64 (Bk3 xs x)),H):=by
 refine Bh (fn:=f118) rfl rfl ?_
 obtain⟨e',he,h4⟩:=Bx6 (Bc H) xs hx x H xs.length 0 [(0, .d (Dr xs)),(1, .d (.fn (.func 119) [.rptr [.str x]])),(7, .d (.int .i64 xs.length)),(8, .d (.int .i64 0))] (by omega) rfl rfl rfl rfl
 unfold Bk3
 simp only[Dr] at he
 cases hr:Fz (Kl xs x) xs.length 0 with
 |some j=>
  have h4:=h4 j hr
  simp only[hr] at he
  simp[Cu,-List.getD_eq_getElem?_getD,-List.map_map,f118,Dr,he,h4]
 |none=>
  simp only[hr] at he
  simp[Cu,-List.getD_eq_getElem?_getD,-List.map_map,f118,Dr,he]
theorem B1c (H:Hp) (xs:List Sc) (hx:xs.length≤9223372036854775807) (x:Bp):ev R 89 [.d (Dr xs), .d (.str x)] H=some (.d (.int .i64 (Bk3 xs x)),H):=by
 refine Bh (fn:=f89) rfl rfl ?_
 have p:=Bb (cl:=ev R) fun H=>B0x H xs hx x
 have uno: ∀a:D,[a].getD 0 .nilp=a:=fun _=>rfl
 simp only[Dr] at p
 simp[Cu,-List.getD_eq_getElem?_getD,-List.map_map,f89,Dr,uno,p]
theorem Bmx (xs:List Sc) (i:Nat) (hi:i<xs.length):decide (¬Bk3 xs (xs.getD i ([],0)).1=(i:Int))=Fj (Kl xs (xs.getD i ([],0)).1) i 0:=by
 have anyT: ∀ (p:Nat→Bool) (n k:Nat),Fj p n k=true↔∃j,k≤j∧j<k+n∧p j=true:=by
  intro p n
  induction n with
  |zero=>intro k;simp[Fj];intro j h1 h2;omega
  |succ n ih=>
   intro k
   simp only[Fj,Bool.or_eq_true,ih (k+1)]
   constructor
   ·rintro(h| ⟨j,h1,h2,h3⟩)
    ·exact⟨k,Nat.le_refl _,by omega,h⟩
    ·exact⟨j,by omega,by omega,h3⟩
   ·rintro⟨j,h1,h2,h3⟩
    by_cases e:j=k
    ·subst e;exact .inl h3
    ·exact .inr ⟨j,by omega,by omega,h3⟩
 have self:Kl xs (xs.getD i ([],0)).1 i=true:=by simp[Kl]
 generalize(xs.getD i ([],0)).1=x at*
 unfold Bk3
 cases hr:Fz (Kl xs x) xs.length 0 with
 |none=>
  have:=Tz hr i (by omega) (by omega)
  rw[self] at this;simp at this
 |some j=>
  obtain⟨h1,h2,h3,h4⟩:=T9 hr
  have hji:j≤i:=by
   refine Nat.le_of_not_lt fun h=> ?_
   have:=h4 i (by omega) h
   rw[self] at this;simp at this
  simp only
  cases hb:Fj (Kl xs x) i 0 with
  |true=>
   obtain⟨k,k1,k2,k3⟩:=(anyT _ _ _).1 hb
   have hk: ¬k<j:=fun h=>by
    have:=h4 k (by omega) h
    rw[k3] at this;simp at this
   simp;omega
  |false=>
   have: ¬j<i:=fun h=>by
    have:=(anyT (Kl xs x) i 0).2 ⟨j,by omega,by omega,h3⟩
    rw[hb] at this;simp at this
   simp;omega
end Go.Proofs.YtjdmiodinhlchaaGreat.Code

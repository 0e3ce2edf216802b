/- Lemmas (several texts in one). -/
import Derived.Test.YtedlandcnpjghaaGreatDoorMRecord7
import Derived.Test.YtedlandcnpjghaaGreatDoorMRecord8
import Derived.Test.YtedlandcnpjghaaGreatDoorMRecord15
set_option maxRecDepth 100000
set_option linter.unusedSimpArgs false
set_option linter.unusedVariables false
namespace Go.Proofs.YtedlandcnpjghaaGreatDoor.Code
open Go Go.Ev Go.Proofs
def Xb (xs:List Pr) (i:Nat):Bool:=decide (40< (xs.getD i ([],[])).1.length) ||decide (40< (xs.getD i ([],[])).2.length) || (decide (0<i) && !Op.bytesLess (xs.getD (i - 1) ([],[])).1 (xs.getD i ([],[])).1)
def Fp (xs:List Pr):Bool:= !Jb (Xb xs) xs.length 0&&decide (xs.length≤16)
theorem Bx3 (n0:Nat) (xs:List Pr) (hx:xs.length≤9223372036854775807) (H:Hp): ∀ (n i:Nat) (e:Env),i+n=xs.length→e.get 0= .d (Jw xs)→e.get 3= .d (.int .i64 i)→
  ∃e',Bg (Bp (ev R) R.glob n0 Bg Q8) [0,3] ⟨e,H⟩=some ((bif Jb (Xb xs) n i then .ret else .exit 0),⟨e',H⟩)∧
   (Jb (Xb xs) n i=true→e'.get 2= .d (.bool false))∧(Jb (Xb xs) n i=false→e'.get 0= .d (Jw xs))
 |0,i,e,h1,g0,g3=>by
  have c: ¬ (i:Int)< (xs.length:Int):=by omega
  have c': ¬i<xs.length:=by omega
  rw[Bw]
  simp only[Jb]
  refine⟨?_, ?_, ?_, ?_⟩
  rotate_left
  ·simp[Ck,-List.getD_eq_getElem?_getD,-List.map_map,Q8,g0,g3,Jw,c,c']
   try rfl
  ·intro h;simp at h
  ·intro _;simp[Ck,-List.getD_eq_getElem?_getD,-List.map_map,g0,Jw]
 |n+1,i,e,h1,g0,g3=>by
  have h4:i+(n+1)=xs.length:=h1
  have c':i<xs.length:=by omega
  have ga:=Bmz xs i c'
  have hp:Xb xs i=(decide (40< (xs.getD i ([],[])).1.length) ||decide (40< (xs.getD i ([],[])).2.length) || (decide (0<i) && !Op.bytesLess (xs.getD (i - 1) ([],[])).1 (xs.getD i ([],[])).1)):=rfl
  have gb:=Bmz xs (i - 1) (by omega)
  obtain⟨I,hI⟩: ∃I:Int,(i:Int)=I:=⟨_,rfl⟩
  obtain⟨I2,hI2⟩: ∃I:Int,((i+1:Nat):Int)=I:=⟨_,rfl⟩
  obtain⟨J,hJ⟩: ∃I:Int,((i - 1:Nat):Int)=I:=⟨_,rfl⟩
  have w1:IntKind.i64.wrap (I+1)=I2:=by rw[IntWalk.i64_in _ (by omega)];omega
  have c:I< (xs.length:Int):=by omega
  have cj:J< (xs.length:Int):=by omega
  have p0:0≤I:=by omega
  have pj:0≤J:=by omega
  have t0:I.toNat=i:=by omega
  have tj:J.toNat=i - 1:=by omega
  have hk:i+1+n=xs.length:=by omega
  have w0:0<i→IntKind.i64.wrap (I - 1)=J:=fun _=>by rw[IntWalk.i64_in _ (by omega)];omega
  have z0:0<i→0<I:=fun _=>by omega
  have z1: ¬0<i→¬0<I:=fun _=>by omega
  have ih:=Bx3 n0 xs hx H n (i+1)
  rw[hI] at g3
  rw[hI2] at ih
  simp only[Jb]
  generalize Xb xs i=b at*
  generalize Jb (Xb xs) n (i+1)=S at*
  generalize xs.getD i ([],[])=x at*
  generalize xs.getD (i - 1) ([],[])=y at*
  obtain⟨x1,x2⟩:=x
  obtain⟨y1,y2⟩:=y
  simp only at*
  rw[Bw]
  generalize Bg (Bp (ev R) R.glob n0 Bg Q8) [0,3]=F at ih⊢
  by_cases k1:40<x1.length
  ·have k1': (40:Int)< (x1.length:Int):=by omega
   simp only[k1,decide_true,Bool.true_or] at hp
   subst hp
   simp only[Bool.true_or,cond_true]
   refine⟨?_, ?_, ?_, ?_⟩
   rotate_left
   ·simp[Ck,-List.getD_eq_getElem?_getD,-List.map_map,Q8,g0,g3,Jw,c,cj,p0,pj,t0,tj,ga,gb,k1,k1']
    try rfl
   ·intro _;simp[Ck,-List.getD_eq_getElem?_getD,-List.map_map]
   ·intro h;simp at h
  ·have k1': ¬ (40:Int)< (x1.length:Int):=by omega
   by_cases k2:40<x2.length
   ·have k2': (40:Int)< (x2.length:Int):=by omega
    simp only[k1,k2,decide_true,decide_false,Bool.false_or,Bool.true_or] at hp
    subst hp
    simp only[Bool.true_or,cond_true]
    refine⟨?_, ?_, ?_, ?_⟩
    rotate_left
    ·simp[Ck,-List.getD_eq_getElem?_getD,-List.map_map,Q8,g0,g3,Jw,c,cj,p0,pj,t0,tj,ga,gb,k1,k1',k2,k2']
     try rfl
    ·intro _;simp[Ck,-List.getD_eq_getElem?_getD,-List.map_map]
    ·intro h;simp at h
   ·have k2': ¬ (40:Int)< (x2.length:Int):=by omega
    by_cases k3:0<i
    ·have w0:=w0 k3
     have z0:=z0 k3
     cases hl:Op.bytesLess y1 x1 with
     |false=>
      simp only[k1,k2,k3,hl,decide_true,decide_false,Bool.false_or,Bool.true_and,Bool.not_false] at hp
      subst hp
      simp only[Bool.true_or,cond_true]
      refine⟨?_, ?_, ?_, ?_⟩
      rotate_left
      ·simp[Ck,-List.getD_eq_getElem?_getD,-List.map_map,Q8,g0,g3,Jw,c,cj,p0,pj,t0,tj,ga,gb,k1,k1',k2,k2',z0,w0,hl]
       try rfl
      ·intro _;simp[Ck,-List.getD_eq_getElem?_getD,-List.map_map]
      ·intro h;simp at h
     |true=>
      simp only[k1,k2,k3,hl,decide_true,decide_false,Bool.false_or,Bool.true_and,Bool.not_true] at hp
      subst hp
      simp only[Bool.false_or]
      simp[Ck,-List.getD_eq_getElem?_getD,-List.map_map,Q8,g0,g3,Jw,c,cj,p0,pj,t0,tj,w1,ga,gb,k1,k1',k2,k2',z0,w0,hl]
      refine ih _ hk ?_ ?_<;>rfl
    ·have z1:=z1 k3
     simp only[k1,k2,k3,decide_false,Bool.false_or,Bool.false_and] at hp
     subst hp
     simp only[Bool.false_or]
     simp[Ck,-List.getD_eq_getElem?_getD,-List.map_map,Q8,g0,g3,Jw,c,cj,p0,pj,t0,tj,w1,ga,gb,k1,k1',k2,k2',z1]
     refine ih _ hk ?_ ?_<;>rfl
theorem Zp (H:Hp) (xs:List Pr) (hx:xs.length≤9223372036854775807):ev R 116 [.d (Jw xs)] H=some (.d (.bool (Fp xs)),H):=by
 refine Bo (fn:=f116) rfl rfl ?_
 obtain⟨e',he,h1,h2⟩:=Bx3 (Bc H) xs hx H xs.length 0 [(0, .d (Jw xs)),(3, .d (.int .i64 0))] (by omega) rfl rfl
 unfold Fp
 simp only[Jw] at he h2
 cases hb:Jb (Xb xs) xs.length 0 with
 |true=>
  have h1:=h1 hb
  simp only[hb,cond_true] at he
  simp[Ck,-List.getD_eq_getElem?_getD,-List.map_map,f116,Jw,he,h1]
 |false=>
  have h2:=h2 hb
  simp only[hb,cond_false] at he
  by_cases hl:xs.length≤16
  ·have hl': (xs.length:Int)≤16:=by omega
   simp[Ck,-List.getD_eq_getElem?_getD,-List.map_map,f116,Jw,he,h2,hl,hl']
  ·have hl': ¬ (xs.length:Int)≤16:=by omega
   simp[Ck,-List.getD_eq_getElem?_getD,-List.map_map,f116,Jw,he,h2,hl,hl']
def B3f (a b:Int):Int:=if a<b then -1 else if b<a then 1 else 0
def B3g (x y:Bl):Int:=if Op.bytesLess x y=true then -1 else if(!(Op.bytesLess x y||decide (x=y)))=true then 1 else 0
def orV (a b:Int):Int:=if a=0 then b else a
theorem Btp (H:Hp) (a b:Ev.Obj):Du (Bt (Bt H a) b) (Bc H)=H:=by simp[Du,Bt,Bc]
def Qa (x y:Bl) (a b:Int):Bool:=decide (a<b) || (decide (a=b) &&Op.bytesLess x y)
theorem Bxw (H:Hp) (x y:Bl) (a b:Int):ev R 130 [.d (.agg [.str x, .int .i64 a]), .d (.agg [.str y, .int .i64 b])] H=some (.d (.bool (Qa x y a b)),H):=by
 refine Bo (fn:=f130) rfl rfl ?_
 unfold Qa
 by_cases c1:a<b
 ·simp[Ck,-List.getD_eq_getElem?_getD,-List.map_map,f130,Cf,Gh,Ct,Bka,Bkb,c1,Btp]
 ·by_cases c2:a=b
  ·simp[Ck,-List.getD_eq_getElem?_getD,-List.map_map,f130,Cf,Gh,Ct,Bka,Bkb,c1,c2,Btp]
  ·simp[Ck,-List.getD_eq_getElem?_getD,-List.map_map,f130,Cf,Gh,Ct,Bka,Bkb,c1,c2,Btp]
def Ps (xs:List Sc) (x:Bl) (i:Nat):Bool:=decide ((xs.getD i ([],0)).1=x)
def Bzb (xs:List Sc) (x:Bl):Int:=match Dy (Ps xs x) xs.length 0 with|some j=>j|none=> -1
theorem Bvr (xs:List Sc) (i:Nat) (hi:i<xs.length):decide (¬Bzb xs (xs.getD i ([],0)).1=(i:Int))=Jb (Ps xs (xs.getD i ([],0)).1) i 0:=by
 have anyT: ∀ (p:Nat→Bool) (n k:Nat),Jb p n k=true↔∃j,k≤j∧j<k+n∧p j=true:=by
  intro p n
  induction n with
  |zero=>intro k;simp[Jb];intro j h1 h2;omega
  |succ n ih=>
   intro k
   simp only[Jb,Bool.or_eq_true,ih (k+1)]
   constructor
   ·rintro(h| ⟨j,h1,h2,h3⟩)
    ·exact⟨k,Nat.le_refl _,by omega,h⟩
    ·exact⟨j,by omega,by omega,h3⟩
   ·rintro⟨j,h1,h2,h3⟩
    by_cases e:j=k
    ·subst e;exact .inl h3
    ·exact .inr ⟨j,by omega,by omega,h3⟩
 have self:Ps xs (xs.getD i ([],0)).1 i=true:=by simp[Ps]
 generalize(xs.getD i ([],0)).1=x at*
 unfold Bzb
 cases hr:Dy (Ps xs x) xs.length 0 with
 |none=>
  have:=Qy hr i (by omega) (by omega)
  rw[self] at this;simp at this
 |some j=>
  obtain⟨h1,h2,h3,h4⟩:=Un hr
  have hji:j≤i:=by
   refine Nat.le_of_not_lt fun h=> ?_
   have:=h4 i (by omega) h
   rw[self] at this;simp at this
  simp only
  cases hb:Jb (Ps xs x) i 0 with
  |true=>
   obtain⟨k,k1,k2,k3⟩:=(anyT _ _ _).1 hb
   have hk: ¬k<j:=fun h=>by
    have:=h4 k (by omega) h
    rw[k3] at this;simp at this
   simp;omega
  |false=>
   have: ¬j<i:=fun h=>by
    have:=(anyT (Ps xs x) i 0).2 ⟨j,by omega,by omega,h3⟩
    rw[hb] at this;simp at this
   simp;omega
def Xc (xs:List Sc) (i:Nat):Bool:=decide (40< (xs.getD i ([],0)).1.length) || !(decide ((xs.getD i ([],0)).2≥ -1000000000) &&decide ((xs.getD i ([],0)).2≤1000000000)) ||
 (decide (0<i) && !Qa (xs.getD (i - 1) ([],0)).1 (xs.getD i ([],0)).1 (xs.getD (i - 1) ([],0)).2 (xs.getD i ([],0)).2) ||Jb (Ps xs (xs.getD i ([],0)).1) i 0
theorem Brq (n0:Nat) (xs:List Sc) (hx:xs.length≤9223372036854775807) (i:Nat) (hi:i<xs.length) (H:Hp): ∀ (n k:Nat) (e:Env),k+n=i→e.get 0= .d (Fw xs)→e.get 3= .d (.int .i64 i)→e.get 4= .d (.int .i64 k)→
  ∃e',Bg (Bp (ev R) R.glob n0 Bg Yz) [0,3,4] ⟨e,H⟩=some ((bif Jb (Ps xs (xs.getD i ([],0)).1) n k then .ret else .exit 2),⟨e',H⟩)∧
   (Jb (Ps xs (xs.getD i ([],0)).1) n k=true→e'.get 2= .d (.bool false))∧(Jb (Ps xs (xs.getD i ([],0)).1) n k=false→e'.get 0= .d (Fw xs)∧e'.get 3= .d (.int .i64 i))
 |0,k,e,h1,g0,g3,g4=>by
  have c: ¬ (k:Int)< (i:Int):=by omega
  have c': ¬k<i:=by omega
  rw[Bw]
  simp only[Jb]
  refine⟨?_, ?_, ?_, ?_⟩
  rotate_left
  ·simp[Ck,-List.getD_eq_getElem?_getD,-List.map_map,Yz,g0,g3,g4,Fw,c,c']
   try rfl
  ·intro h;simp at h
  ·intro _;simp[Ck,-List.getD_eq_getElem?_getD,-List.map_map,g0,g3,Fw]
 |n+1,k,e,h1,g0,g3,g4=>by
  have c: (k:Int)< (i:Int):=by omega
  have c':k<i:=by omega
  have ga:=Ba5 xs i hi
  have gb:=Ba5 xs k (by omega)
  have ck: (k:Int)< (xs.length:Int):=by omega
  have ci: (i:Int)< (xs.length:Int):=by omega
  have ck':k<xs.length:=by omega
  have hp:Ps xs (xs.getD i ([],0)).1 k=decide ((xs.getD k ([],0)).1=(xs.getD i ([],0)).1):=rfl
  have w1:IntKind.i64.wrap ((k:Int)+1)=((k+1:Nat):Int):=by rw[IntWalk.i64_in _ (by omega)];rfl
  have ih:=Brq n0 xs hx i hi H n (k+1)
  simp only[Jb]
  rw[hp]
  generalize Jb (Ps xs (xs.getD i ([],0)).1) n (k+1)=S at*
  generalize(xs.getD i ([],0))=x at*
  generalize(xs.getD k ([],0))=y at*
  rw[Bw]
  generalize Bg (Bp (ev R) R.glob n0 Bg Yz) [0,3,4]=F at ih⊢
  by_cases hb:y.1=x.1
  ·simp only[hb,decide_true,Bool.true_or,cond_true]
   refine⟨?_, ?_, ?_, ?_⟩
   rotate_left
   ·simp[Ck,-List.getD_eq_getElem?_getD,-List.map_map,Yz,g0,g3,g4,Fw,c,c',ck,ci,ck',hi,ga,gb,hb]
    try rfl
   ·intro _;simp[Ck,-List.getD_eq_getElem?_getD,-List.map_map]
   ·intro h;simp at h
  ·simp only[hb,decide_false,Bool.false_or]
   simp[Ck,-List.getD_eq_getElem?_getD,-List.map_map,Yz,g0,g3,g4,Fw,c,c',ck,ci,ck',hi,ga,gb,hb,w1]
   refine ih _ (by omega) ?_ ?_ ?_<;> (first|rfl|exact g3)
def Fe (xs:List Sc):Bool:= !Jb (Xc xs) xs.length 0&&decide (xs.length≤16)
theorem Bx2 (n0:Nat) (xs:List Sc) (hx:xs.length≤9223372036854775807) (H:Hp): ∀ (n i:Nat) (e:Env),i+n=xs.length→e.get 0= .d (Fw xs)→e.get 3= .d (.int .i64 i)→
  ∃e',Bg (Bp (ev R) R.glob n0 Bg Pe) [0,3] ⟨e,H⟩=some ((bif Jb (Xc xs) n i then .ret else .exit 0),⟨e',H⟩)∧
   (Jb (Xc xs) n i=true→e'.get 2= .d (.bool false))∧(Jb (Xc xs) n i=false→e'.get 0= .d (Fw xs))
 |0,i,e,h1,g0,g3=>by
  have c: ¬ (i:Int)< (xs.length:Int):=by omega
  have c': ¬i<xs.length:=by omega
  rw[Bw]
  simp only[Jb]
  refine⟨?_, ?_, ?_, ?_⟩
  rotate_left
  ·simp[Ck,-List.getD_eq_getElem?_getD,-List.map_map,Pe,g0,g3,Fw,c,c']
   try rfl
  ·intro h;simp at h
  ·intro _;simp[Ck,-List.getD_eq_getElem?_getD,-List.map_map,g0,Fw]
 |n+1,i,e,h1,g0,g3=>by
  have c':i<xs.length:=by omega
  have ga:=Ba5 xs i c'
  have gb:=Ba5 xs (i - 1) (by omega)
  have hp:Xc xs i=(decide (40< (xs.getD i ([],0)).1.length) || !(decide ((xs.getD i ([],0)).2≥ -1000000000) &&decide ((xs.getD i ([],0)).2≤1000000000)) || (decide (0<i) && !Qa (xs.getD (i - 1) ([],0)).1 (xs.getD i ([],0)).1 (xs.getD (i - 1) ([],0)).2 (xs.getD i ([],0)).2) ||Jb (Ps xs (xs.getD i ([],0)).1) i 0):=rfl
  have sn:=Bvr xs i c'
  have q30:=Pi (xs.getD i ([],0)).2 (-1000000000) 1000000000
  have q98:=Bb (cl:=ev R) fun H=>Bxw H (xs.getD (i - 1) ([],0)).1 (xs.getD i ([],0)).1 (xs.getD (i - 1) ([],0)).2 (xs.getD i ([],0)).2
  obtain⟨ei,hin,hi2,hi3⟩:=Brq n0 xs hx i c' H i 0 [(0, .d (Fw xs)),(3, .d (.int .i64 i)),(4, .d (.int .i64 0))] (by omega) rfl rfl rfl
  simp only[Fw] at hin hi3
  obtain⟨I,hI⟩: ∃I:Int,(i:Int)=I:=⟨_,rfl⟩
  obtain⟨I2,hI2⟩: ∃I:Int,((i+1:Nat):Int)=I:=⟨_,rfl⟩
  obtain⟨J,hJ⟩: ∃I:Int,((i - 1:Nat):Int)=I:=⟨_,rfl⟩
  have w1:IntKind.i64.wrap (I+1)=I2:=by rw[IntWalk.i64_in _ (by omega)];omega
  have c:I< (xs.length:Int):=by omega
  have cj:J< (xs.length:Int):=by omega
  have p0:0≤I:=by omega
  have pj:0≤J:=by omega
  have t0:I.toNat=i:=by omega
  have tj:J.toNat=i - 1:=by omega
  have hk:i+1+n=xs.length:=by omega
  have w0:0<i→IntKind.i64.wrap (I - 1)=J:=fun _=>by rw[IntWalk.i64_in _ (by omega)];omega
  have z0:0<i→0<I:=fun _=>by omega
  have z1: ¬0<i→¬0<I:=fun _=>by omega
  have ih:=Bx2 n0 xs hx H n (i+1)
  rw[hI] at g3 sn hin hi3
  rw[hI2] at ih
  simp only[Jb]
  generalize Xc xs i=b at*
  generalize Jb (Xc xs) n (i+1)=S at*
  generalize Jb (Ps xs (xs.getD i ([],0)).1) i 0=tw at*
  generalize xs.getD i ([],0)=x at*
  generalize xs.getD (i - 1) ([],0)=y at*
  obtain⟨x1,x2⟩:=x
  obtain⟨y1,y2⟩:=y
  simp only at*
  generalize Qa y1 x1 y2 x2=ah at*
  generalize orV (B3f y2 x2) (B3g y1 x1)=od at*
  generalize Bzb xs x1=sa at*
  rw[Bw]
  generalize Bg (Bp (ev R) R.glob n0 Bg Pe) [0,3]=F at ih⊢
  by_cases k1:40<x1.length
  ·have k1': (40:Int)< (x1.length:Int):=by omega
   simp only[k1,decide_true,Bool.true_or] at hp
   subst hp
   simp only[Bool.true_or,cond_true]
   refine⟨?_, ?_, ?_, ?_⟩
   rotate_left
   ·simp[Ck,-List.getD_eq_getElem?_getD,-List.map_map,Pe,g0,g3,Fw,c,cj,p0,pj,t0,tj,ga,gb,q30,q98,k1,k1']
    try rfl
   ·intro _;simp[Ck,-List.getD_eq_getElem?_getD,-List.map_map]
   ·intro h;simp at h
  ·have k1': ¬ (40:Int)< (x1.length:Int):=by omega
   cases k2: (decide (x2≥ -1000000000) &&decide (x2≤1000000000)) with
   |false=>
    rw[k2] at q30
    simp only[k1,k2,decide_false,Bool.false_or,Bool.not_false,Bool.true_or] at hp
    subst hp
    simp only[Bool.true_or,cond_true]
    refine⟨?_, ?_, ?_, ?_⟩
    rotate_left
    ·simp[Ck,-List.getD_eq_getElem?_getD,-List.map_map,Pe,g0,g3,Fw,c,cj,p0,pj,t0,tj,ga,gb,q30,q98,k1,k1']
     try rfl
    ·intro _;simp[Ck,-List.getD_eq_getElem?_getD,-List.map_map]
    ·intro h;simp at h
   |true=>
    rw[k2] at q30
    by_cases k3:0<i
    ·have w0:=w0 k3
     have z0:=z0 k3
     cases ah with
     |false=>
      simp only[k1,k2,k3,decide_true,decide_false,Bool.false_or,Bool.not_true,Bool.not_false,Bool.true_and,Bool.true_or] at hp
      subst hp
      simp only[Bool.true_or,cond_true]
      refine⟨?_, ?_, ?_, ?_⟩
      rotate_left
      ·simp[Ck,-List.getD_eq_getElem?_getD,-List.map_map,Pe,g0,g3,Fw,c,cj,p0,pj,t0,tj,ga,gb,q30,q98,k1,k1',z0,w0]
       try rfl
      ·intro _;simp[Ck,-List.getD_eq_getElem?_getD,-List.map_map]
      ·intro h;simp at h
     |true=>
      cases tw with
      |true=>
       simp only[cond_true] at hin
       have hi2:=hi2 rfl
       simp only[k1,k2,k3,decide_true,decide_false,Bool.false_or,Bool.not_true,Bool.true_and,Bool.or_true] at hp
       subst hp
       simp only[Bool.true_or,cond_true]
       refine⟨?_, ?_, ?_, ?_⟩
       rotate_left
       ·simp[Ck,-List.getD_eq_getElem?_getD,-List.map_map,Pe,g0,g3,Fw,c,cj,p0,pj,t0,tj,ga,gb,q30,q98,k1,k1',z0,w0,hin]
        try rfl
       ·intro _;simp[Ck,-List.getD_eq_getElem?_getD,-List.map_map,hi2]
       ·intro h;simp at h
      |false=>
       simp only[cond_false] at hin
       obtain⟨hi3,hi4⟩:=hi3 rfl
       simp only[k1,k2,k3,decide_true,decide_false,Bool.false_or,Bool.not_true,Bool.true_and,Bool.or_false] at hp
       subst hp
       simp only[Bool.false_or]
       simp[Ck,-List.getD_eq_getElem?_getD,-List.map_map,Pe,g0,g3,Fw,c,cj,p0,pj,t0,tj,ga,gb,q30,q98,w1,k1,k1',z0,w0,hin,hi3,hi4]
       refine ih _ hk ?_ ?_<;> (first|rfl|assumption)
    ·have z1:=z1 k3
     cases tw with
     |true=>
      simp only[cond_true] at hin
      have hi2:=hi2 rfl
      simp only[k1,k2,k3,decide_false,Bool.false_or,Bool.not_true,Bool.false_and,Bool.or_true] at hp
      subst hp
      simp only[Bool.true_or,cond_true]
      refine⟨?_, ?_, ?_, ?_⟩
      rotate_left
      ·simp[Ck,-List.getD_eq_getElem?_getD,-List.map_map,Pe,g0,g3,Fw,c,cj,p0,pj,t0,tj,ga,gb,q30,q98,k1,k1',z1,hin]
       try rfl
      ·intro _;simp[Ck,-List.getD_eq_getElem?_getD,-List.map_map,hi2]
      ·intro h;simp at h
     |false=>
      simp only[cond_false] at hin
      obtain⟨hi3,hi4⟩:=hi3 rfl
      simp only[k1,k2,k3,decide_false,Bool.false_or,Bool.not_true,Bool.false_and,Bool.or_false] at hp
      subst hp
      simp only[Bool.false_or]
      simp[Ck,-List.getD_eq_getElem?_getD,-List.map_map,Pe,g0,g3,Fw,c,cj,p0,pj,t0,tj,ga,gb,q30,q98,w1,k1,k1',z1,hin,hi3,hi4]
      refine ih _ hk ?_ ?_<;> (first|rfl|assumption)
theorem Zo (H:Hp) (xs:List Sc) (hx:xs.length≤9223372036854775807):ev R 115 [.d (Fw xs)] H=some (.d (.bool (Fe xs)),H):=by
 refine Bo (fn:=f115) rfl rfl ?_
 obtain⟨e',he,h1,h2⟩:=Bx2 (Bc H) xs hx H xs.length 0 [(0, .d (Fw xs)),(3, .d (.int .i64 0))] (by omega) rfl rfl
 unfold Fe
 simp only[Fw] at he h2
 cases hb:Jb (Xc xs) xs.length 0 with
 |true=>
  have h1:=h1 hb
  simp only[hb,cond_true] at he
  simp[Ck,-List.getD_eq_getElem?_getD,-List.map_map,f115,Fw,he,h1]
 |false=>
  have h2:=h2 hb
  simp only[hb,cond_false] at he
  by_cases hl:xs.length≤16
  ·have hl': (xs.length:Int)≤16:=by omega
   simp[Ck,-List.getD_eq_getElem?_getD,-List.map_map,f115,Fw,he,h2,hl,hl']
  ·have hl': ¬ (xs.length:Int)≤16:=by omega
   simp[Ck,-List.getD_eq_getElem?_getD,-List.map_map,f115,Fw,he,h2,hl,hl']
end Go.Proofs.YtedlandcnpjghaaGreatDoor.Code

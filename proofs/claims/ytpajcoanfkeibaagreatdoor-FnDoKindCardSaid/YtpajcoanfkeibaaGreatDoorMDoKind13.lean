/- Lemmas (several texts in one). -/
import Derived.Test.YtpajcoanfkeibaaGreatDoorMDoKind6
import Derived.Test.YtpajcoanfkeibaaGreatDoorMDoKind12
set_option maxRecDepth 100000
set_option linter.unusedSimpArgs false
set_option linter.unusedVariables false
open List renaming getD_eq_getElem?_getD → Cda, map_map → Cdb
open Bool renaming true_or → Cd1, false_or → Cdx
namespace Go.Proofs.YtpajcoanfkeibaaGreatDoor.Code
open Go Go.Ev Go.Proofs
theorem B2y (H:Hp) (a:Int):ev R 174 [.d (.int .i64 a)] H=some (.d (.bool (decide (a≥ -1000000000) &&decide (a≤1000000000))),H):=by
 refine Bh (fn:=f174) rfl rfl ?_
 have p:=Bck a (-1000000000) 1000000000
 simp[Cm,-Cda,-Cdb,f174,p]
def Nj (xs:List Sc) (i:Nat):Bool:=decide (40< (xs.getD i ([],0)).1.length) || !(decide ((xs.getD i ([],0)).2≥ -1000000000) &&decide ((xs.getD i ([],0)).2≤1000000000)) ||
 (decide (0<i) && !Lj (xs.getD (i - 1) ([],0)).1 (xs.getD i ([],0)).1 (xs.getD (i - 1) ([],0)).2 (xs.getD i ([],0)).2) ||D9 (K3 xs (xs.getD i ([],0)).1) i 0
theorem Bz2 (n0:Nat) (xs:List Sc) (hx:xs.length≤9223372036854775807) (i:Nat) (hi:i<xs.length) (H:Hp): ∀ (n k:Nat) (e:Env),k+n=i→e.get 0= .d (De xs)→e.get 3= .d (.int .i64 i)→e.get 4= .d (.int .i64 k)→
  ∃e',Bg (Bq (ev R) R.glob n0 Bg Bd8) [0,3,4] ⟨e,H⟩=some ((bif D9 (K3 xs (xs.getD i ([],0)).1) n k then .ret else .exit 2),⟨e',H⟩)∧
   (D9 (K3 xs (xs.getD i ([],0)).1) n k=true→e'.get 2= .d (.bool false))∧(D9 (K3 xs (xs.getD i ([],0)).1) n k=false→e'.get 0= .d (De xs)∧e'.get 3= .d (.int .i64 i))
 |0,k,e,h1,g0,g3,g4=>by
  have c: ¬ (k:Int)< (i:Int):=by omega
  have c': ¬k<i:=by omega
  rw[Bv]
  simp only[D9]
  refine⟨?_, ?_, ?_, ?_⟩
  rotate_left
  ·simp[Cm,-Cda,-Cdb,Bd8,g0,g3,g4,De,c,c']
   try rfl
  ·intro h;simp at h
  ·intro _;simp[Cm,-Cda,-Cdb,g0,g3,De]
 |n+1,k,e,h1,g0,g3,g4=>by
  have c: (k:Int)< (i:Int):=by omega
  have c':k<i:=by omega
  have ga:=P7 xs i hi
  have gb:=P7 xs k (by omega)
  have ck: (k:Int)< (xs.length:Int):=by omega
  have ci: (i:Int)< (xs.length:Int):=by omega
  have ck':k<xs.length:=by omega
  have hp:K3 xs (xs.getD i ([],0)).1 k=decide ((xs.getD k ([],0)).1=(xs.getD i ([],0)).1):=rfl
  have w1:IntKind.i64.wrap ((k:Int)+1)=((k+1:Nat):Int):=by rw[IntWalk.i64_in _ (by omega)];rfl
  have ih:=Bz2 n0 xs hx i hi H n (k+1)
  simp only[D9]
  rw[hp]
  generalize D9 (K3 xs (xs.getD i ([],0)).1) n (k+1)=S at*
  generalize(xs.getD i ([],0))=x at*
  generalize(xs.getD k ([],0))=y at*
  rw[Bv]
  generalize Bg (Bq (ev R) R.glob n0 Bg Bd8) [0,3,4]=F at ih⊢
  by_cases hb:y.1=x.1
  ·simp only[hb,decide_true,Cd1,cond_true]
   refine⟨?_, ?_, ?_, ?_⟩
   rotate_left
   ·simp[Cm,-Cda,-Cdb,Bd8,g0,g3,g4,De,c,c',ck,ci,ck',hi,ga,gb,hb]
    try rfl
   ·intro _;simp[Cm,-Cda,-Cdb]
   ·intro h;simp at h
  ·simp only[hb,decide_false,Cdx]
   simp[Cm,-Cda,-Cdb,Bd8,g0,g3,g4,De,c,c',ck,ci,ck',hi,ga,gb,hb,w1]
   refine ih _ (by omega) ?_ ?_ ?_<;> (first|rfl|exact g3)
def Dj (xs:List Sc):Bool:= !D9 (Nj xs) xs.length 0&&decide (xs.length≤16)
theorem B3r (n0:Nat) (xs:List Sc) (hx:xs.length≤9223372036854775807) (H:Hp): ∀ (n i:Nat) (e:Env),i+n=xs.length→e.get 0= .d (De xs)→e.get 3= .d (.int .i64 i)→
  ∃e',Bg (Bq (ev R) R.glob n0 Bg Sv) [0,3] ⟨e,H⟩=some ((bif D9 (Nj xs) n i then .ret else .exit 0),⟨e',H⟩)∧
   (D9 (Nj xs) n i=true→e'.get 2= .d (.bool false))∧(D9 (Nj xs) n i=false→e'.get 0= .d (De xs))
 |0,i,e,h1,g0,g3=>by
  have c: ¬ (i:Int)< (xs.length:Int):=by omega
  have c': ¬i<xs.length:=by omega
  rw[Bv]
  simp only[D9]
  refine⟨?_, ?_, ?_, ?_⟩
  rotate_left
  ·simp[Cm,-Cda,-Cdb,Sv,g0,g3,De,c,c']
   try rfl
  ·intro h;simp at h
  ·intro _;simp[Cm,-Cda,-Cdb,g0,De]
 |n+1,i,e,h1,g0,g3=>by
  have c':i<xs.length:=by omega
  have ga:=P7 xs i c'
  have gb:=P7 xs (i - 1) (by omega)
  have hp:Nj xs i=(decide (40< (xs.getD i ([],0)).1.length) || !(decide ((xs.getD i ([],0)).2≥ -1000000000) &&decide ((xs.getD i ([],0)).2≤1000000000)) || (decide (0<i) && !Lj (xs.getD (i - 1) ([],0)).1 (xs.getD i ([],0)).1 (xs.getD (i - 1) ([],0)).2 (xs.getD i ([],0)).2) ||D9 (K3 xs (xs.getD i ([],0)).1) i 0):=rfl
  have sn:=Bn0 xs i c'
  have q30:=Pt (xs.getD i ([],0)).2 (-1000000000) 1000000000
  have q98:=Bb (cl:=ev R) fun H=>Br8 H (xs.getD (i - 1) ([],0)).1 (xs.getD i ([],0)).1 (xs.getD (i - 1) ([],0)).2 (xs.getD i ([],0)).2
  obtain⟨ei,hin,hi2,hi3⟩:=Bz2 n0 xs hx i c' H i 0 [(0, .d (De xs)),(3, .d (.int .i64 i)),(4, .d (.int .i64 0))] (by omega) rfl rfl rfl
  simp only[De] at hin hi3
  obtain⟨I,hI⟩: ∃I:Int,(i:Int)=I:=⟨_,rfl⟩
  obtain⟨I2,hI2⟩: ∃I:Int,((i+1:Nat):Int)=I:=⟨_,rfl⟩
  obtain⟨J,hJ⟩: ∃I:Int,((i - 1:Nat):Int)=I:=⟨_,rfl⟩
  have w1:IntKind.i64.wrap (I+1)=I2:=by rw[IntWalk.i64_in _ (by omega)];omega
  have c:I< (xs.length:Int):=by omega
  have cj:J< (xs.length:Int):=by omega
  have p0:0≤I:=by omega
  have pj:0≤J:=by omega
  have t0:I.toNat=i:=by omega
  have tj:J.toNat=i - 1:=by omega
  have hk:i+1+n=xs.length:=by omega
  have w0:0<i→IntKind.i64.wrap (I - 1)=J:=fun _=>by rw[IntWalk.i64_in _ (by omega)];omega
  have z0:0<i→0<I:=fun _=>by omega
  have z1: ¬0<i→¬0<I:=fun _=>by omega
  have ih:=B3r n0 xs hx H n (i+1)
  rw[hI] at g3 sn hin hi3
  rw[hI2] at ih
  simp only[D9]
  generalize Nj xs i=b at*
  generalize D9 (Nj xs) n (i+1)=S at*
  generalize D9 (K3 xs (xs.getD i ([],0)).1) i 0=tw at*
  generalize xs.getD i ([],0)=x at*
  generalize xs.getD (i - 1) ([],0)=y at*
  obtain⟨x1,x2⟩:=x
  obtain⟨y1,y2⟩:=y
  simp only at*
  generalize Lj y1 x1 y2 x2=ah at*
  generalize orV (Bg6 y2 x2) (Bg7 y1 x1)=od at*
  generalize Bl5 xs x1=sa at*
  rw[Bv]
  generalize Bg (Bq (ev R) R.glob n0 Bg Sv) [0,3]=F at ih⊢
  by_cases k1:40<x1.length
  ·have k1': (40:Int)< (x1.length:Int):=by omega
   simp only[k1,decide_true,Cd1] at hp
   subst hp
   simp only[Cd1,cond_true]
   refine⟨?_, ?_, ?_, ?_⟩
   rotate_left
   ·simp[Cm,-Cda,-Cdb,Sv,g0,g3,De,c,cj,p0,pj,t0,tj,ga,gb,q30,q98,k1,k1']
    try rfl
   ·intro _;simp[Cm,-Cda,-Cdb]
   ·intro h;simp at h
  ·have k1': ¬ (40:Int)< (x1.length:Int):=by omega
   cases k2: (decide (x2≥ -1000000000) &&decide (x2≤1000000000)) with
   |false=>
    rw[k2] at q30
    simp only[k1,k2,decide_false,Cdx,Bool.not_false,Cd1] at hp
    subst hp
    simp only[Cd1,cond_true]
    refine⟨?_, ?_, ?_, ?_⟩
    rotate_left
    ·simp[Cm,-Cda,-Cdb,Sv,g0,g3,De,c,cj,p0,pj,t0,tj,ga,gb,q30,q98,k1,k1']
     try rfl
    ·intro _;simp[Cm,-Cda,-Cdb]
    ·intro h;simp at h
   |true=>
    rw[k2] at q30
    by_cases k3:0<i
    ·have w0:=w0 k3
     have z0:=z0 k3
     cases ah with
     |false=>
      simp only[k1,k2,k3,decide_true,decide_false,Cdx,Bool.not_true,Bool.not_false,Bool.true_and,Cd1] at hp
      subst hp
      simp only[Cd1,cond_true]
      refine⟨?_, ?_, ?_, ?_⟩
      rotate_left
      ·simp[Cm,-Cda,-Cdb,Sv,g0,g3,De,c,cj,p0,pj,t0,tj,ga,gb,q30,q98,k1,k1',z0,w0]
       try rfl
      ·intro _;simp[Cm,-Cda,-Cdb]
      ·intro h;simp at h
     |true=>
      cases tw with
      |true=>
       simp only[cond_true] at hin
       have hi2:=hi2 rfl
       simp only[k1,k2,k3,decide_true,decide_false,Cdx,Bool.not_true,Bool.true_and,Bool.or_true] at hp
       subst hp
       simp only[Cd1,cond_true]
       refine⟨?_, ?_, ?_, ?_⟩
       rotate_left
       ·simp[Cm,-Cda,-Cdb,Sv,g0,g3,De,c,cj,p0,pj,t0,tj,ga,gb,q30,q98,k1,k1',z0,w0,hin]
        try rfl
       ·intro _;simp[Cm,-Cda,-Cdb,hi2]
       ·intro h;simp at h
      |false=>
       simp only[cond_false] at hin
       obtain⟨hi3,hi4⟩:=hi3 rfl
       simp only[k1,k2,k3,decide_true,decide_false,Cdx,Bool.not_true,Bool.true_and,Bool.or_false] at hp
       subst hp
       simp only[Cdx]
       simp[Cm,-Cda,-Cdb,Sv,g0,g3,De,c,cj,p0,pj,t0,tj,ga,gb,q30,q98,w1,k1,k1',z0,w0,hin,hi3,hi4]
       refine ih _ hk ?_ ?_<;> (first|rfl|assumption)
    ·have z1:=z1 k3
     cases tw with
     |true=>
      simp only[cond_true] at hin
      have hi2:=hi2 rfl
      simp only[k1,k2,k3,decide_false,Cdx,Bool.not_true,Bool.false_and,Bool.or_true] at hp
      subst hp
      simp only[Cd1,cond_true]
      refine⟨?_, ?_, ?_, ?_⟩
      rotate_left
      ·simp[Cm,-Cda,-Cdb,Sv,g0,g3,De,c,cj,p0,pj,t0,tj,ga,gb,q30,q98,k1,k1',z1,hin]
       try rfl
      ·intro _;simp[Cm,-Cda,-Cdb,hi2]
      ·intro h;simp at h
     |false=>
      simp only[cond_false] at hin
      obtain⟨hi3,hi4⟩:=hi3 rfl
      simp only[k1,k2,k3,decide_false,Cdx,Bool.not_true,Bool.false_and,Bool.or_false] at hp
      subst hp
      simp only[Cdx]
      simp[Cm,-Cda,-Cdb,Sv,g0,g3,De,c,cj,p0,pj,t0,tj,ga,gb,q30,q98,w1,k1,k1',z1,hin,hi3,hi4]
      refine ih _ hk ?_ ?_<;> (first|rfl|assumption)
theorem Bhi (H:Hp) (xs:List Sc) (hx:xs.length≤9223372036854775807):ev R 62 [.d (De xs)] H=some (.d (.bool (Dj xs)),H):=by
 refine Bh (fn:=f62) rfl rfl ?_
 obtain⟨e',he,h1,h2⟩:=B3r (Bc H) xs hx H xs.length 0 [(0, .d (De xs)),(3, .d (.int .i64 0))] (by omega) rfl rfl
 unfold Dj
 simp only[De] at he h2
 cases hb:D9 (Nj xs) xs.length 0 with
 |true=>
  have h1:=h1 hb
  simp only[hb,cond_true] at he
  simp[Cm,-Cda,-Cdb,f62,De,he,h1]
 |false=>
  have h2:=h2 hb
  simp only[hb,cond_false] at he
  by_cases hl:xs.length≤16
  ·have hl': (xs.length:Int)≤16:=by omega
   simp[Cm,-Cda,-Cdb,f62,De,he,h2,hl,hl']
  ·have hl': ¬ (xs.length:Int)≤16:=by omega
   simp[Cm,-Cda,-Cdb,f62,De,he,h2,hl,hl']
theorem B3u (n0:Nat) (xs:List Sc) (hx:xs.length≤9223372036854775807) (H:Hp): ∀ (n i:Nat) (X:Hp) (e:Env),i+n=xs.length→Cx X (Bc H)=H→Bc H≤Bc X→e.get 0= .d (De xs)→e.get 5= .d (De xs)→e.get 6= .d (.int .i64 xs.length)→e.get 7= .d (.int .i64 i)→
  ∃e' X',Bg (Bq (ev R) R.glob n0 Bg Sw) [0,5,6,7] ⟨e,X⟩=some ((bif D9 (Nj xs) n i then .ret else .exit 0),⟨e',X'⟩)∧
   (D9 (Nj xs) n i=true→e'.get 2= .d (.bool false))∧(D9 (Nj xs) n i=false→e'.get 0= .d (De xs))∧Cx X' (Bc H)=H
 |0,i,X,e,h1,hx1,hx2,g0,g5,g6,g3=>by
  have c: ¬ (i:Int)< (xs.length:Int):=by omega
  have c': ¬i<xs.length:=by omega
  rw[Bv]
  simp only[D9]
  refine⟨?_,X, ?_, ?_, ?_, ?_⟩
  rotate_left
  ·simp[Cm,-Cda,-Cdb,Sw,g0,g5,g6,g3,De,c,c']
   try rfl
  ·intro h;simp at h
  ·intro _;simp[Cm,-Cda,-Cdb,g0,De]
  ·exact hx1
 |n+1,i,X,e,h1,hx1,hx2,g0,g5,g6,g3=>by
  have c':i<xs.length:=by omega
  have ga:=P7 xs i c'
  have gb:=P7 xs (i - 1) (by omega)
  have hp:Nj xs i=(decide (40< (xs.getD i ([],0)).1.length) || !(decide ((xs.getD i ([],0)).2≥ -1000000000) &&decide ((xs.getD i ([],0)).2≤1000000000)) || (decide (0<i) && !Lj (xs.getD (i - 1) ([],0)).1 (xs.getD i ([],0)).1 (xs.getD (i - 1) ([],0)).2 (xs.getD i ([],0)).2) ||D9 (K3 xs (xs.getD i ([],0)).1) i 0):=rfl
  have sn:=Bn0 xs i c'
  have q30:=Pt (xs.getD i ([],0)).2 (-1000000000) 1000000000
  have q99:=Bb (cl:=ev R) fun H=>B2y H (xs.getD i ([],0)).2
  have q98:=Bb (cl:=ev R) fun H=>Br8 H (xs.getD (i - 1) ([],0)).1 (xs.getD i ([],0)).1 (xs.getD (i - 1) ([],0)).2 (xs.getD i ([],0)).2
  have q100:=Bb (cl:=ev R) fun H=>B2z H (xs.getD (i - 1) ([],0)).1 (xs.getD i ([],0)).1 (xs.getD (i - 1) ([],0)).2 (xs.getD i ([],0)).2
  have oa:=Bh8 (xs.getD (i - 1) ([],0)).1 (xs.getD i ([],0)).1 (xs.getD (i - 1) ([],0)).2 (xs.getD i ([],0)).2
  have q101:=Bb (cl:=ev R) fun H=>B20 H xs hx (xs.getD i ([],0)).1
  simp only[De] at q101
  skip
  obtain⟨I,hI⟩: ∃I:Int,(i:Int)=I:=⟨_,rfl⟩
  obtain⟨I2,hI2⟩: ∃I:Int,((i+1:Nat):Int)=I:=⟨_,rfl⟩
  obtain⟨J,hJ⟩: ∃I:Int,((i - 1:Nat):Int)=I:=⟨_,rfl⟩
  have w1:IntKind.i64.wrap (I+1)=I2:=by rw[IntWalk.i64_in _ (by omega)];omega
  have c:I< (xs.length:Int):=by omega
  have cj:J< (xs.length:Int):=by omega
  have p0:0≤I:=by omega
  have pj:0≤J:=by omega
  have t0:I.toNat=i:=by omega
  have tj:J.toNat=i - 1:=by omega
  have hk:i+1+n=xs.length:=by omega
  have w0:0<i→IntKind.i64.wrap (I - 1)=J:=fun _=>by rw[IntWalk.i64_in _ (by omega)];omega
  have z0:0<i→0<I:=fun _=>by omega
  have z1: ¬0<i→¬0<I:=fun _=>by omega
  have ga': ∀z:D,Lr (Bp X (.row 0 2 [.d (.agg [.str [], .int .i64 0])])) (Bc X) 0 0 0 [.d (.str (xs.getD i ([],0)).1), .d (.int .i64 (xs.getD i ([],0)).2)]=some (Bp X (.row 0 2 [.d (.agg [.str (xs.getD i ([],0)).1, .int .i64 (xs.getD i ([],0)).2])])):=fun _=>by
   simp[Lr,Cy,V.cells,D.cells,Lh,V.isAgg,Mw,Gr,Qt]
  have st:=ga' .nilp
  have ld0:Dq (Bp X (.row 0 2 [.d (.agg [.str (xs.getD i ([],0)).1, .int .i64 (xs.getD i ([],0)).2])])) (Bc X) 0 0 0 1=some [.d (.str (xs.getD i ([],0)).1)]:=by simp[Dq,Cy,V.cells,D.cells]
  have ld1:Dq (Bp X (.row 0 2 [.d (.agg [.str (xs.getD i ([],0)).1, .int .i64 (xs.getD i ([],0)).2])])) (Bc X) 0 0 1 1=some [.d (.int .i64 (xs.getD i ([],0)).2)]:=by simp[Dq,Cy,V.cells,D.cells]
  have ld2:Dq (Bp X (.row 0 2 [.d (.agg [.str (xs.getD i ([],0)).1, .int .i64 (xs.getD i ([],0)).2])])) (Bc X) 0 0 0 2=some [.d (.str (xs.getD i ([],0)).1), .d (.int .i64 (xs.getD i ([],0)).2)]:=by simp[Dq,Cy,V.cells,D.cells]
  have tk:Cx (Bp X (.row 0 2 [.d (.agg [.str (xs.getD i ([],0)).1, .int .i64 (xs.getD i ([],0)).2])])) (Bc H)=H:=by rw[Bhy _ hx2];exact hx1
  have lk:Bc H≤Bc (Bp X (.row 0 2 [.d (.agg [.str (xs.getD i ([],0)).1, .int .i64 (xs.getD i ([],0)).2])])):=by rw[Cf];omega
  have ih:=B3u n0 xs hx H n (i+1) (Bp X (.row 0 2 [.d (.agg [.str (xs.getD i ([],0)).1, .int .i64 (xs.getD i ([],0)).2])]))
  generalize Bp X (.row 0 2 [.d (.agg [.str (xs.getD i ([],0)).1, .int .i64 (xs.getD i ([],0)).2])])=Y at*
  rw[hI] at g3 sn
  rw[hI2] at ih
  simp only[D9]
  generalize Nj xs i=b at*
  generalize D9 (Nj xs) n (i+1)=S at*
  generalize D9 (K3 xs (xs.getD i ([],0)).1) i 0=tw at*
  generalize xs.getD i ([],0)=x at*
  generalize xs.getD (i - 1) ([],0)=y at*
  obtain⟨x1,x2⟩:=x
  obtain⟨y1,y2⟩:=y
  simp only at*
  generalize Lj y1 x1 y2 x2=ah at*
  generalize orV (Bg6 y2 x2) (Bg7 y1 x1)=od at*
  generalize Bl5 xs x1=sa at*
  rw[Bv]
  generalize Bg (Bq (ev R) R.glob n0 Bg Sw) [0,5,6,7]=F at ih⊢
  by_cases k1:40<x1.length
  ·have k1': (40:Int)< (x1.length:Int):=by omega
   simp only[k1,decide_true,Cd1] at hp
   subst hp
   simp only[Cd1,cond_true]
   refine⟨?_,Y, ?_, ?_, ?_, ?_⟩
   rotate_left
   ·simp[Cm,-Cda,-Cdb,Sw,g0,g5,g6,g3,De,c,cj,p0,pj,t0,tj,ga,gb,st,ld0,ld1,ld2,q30,q99,q98,q100,q101,k1,k1']
    try rfl
   ·intro _;simp[Cm,-Cda,-Cdb]
   ·intro h;simp at h
   ·exact tk
  ·have k1': ¬ (40:Int)< (x1.length:Int):=by omega
   cases k2: (decide (x2≥ -1000000000) &&decide (x2≤1000000000)) with
   |false=>
    rw[k2] at q30 q99
    simp only[k1,k2,decide_false,Cdx,Bool.not_false,Cd1] at hp
    subst hp
    simp only[Cd1,cond_true]
    refine⟨?_,Y, ?_, ?_, ?_, ?_⟩
    rotate_left
    ·simp[Cm,-Cda,-Cdb,Sw,g0,g5,g6,g3,De,c,cj,p0,pj,t0,tj,ga,gb,st,ld0,ld1,ld2,q30,q99,q98,q100,q101,k1,k1']
     try rfl
    ·intro _;simp[Cm,-Cda,-Cdb]
    ·intro h;simp at h
    ·exact tk
   |true=>
    rw[k2] at q30 q99
    by_cases k3:0<i
    ·have w0:=w0 k3
     have z0:=z0 k3
     cases ah with
     |false=>
      have od1:0≤od:=by simpa using oa
      have od2: ¬od<0:=by omega
      simp only[k1,k2,k3,decide_true,decide_false,Cdx,Bool.not_true,Bool.not_false,Bool.true_and,Cd1] at hp
      subst hp
      simp only[Cd1,cond_true]
      refine⟨?_,Y, ?_, ?_, ?_, ?_⟩
      rotate_left
      ·simp[Cm,-Cda,-Cdb,Sw,g0,g5,g6,g3,De,c,cj,p0,pj,t0,tj,ga,gb,st,ld0,ld1,ld2,q30,q99,q98,q100,q101,k1,k1',z0,w0,od1,od2]
       try rfl
      ·intro _;simp[Cm,-Cda,-Cdb]
      ·intro h;simp at h
      ·exact tk
     |true=>
      have od1: ¬0≤od:=by simpa using oa
      have od2:od<0:=by omega
      cases tw with
      |true=>
       have sn: ¬sa=I:=by simpa using sn
       simp only[k1,k2,k3,decide_true,decide_false,Cdx,Bool.not_true,Bool.true_and,Bool.or_true] at hp
       subst hp
       simp only[Cd1,cond_true]
       refine⟨?_,Y, ?_, ?_, ?_, ?_⟩
       rotate_left
       ·simp[Cm,-Cda,-Cdb,Sw,g0,g5,g6,g3,De,c,cj,p0,pj,t0,tj,ga,gb,st,ld0,ld1,ld2,q30,q99,q98,q100,q101,k1,k1',z0,w0,od1,od2,sn]
        try rfl
       ·intro _;simp[Cm,-Cda,-Cdb]
       ·intro h;simp at h
       ·exact tk
      |false=>
       have sn:sa=I:=by simpa using sn
       simp only[k1,k2,k3,decide_true,decide_false,Cdx,Bool.not_true,Bool.true_and,Bool.or_false] at hp
       subst hp
       simp only[Cdx]
       simp[Cm,-Cda,-Cdb,Sw,g0,g5,g6,g3,De,c,cj,p0,pj,t0,tj,ga,gb,st,ld0,ld1,ld2,q30,q99,q98,q100,q101,w1,k1,k1',z0,w0,od1,od2,sn]
       refine ih _ hk tk lk ?_ ?_ ?_ ?_<;> (first|rfl|exact g6)
    ·have z1:=z1 k3
     cases tw with
     |true=>
      have sn: ¬sa=I:=by simpa using sn
      simp only[k1,k2,k3,decide_false,Cdx,Bool.not_true,Bool.false_and,Bool.or_true] at hp
      subst hp
      simp only[Cd1,cond_true]
      refine⟨?_,Y, ?_, ?_, ?_, ?_⟩
      rotate_left
      ·simp[Cm,-Cda,-Cdb,Sw,g0,g5,g6,g3,De,c,cj,p0,pj,t0,tj,ga,gb,st,ld0,ld1,ld2,q30,q99,q98,q100,q101,k1,k1',z1,sn]
       try rfl
      ·intro _;simp[Cm,-Cda,-Cdb]
      ·intro h;simp at h
      ·exact tk
     |false=>
      have sn:sa=I:=by simpa using sn
      simp only[k1,k2,k3,decide_false,Cdx,Bool.not_true,Bool.false_and,Bool.or_false] at hp
      subst hp
      simp only[Cdx]
      simp[Cm,-Cda,-Cdb,Sw,g0,g5,g6,g3,De,c,cj,p0,pj,t0,tj,ga,gb,st,ld0,ld1,ld2,q30,q99,q98,q100,q101,w1,k1,k1',z1,sn]
      refine ih _ hk tk lk ?_ ?_ ?_ ?_<;> (first|rfl|exact g6)
theorem Bkm (H:Hp) (xs:List Sc) (hx:xs.length≤9223372036854775807):ev R 71 [.d (De xs)] H=some (.d (.bool (Dj xs)),H):=by
 refine Bh (fn:=f71) rfl rfl ?_
 obtain⟨e',X',he,h1,h2,tk⟩:=B3u (Bc H) xs hx H xs.length 0 H [(0, .d (De xs)),(5, .d (De xs)),(6, .d (.int .i64 xs.length)),(7, .d (.int .i64 0))] (by omega) (J5 H) (Nat.le_refl _) rfl rfl rfl rfl
 unfold Dj
 simp only[De] at he h2
 cases hb:D9 (Nj xs) xs.length 0 with
 |true=>
  have h1:=h1 hb
  simp only[hb,cond_true] at he
  simp[Cm,-Cda,-Cdb,f71,De,he,h1,tk]
 |false=>
  have h2:=h2 hb
  simp only[hb,cond_false] at he
  by_cases hl:xs.length≤16
  ·have hl': (xs.length:Int)≤16:=by omega
   simp[Cm,-Cda,-Cdb,f71,De,he,h2,hl,hl',tk]
  ·have hl': ¬ (xs.length:Int)≤16:=by omega
   simp[Cm,-Cda,-Cdb,f71,De,he,h2,hl,hl',tk]
end Go.Proofs.YtpajcoanfkeibaaGreatDoor.Code

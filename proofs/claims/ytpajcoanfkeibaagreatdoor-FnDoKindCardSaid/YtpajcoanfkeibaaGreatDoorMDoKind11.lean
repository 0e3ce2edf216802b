/- Lemmas (several texts in one). -/
import Derived.Test.YtpajcoanfkeibaaGreatDoorMDoKind4
import Derived.Test.YtpajcoanfkeibaaGreatDoorMDoKind5
import Derived.Test.YtpajcoanfkeibaaGreatDoorMDoKind6
import Derived.Test.YtpajcoanfkeibaaGreatDoorMDoKind7
import Derived.Test.YtpajcoanfkeibaaGreatDoorMDoKind8
import Derived.Test.YtpajcoanfkeibaaGreatDoorMDoKind9
set_option maxRecDepth 100000
set_option linter.unusedSimpArgs false
set_option linter.unusedVariables false
set_option maxHeartbeats 2000000
open List renaming getD_eq_getElem?_getD → Cda, map_map → Cdb, getElem?_eq_getElem → Cdh
open Bool renaming true_or → Cd1, false_or → Cdx, and_eq_true → Cdv
open Option renaming getD_some → Cdu
namespace Go.Proofs.YtpajcoanfkeibaaGreatDoor.Code
open Go Go.Ev Go.Proofs
def J7 (xs:List Br) (i:Nat):Bool:=decide (40< (xs.getD i []).length)
def Ch (xs:List Br):Bool:=(Fv (J7 xs) xs.length 0).isNone&&decide (xs.length≤16)
theorem B3p (n0:Nat) (xs:List Br) (hx:xs.length≤9223372036854775807) (H:Hp): ∀ (n i:Nat) (e:Env),i+n=xs.length→e.get 0= .d (Bf xs)→e.get 3= .d (.int .i64 i)→
  ∃e',Bg (Bq (ev R) R.glob n0 Bg Bd6) [0,3] ⟨e,H⟩=some ((match Fv (J7 xs) n i with|some _=> .ret|none=> .exit 0),⟨e',H⟩)∧
   (∀j,Fv (J7 xs) n i=some j→e'.get 2= .d (.bool false))∧(Fv (J7 xs) n i=none→e'.get 0= .d (Bf xs))
 |0,i,e,hn,h0,h3=>by
  have c: ¬ (i:Int)< (xs.length:Int):=by omega
  have c': ¬i<xs.length:=by omega
  rw[Bv]
  refine⟨?_, ?_, ?_, ?_⟩
  rotate_left
  ·simp[Cm,-Cda,-Cdb,Bd6,h0,h3,Bf,c,c',Fv]
   rfl
  ·intro j hj;simp[Fv] at hj
  ·intro _
   try refine⟨?_, ?_⟩
   all_goals (first|trivial|simp[Cm,-Cda,-Cdb,h0,h3,Bf])
 |n+1,i,e,hn,h0,h3=>by
  have c: (i:Int)< (xs.length:Int):=by omega
  have c':i<xs.length:=by omega
  have g:=Dk xs i c'
  have w1:IntKind.i64.wrap ((i:Int)+1)=((i+1:Nat):Int):=by rw[IntWalk.i64_in _ (by omega)];rfl
  have ih:=B3p n0 xs hx H n (i+1)
  rw[Bv]
  generalize Bg (Bq (ev R) R.glob n0 Bg Bd6) [0,3]=F at ih⊢
  by_cases hb:40< (xs.getD i []).length
  ·have hb': (40:Int)< ((xs.getD i []).length:Int):=by omega
   refine⟨?_, ?_, ?_, ?_⟩
   rotate_left
   ·simp[Cm,-Cda,-Cdb,Bd6,h0,h3,Bf,c,c',g,hb,hb',Fv,J7]
    rfl
   ·intro j hj
    simp[Fv,J7,hb,-Cda] at hj
    try subst hj
    simp[Cm,-Cda,-Cdb]
   ·intro hj;simp[Fv,J7,hb,-Cda] at hj
  ·have hb': ¬ (40:Int)< ((xs.getD i []).length:Int):=by omega
   have hs:Fv (J7 xs) (n+1) i=Fv (J7 xs) n (i+1):=by simp[Fv,J7,hb,-Cda]
   rw[hs]
   simp[Cm,-Cda,-Cdb,Bd6,h0,h3,Bf,c,c',g,hb,hb',w1]
   refine ih _ (by omega) ?_ ?_<;>rfl
theorem B06 (n0:Nat) (xs:List Br) (hx:xs.length≤9223372036854775807) (m:Int) (H:Hp): ∀ (n i:Nat) (e:Env),i+n=xs.length→e.get 0= .d (Bf xs)→e.get 1= .d (.int .i64 m)→e.get 7= .d (Bf xs)→e.get 8= .d (.int .i64 xs.length)→e.get 9= .d (.int .i64 i)→
  ∃e',Bg (Bq (ev R) R.glob n0 Bg Bd5) [0,1,7,8,9] ⟨e,H⟩=some ((match Fv (J7 xs) n i with|some _=> .ret|none=> .exit 0),⟨e',H⟩)∧
   (∀j,Fv (J7 xs) n i=some j→e'.get 4= .d (.bool false))∧(Fv (J7 xs) n i=none→e'.get 0= .d (Bf xs)∧e'.get 1= .d (.int .i64 m))
 |0,i,e,hn,h0,h1,h7,h8,h9=>by
  have c: ¬ (i:Int)< (xs.length:Int):=by omega
  have c': ¬i<xs.length:=by omega
  rw[Bv]
  refine⟨?_, ?_, ?_, ?_⟩
  rotate_left
  ·simp[Cm,-Cda,-Cdb,Bd5,h0,h1,h7,h8,h9,Bf,c,c',Fv]
   rfl
  ·intro j hj;simp[Fv] at hj
  ·intro _
   try refine⟨?_, ?_⟩
   all_goals (first|trivial|simp[Cm,-Cda,-Cdb,h0,h1,h7,h8,h9,Bf])
 |n+1,i,e,hn,h0,h1,h7,h8,h9=>by
  have c: (i:Int)< (xs.length:Int):=by omega
  have c':i<xs.length:=by omega
  have g:=Dk xs i c'
  have w1:IntKind.i64.wrap ((i:Int)+1)=((i+1:Nat):Int):=by rw[IntWalk.i64_in _ (by omega)];rfl
  have ih:=B06 n0 xs hx m H n (i+1)
  rw[Bv]
  generalize Bg (Bq (ev R) R.glob n0 Bg Bd5) [0,1,7,8,9]=F at ih⊢
  by_cases hb:40< (xs.getD i []).length
  ·have hb': (40:Int)< ((xs.getD i []).length:Int):=by omega
   refine⟨?_, ?_, ?_, ?_⟩
   rotate_left
   ·simp[Cm,-Cda,-Cdb,Bd5,h0,h1,h7,h8,h9,Bf,c,c',g,hb,hb',Fv,J7]
    rfl
   ·intro j hj
    simp[Fv,J7,hb,-Cda] at hj
    try subst hj
    simp[Cm,-Cda,-Cdb]
   ·intro hj;simp[Fv,J7,hb,-Cda] at hj
  ·have hb': ¬ (40:Int)< ((xs.getD i []).length:Int):=by omega
   have hs:Fv (J7 xs) (n+1) i=Fv (J7 xs) n (i+1):=by simp[Fv,J7,hb,-Cda]
   rw[hs]
   simp[Cm,-Cda,-Cdb,Bd5,h0,h1,h7,h8,h9,Bf,c,c',g,hb,hb',w1]
   refine ih _ (by omega) ?_ ?_ ?_ ?_ ?_<;>rfl
theorem Bfk (H:Hp) (xs:List Br) (hx:xs.length≤9223372036854775807):ev R 60 [.d (Bf xs)] H=some (.d (.bool (Ch xs)),H):=by
 refine Bh (fn:=f60) rfl rfl ?_
 obtain⟨e',he,h1,h2⟩:=B3p (Bc H) xs hx H xs.length 0 [(0, .d (Bf xs)),(3, .d (.int .i64 0))] (by omega) rfl rfl
 cases hr:Fv (J7 xs) xs.length 0 with
 |some j=>
  simp only[hr] at he
  simp[Cm,-Cda,-Cdb,f60,he,h1 j hr,Ch,hr]
 |none=>
  simp only[hr] at he
  have h3:=h2 hr
  simp[Cm,-Cda,-Cdb,f60,he,h3,Ch,hr,Bf]
  omega
theorem B8f (H:Hp) (xs:List Br) (hx:xs.length≤9223372036854775807):ev R 53 [.d (Bf xs), .d (.int .i64 16)] H=some (.d (.bool (Ch xs)),H):=by
 refine Bh (fn:=f53) rfl rfl ?_
 obtain⟨e',he,h1,h2⟩:=B06 (Bc H) xs hx 16 H xs.length 0 [(0, .d (Bf xs)),(1, .d (.int .i64 16)),(7, .d (Bf xs)),(8, .d (.int .i64 xs.length)),(9, .d (.int .i64 0))] (by omega) rfl rfl rfl rfl rfl
 cases hr:Fv (J7 xs) xs.length 0 with
 |some j=>
  simp only[hr] at he
  simp[Cm,-Cda,-Cdb,f53,he,h1 j hr,Ch,hr]
 |none=>
  simp only[hr] at he
  obtain⟨h3,h4⟩:=h2 hr
  simp[Cm,-Cda,-Cdb,f53,he,h3,h4,Ch,hr,Bf]
  omega
theorem Bhk (H:Hp) (xs:List Br) (hx:xs.length≤9223372036854775807):ev R 69 [.d (Bf xs)] H=some (.d (.bool (Ch xs)),H):=by
 refine Bh (fn:=f69) rfl rfl ?_
 have p63:Be (ev R) 53 [.d (Bf xs), .d (.int .i64 16)]=some (.d (.bool (Ch xs))):=Bb fun H=>B8f H xs hx
 simp[Cm,-Cda,-Cdb,f69,p63]
def Qd (xs ys:List Br) (i:Nat):Bool:=decide (¬xs.getD i []=ys.getD i [])
def Bud (xs:List Br):Nat→Nat→Int→Int
 |0,_,l=>l
 |n+1,i,l=>if l - (xs.getD i []).length<0 then -1 else Bud xs n (i+1) (l - (xs.getD i []).length)
def left (xs:List Br):Int:=if 1048576 - (xs.length:Int)<0 then -1 else(if Bud xs xs.length 0 (1048576 - xs.length)<0 then -1 else Bud xs xs.length 0 (1048576 - xs.length))
namespace fnExactListAt
end fnExactListAt
theorem P7 (xs:List Sc) (i:Nat) (hi:i<xs.length): (xs.map Kh).getD i .nilp= .agg [.str (xs.getD i ([],0)).1, .int .i64 (xs.getD i ([],0)).2]:=by
 simp[Kh,Cda,hi]
theorem Xy (xs:List Pr) (i:Nat) (hi:i<xs.length): (xs.map Kz).getD i .nilp= .agg [.str (xs.getD i ([],[])).1, .str (xs.getD i ([],[])).2]:=by
 simp[Kz,Cda,hi]
theorem Bhg (H:Hp) (s:Br):ev R 59 [.d (.str s)] H=some (.d (.bool (decide ((s.length:Int)≥1) &&decide ((s.length:Int)≤12))),H):=by
 refine Bh (fn:=f59) rfl rfl ?_
 have p:=Pt (s.length:Int) 1 12
 simp[Cm,-Cda,-Cdb,f59,p]
theorem Bfj (H:Hp) (s:Br):ev R 57 [.d (.str s)] H=some (.d (.bool (decide ((s.length:Int)≥1) &&decide ((s.length:Int)≤12))),H):=by
 refine Bh (fn:=f57) rfl rfl ?_
 have p:=Bck (s.length:Int) 1 12
 simp[Cm,-Cda,-Cdb,f57,p]
def D9 (p:Nat→Bool):Nat→Nat→Bool
 |0,_=>false
 |n+1,i=>p i||D9 p n (i+1)
def Lg (xs:List Br) (i:Nat):Bool:= !Op.bytesLess (xs.getD (i - 1) []) (xs.getD i [])
def Gg (xs:List Br):Bool:= !D9 (Lg xs) (xs.length - 1) 1&&Ch xs
theorem B3q (n0:Nat) (xs:List Br) (hx:xs.length≤9223372036854775807) (H:Hp): ∀ (n i:Nat) (e:Env),xs.length≤i+n→i+n≤xs.length+1→1≤i→(n=0∨i+n=xs.length)→e.get 0= .d (Bf xs)→e.get 3= .d (.int .i64 i)→
  ∃e',Bg (Bq (ev R) R.glob n0 Bg Bd7) [0,3] ⟨e,H⟩=some ((bif D9 (Lg xs) n i then .ret else .exit 0),⟨e',H⟩)∧
   (D9 (Lg xs) n i=true→e'.get 2= .d (.bool false))∧(D9 (Lg xs) n i=false→e'.get 0= .d (Bf xs))
 |0,i,e,h1,h2,h3,h4,g0,g3=>by
  have c: ¬ (i:Int)< (xs.length:Int):=by omega
  have c': ¬i<xs.length:=by omega
  rw[Bv]
  simp only[D9]
  refine⟨?_, ?_, ?_, ?_⟩
  rotate_left
  ·simp[Cm,-Cda,-Cdb,Bd7,g0,g3,Bf,c,c']
   try rfl
  ·intro h;simp at h
  ·intro _;simp[Cm,-Cda,-Cdb,g0,Bf]
 |n+1,i,e,h1,h2,h3,h4,g0,g3=>by
  have h4:i+(n+1)=xs.length:=by omega
  have c':i<xs.length:=by omega
  have ih:=B3q n0 xs hx H n (i+1)
  have ga:=Dk xs i c'
  have gb:=Dk xs (i - 1) (by omega)
  have hp:Lg xs i= !Op.bytesLess (xs.getD (i - 1) []) (xs.getD i []):=rfl
  obtain⟨I,hI⟩: ∃I:Int,(i:Int)=I:=⟨_,rfl⟩
  obtain⟨I2,hI2⟩: ∃I:Int,((i+1:Nat):Int)=I:=⟨_,rfl⟩
  obtain⟨J,hJ⟩: ∃I:Int,((i - 1:Nat):Int)=I:=⟨_,rfl⟩
  have w0:IntKind.i64.wrap (I - 1)=J:=by rw[IntWalk.i64_in _ (by omega)];omega
  have w1:IntKind.i64.wrap (I+1)=I2:=by rw[IntWalk.i64_in _ (by omega)];omega
  have c:I< (xs.length:Int):=by omega
  have cj:J< (xs.length:Int):=by omega
  have p0:0≤I:=by omega
  have pj:0≤J:=by omega
  have t0:I.toNat=i:=by omega
  have tj:J.toNat=i - 1:=by omega
  have hk:xs.length≤i+1+n:=by omega
  have hk2:i+1+n≤xs.length+1:=by omega
  have hk3:n=0∨i+1+n=xs.length:=by omega
  rw[hI] at g3
  rw[hI2] at ih
  simp only[D9]
  generalize Lg xs i=b at*
  generalize D9 (Lg xs) n (i+1)=S at*
  generalize xs.getD i []=x at*
  generalize xs.getD (i - 1) []=y at*
  rw[Bv]
  generalize Bg (Bq (ev R) R.glob n0 Bg Bd7) [0,3]=F at ih⊢
  cases hl:Op.bytesLess y x with
  |false=>
   rw[hl] at hp
   subst hp
   simp only[Bool.not_false,Cd1,cond_true]
   refine⟨?_, ?_, ?_, ?_⟩
   rotate_left
   ·simp[Cm,-Cda,-Cdb,Bd7,g0,g3,Bf,c,cj,p0,pj,t0,tj,w0,ga,gb,hl]
    try rfl
   ·intro _;simp[Cm,-Cda,-Cdb]
   ·intro h;simp at h
  |true=>
   rw[hl] at hp
   subst hp
   simp only[Bool.not_true,Cdx]
   simp[Cm,-Cda,-Cdb,Bd7,g0,g3,Bf,c,cj,p0,pj,t0,tj,w0,w1,ga,gb,hl]
   refine ih _ hk hk2 (by omega) hk3 ?_ ?_<;>rfl
theorem Bhh (H:Hp) (xs:List Br) (hx:xs.length≤9223372036854775807):ev R 61 [.d (Bf xs)] H=some (.d (.bool (Gg xs)),H):=by
 refine Bh (fn:=f61) rfl rfl ?_
 have p:=Bb (cl:=ev R) fun H=>Bfk H xs hx
 obtain⟨e',he,h1,h2⟩:=B3q (Bc H) xs hx H (xs.length - 1) 1 [(0, .d (Bf xs)),(3, .d (.int .i64 1))] (by omega) (by omega) (by omega) (by omega) rfl rfl
 unfold Gg
 cases hb:D9 (Lg xs) (xs.length - 1) 1 with
 |true=>
  have h1:=h1 hb
  simp only[hb,cond_true] at he
  simp[Cm,-Cda,-Cdb,f61,he,h1]
 |false=>
  have h2:=h2 hb
  simp only[hb,cond_false] at he
  simp[Cm,-Cda,-Cdb,f61,he,h2,p]
theorem B3t (n0:Nat) (xs:List Br) (hx:xs.length≤9223372036854775807) (H:Hp): ∀ (n i:Nat) (e:Env),xs.length≤i+n→i+n≤xs.length+1→1≤i→(n=0∨i+n=xs.length)→e.get 0= .d (Bf xs)→e.get 3= .d (.int .i64 i)→
  ∃e',Bg (Bq (ev R) R.glob n0 Bg Bd9) [0,3] ⟨e,H⟩=some ((bif D9 (Lg xs) n i then .ret else .exit 0),⟨e',H⟩)∧
   (D9 (Lg xs) n i=true→e'.get 2= .d (.bool false))∧(D9 (Lg xs) n i=false→e'.get 0= .d (Bf xs))
 |0,i,e,h1,h2,h3,h4,g0,g3=>by
  have c: ¬ (i:Int)< (xs.length:Int):=by omega
  have c': ¬i<xs.length:=by omega
  rw[Bv]
  simp only[D9]
  refine⟨?_, ?_, ?_, ?_⟩
  rotate_left
  ·simp[Cm,-Cda,-Cdb,Bd9,g0,g3,Bf,c,c']
   try rfl
  ·intro h;simp at h
  ·intro _;simp[Cm,-Cda,-Cdb,g0,Bf]
 |n+1,i,e,h1,h2,h3,h4,g0,g3=>by
  have h4:i+(n+1)=xs.length:=by omega
  have c':i<xs.length:=by omega
  have ih:=B3t n0 xs hx H n (i+1)
  have ga:=Dk xs i c'
  have gb:=Dk xs (i - 1) (by omega)
  have hp:Lg xs i= !Op.bytesLess (xs.getD (i - 1) []) (xs.getD i []):=rfl
  obtain⟨I,hI⟩: ∃I:Int,(i:Int)=I:=⟨_,rfl⟩
  obtain⟨I2,hI2⟩: ∃I:Int,((i+1:Nat):Int)=I:=⟨_,rfl⟩
  obtain⟨J,hJ⟩: ∃I:Int,((i - 1:Nat):Int)=I:=⟨_,rfl⟩
  have w0:IntKind.i64.wrap (I - 1)=J:=by rw[IntWalk.i64_in _ (by omega)];omega
  have w1:IntKind.i64.wrap (I+1)=I2:=by rw[IntWalk.i64_in _ (by omega)];omega
  have c:I< (xs.length:Int):=by omega
  have cj:J< (xs.length:Int):=by omega
  have p0:0≤I:=by omega
  have pj:0≤J:=by omega
  have t0:I.toNat=i:=by omega
  have tj:J.toNat=i - 1:=by omega
  have hk:xs.length≤i+1+n:=by omega
  have hk2:i+1+n≤xs.length+1:=by omega
  have hk3:n=0∨i+1+n=xs.length:=by omega
  rw[hI] at g3
  rw[hI2] at ih
  simp only[D9]
  generalize Lg xs i=b at*
  generalize D9 (Lg xs) n (i+1)=S at*
  generalize xs.getD i []=x at*
  generalize xs.getD (i - 1) []=y at*
  rw[Bv]
  generalize Bg (Bq (ev R) R.glob n0 Bg Bd9) [0,3]=F at ih⊢
  cases hl:Op.bytesLess y x with
  |false=>
   rw[hl] at hp
   subst hp
   simp only[Bool.not_false,Cd1,cond_true]
   refine⟨?_, ?_, ?_, ?_⟩
   rotate_left
   ·simp[Cm,-Cda,-Cdb,Bd9,g0,g3,Bf,c,cj,p0,pj,t0,tj,w0,ga,gb,hl]
    try rfl
   ·intro _;simp[Cm,-Cda,-Cdb]
   ·intro h;simp at h
  |true=>
   rw[hl] at hp
   subst hp
   simp only[Bool.not_true,Cdx]
   simp[Cm,-Cda,-Cdb,Bd9,g0,g3,Bf,c,cj,p0,pj,t0,tj,w0,w1,ga,gb,hl]
   refine ih _ hk hk2 (by omega) hk3 ?_ ?_<;>rfl
theorem Bkl (H:Hp) (xs:List Br) (hx:xs.length≤9223372036854775807):ev R 70 [.d (Bf xs)] H=some (.d (.bool (Gg xs)),H):=by
 refine Bh (fn:=f70) rfl rfl ?_
 have p:=Bb (cl:=ev R) fun H=>Bhk H xs hx
 obtain⟨e',he,h1,h2⟩:=B3t (Bc H) xs hx H (xs.length - 1) 1 [(0, .d (Bf xs)),(3, .d (.int .i64 1))] (by omega) (by omega) (by omega) (by omega) rfl rfl
 unfold Gg
 cases hb:D9 (Lg xs) (xs.length - 1) 1 with
 |true=>
  have h1:=h1 hb
  simp only[hb,cond_true] at he
  simp[Cm,-Cda,-Cdb,f70,he,h1]
 |false=>
  have h2:=h2 hb
  simp only[hb,cond_false] at he
  simp[Cm,-Cda,-Cdb,f70,he,h2,p]
def Ni (xs:List Pr) (i:Nat):Bool:=decide (40< (xs.getD i ([],[])).1.length) ||decide (40< (xs.getD i ([],[])).2.length) || (decide (0<i) && !Op.bytesLess (xs.getD (i - 1) ([],[])).1 (xs.getD i ([],[])).1)
theorem Bhy {X:Hp} {n:Nat} (o:Ev.Obj) (h:n≤Bc X):Cx (Bp X o) n=Cx X n:=by
 simp only[Cx,Bp,Bc] at*
 rw[List.take_append_of_le_length h]
def Dm (xs:List Pr):Bool:= !D9 (Ni xs) xs.length 0&&decide (xs.length≤16)
theorem B3s (n0:Nat) (xs:List Pr) (hx:xs.length≤9223372036854775807) (H:Hp): ∀ (n i:Nat) (e:Env),i+n=xs.length→e.get 0= .d (D7 xs)→e.get 3= .d (.int .i64 i)→
  ∃e',Bg (Bq (ev R) R.glob n0 Bg Xi) [0,3] ⟨e,H⟩=some ((bif D9 (Ni xs) n i then .ret else .exit 0),⟨e',H⟩)∧
   (D9 (Ni xs) n i=true→e'.get 2= .d (.bool false))∧(D9 (Ni xs) n i=false→e'.get 0= .d (D7 xs))
 |0,i,e,h1,g0,g3=>by
  have c: ¬ (i:Int)< (xs.length:Int):=by omega
  have c': ¬i<xs.length:=by omega
  rw[Bv]
  simp only[D9]
  refine⟨?_, ?_, ?_, ?_⟩
  rotate_left
  ·simp[Cm,-Cda,-Cdb,Xi,g0,g3,D7,c,c']
   try rfl
  ·intro h;simp at h
  ·intro _;simp[Cm,-Cda,-Cdb,g0,D7]
 |n+1,i,e,h1,g0,g3=>by
  have h4:i+(n+1)=xs.length:=h1
  have c':i<xs.length:=by omega
  have ga:=Xy xs i c'
  have hp:Ni xs i=(decide (40< (xs.getD i ([],[])).1.length) ||decide (40< (xs.getD i ([],[])).2.length) || (decide (0<i) && !Op.bytesLess (xs.getD (i - 1) ([],[])).1 (xs.getD i ([],[])).1)):=rfl
  have gb:=Xy xs (i - 1) (by omega)
  obtain⟨I,hI⟩: ∃I:Int,(i:Int)=I:=⟨_,rfl⟩
  obtain⟨I2,hI2⟩: ∃I:Int,((i+1:Nat):Int)=I:=⟨_,rfl⟩
  obtain⟨J,hJ⟩: ∃I:Int,((i - 1:Nat):Int)=I:=⟨_,rfl⟩
  have w1:IntKind.i64.wrap (I+1)=I2:=by rw[IntWalk.i64_in _ (by omega)];omega
  have c:I< (xs.length:Int):=by omega
  have cj:J< (xs.length:Int):=by omega
  have p0:0≤I:=by omega
  have pj:0≤J:=by omega
  have t0:I.toNat=i:=by omega
  have tj:J.toNat=i - 1:=by omega
  have hk:i+1+n=xs.length:=by omega
  have w0:0<i→IntKind.i64.wrap (I - 1)=J:=fun _=>by rw[IntWalk.i64_in _ (by omega)];omega
  have z0:0<i→0<I:=fun _=>by omega
  have z1: ¬0<i→¬0<I:=fun _=>by omega
  have ih:=B3s n0 xs hx H n (i+1)
  rw[hI] at g3
  rw[hI2] at ih
  simp only[D9]
  generalize Ni xs i=b at*
  generalize D9 (Ni xs) n (i+1)=S at*
  generalize xs.getD i ([],[])=x at*
  generalize xs.getD (i - 1) ([],[])=y at*
  obtain⟨x1,x2⟩:=x
  obtain⟨y1,y2⟩:=y
  simp only at*
  rw[Bv]
  generalize Bg (Bq (ev R) R.glob n0 Bg Xi) [0,3]=F at ih⊢
  by_cases k1:40<x1.length
  ·have k1': (40:Int)< (x1.length:Int):=by omega
   simp only[k1,decide_true,Cd1] at hp
   subst hp
   simp only[Cd1,cond_true]
   refine⟨?_, ?_, ?_, ?_⟩
   rotate_left
   ·simp[Cm,-Cda,-Cdb,Xi,g0,g3,D7,c,cj,p0,pj,t0,tj,ga,gb,k1,k1']
    try rfl
   ·intro _;simp[Cm,-Cda,-Cdb]
   ·intro h;simp at h
  ·have k1': ¬ (40:Int)< (x1.length:Int):=by omega
   by_cases k2:40<x2.length
   ·have k2': (40:Int)< (x2.length:Int):=by omega
    simp only[k1,k2,decide_true,decide_false,Cdx,Cd1] at hp
    subst hp
    simp only[Cd1,cond_true]
    refine⟨?_, ?_, ?_, ?_⟩
    rotate_left
    ·simp[Cm,-Cda,-Cdb,Xi,g0,g3,D7,c,cj,p0,pj,t0,tj,ga,gb,k1,k1',k2,k2']
     try rfl
    ·intro _;simp[Cm,-Cda,-Cdb]
    ·intro h;simp at h
   ·have k2': ¬ (40:Int)< (x2.length:Int):=by omega
    by_cases k3:0<i
    ·have w0:=w0 k3
     have z0:=z0 k3
     cases hl:Op.bytesLess y1 x1 with
     |false=>
      simp only[k1,k2,k3,hl,decide_true,decide_false,Cdx,Bool.true_and,Bool.not_false] at hp
      subst hp
      simp only[Cd1,cond_true]
      refine⟨?_, ?_, ?_, ?_⟩
      rotate_left
      ·simp[Cm,-Cda,-Cdb,Xi,g0,g3,D7,c,cj,p0,pj,t0,tj,ga,gb,k1,k1',k2,k2',z0,w0,hl]
       try rfl
      ·intro _;simp[Cm,-Cda,-Cdb]
      ·intro h;simp at h
     |true=>
      simp only[k1,k2,k3,hl,decide_true,decide_false,Cdx,Bool.true_and,Bool.not_true] at hp
      subst hp
      simp only[Cdx]
      simp[Cm,-Cda,-Cdb,Xi,g0,g3,D7,c,cj,p0,pj,t0,tj,w1,ga,gb,k1,k1',k2,k2',z0,w0,hl]
      refine ih _ hk ?_ ?_<;>rfl
    ·have z1:=z1 k3
     simp only[k1,k2,k3,decide_false,Cdx,Bool.false_and] at hp
     subst hp
     simp only[Cdx]
     simp[Cm,-Cda,-Cdb,Xi,g0,g3,D7,c,cj,p0,pj,t0,tj,w1,ga,gb,k1,k1',k2,k2',z1]
     refine ih _ hk ?_ ?_<;>rfl
theorem Bhj (H:Hp) (xs:List Pr) (hx:xs.length≤9223372036854775807):ev R 63 [.d (D7 xs)] H=some (.d (.bool (Dm xs)),H):=by
 refine Bh (fn:=f63) rfl rfl ?_
 obtain⟨e',he,h1,h2⟩:=B3s (Bc H) xs hx H xs.length 0 [(0, .d (D7 xs)),(3, .d (.int .i64 0))] (by omega) rfl rfl
 unfold Dm
 simp only[D7] at he h2
 cases hb:D9 (Ni xs) xs.length 0 with
 |true=>
  have h1:=h1 hb
  simp only[hb,cond_true] at he
  simp[Cm,-Cda,-Cdb,f63,D7,he,h1]
 |false=>
  have h2:=h2 hb
  simp only[hb,cond_false] at he
  by_cases hl:xs.length≤16
  ·have hl': (xs.length:Int)≤16:=by omega
   simp[Cm,-Cda,-Cdb,f63,D7,he,h2,hl,hl']
  ·have hl': ¬ (xs.length:Int)≤16:=by omega
   simp[Cm,-Cda,-Cdb,f63,D7,he,h2,hl,hl']
theorem B3v (n0:Nat) (xs:List Pr) (hx:xs.length≤9223372036854775807) (H:Hp): ∀ (n i:Nat) (X:Hp) (e:Env),i+n=xs.length→Cx X (Bc H)=H→Bc H≤Bc X→e.get 0= .d (D7 xs)→e.get 5= .d (D7 xs)→e.get 6= .d (.int .i64 xs.length)→e.get 7= .d (.int .i64 i)→
  ∃e' X',Bg (Bq (ev R) R.glob n0 Bg Xj) [0,5,6,7] ⟨e,X⟩=some ((bif D9 (Ni xs) n i then .ret else .exit 0),⟨e',X'⟩)∧
   (D9 (Ni xs) n i=true→e'.get 2= .d (.bool false))∧(D9 (Ni xs) n i=false→e'.get 0= .d (D7 xs))∧Cx X' (Bc H)=H
 |0,i,X,e,h1,hx1,hx2,g0,g5,g6,g3=>by
  have c: ¬ (i:Int)< (xs.length:Int):=by omega
  have c': ¬i<xs.length:=by omega
  rw[Bv]
  simp only[D9]
  refine⟨?_,X, ?_, ?_, ?_, ?_⟩
  rotate_left
  ·simp[Cm,-Cda,-Cdb,Xj,g0,g5,g6,g3,D7,c,c']
   try rfl
  ·intro h;simp at h
  ·intro _;simp[Cm,-Cda,-Cdb,g0,D7]
  ·exact hx1
 |n+1,i,X,e,h1,hx1,hx2,g0,g5,g6,g3=>by
  have h4:i+(n+1)=xs.length:=h1
  have c':i<xs.length:=by omega
  have ga:=Xy xs i c'
  have hp:Ni xs i=(decide (40< (xs.getD i ([],[])).1.length) ||decide (40< (xs.getD i ([],[])).2.length) || (decide (0<i) && !Op.bytesLess (xs.getD (i - 1) ([],[])).1 (xs.getD i ([],[])).1)):=rfl
  have gb:=Xy xs (i - 1) (by omega)
  obtain⟨I,hI⟩: ∃I:Int,(i:Int)=I:=⟨_,rfl⟩
  obtain⟨I2,hI2⟩: ∃I:Int,((i+1:Nat):Int)=I:=⟨_,rfl⟩
  obtain⟨J,hJ⟩: ∃I:Int,((i - 1:Nat):Int)=I:=⟨_,rfl⟩
  have w1:IntKind.i64.wrap (I+1)=I2:=by rw[IntWalk.i64_in _ (by omega)];omega
  have c:I< (xs.length:Int):=by omega
  have cj:J< (xs.length:Int):=by omega
  have p0:0≤I:=by omega
  have pj:0≤J:=by omega
  have t0:I.toNat=i:=by omega
  have tj:J.toNat=i - 1:=by omega
  have hk:i+1+n=xs.length:=by omega
  have w0:0<i→IntKind.i64.wrap (I - 1)=J:=fun _=>by rw[IntWalk.i64_in _ (by omega)];omega
  have z0:0<i→0<I:=fun _=>by omega
  have z1: ¬0<i→¬0<I:=fun _=>by omega
  have ga': ∀z:D,Lr (Bp X (.row 0 2 [.d (.agg [.str [], .str []])])) (Bc X) 0 0 0 [.d (.str (xs.getD i ([],[])).1), .d (.str (xs.getD i ([],[])).2)]=some (Bp X (.row 0 2 [.d (.agg [.str (xs.getD i ([],[])).1, .str (xs.getD i ([],[])).2])])):=fun _=>by
   simp[Lr,Cy,V.cells,D.cells,Lh,V.isAgg,Mw,Gr,Qt]
  have st:=ga' .nilp
  have ld0:Dq (Bp X (.row 0 2 [.d (.agg [.str (xs.getD i ([],[])).1, .str (xs.getD i ([],[])).2])])) (Bc X) 0 0 0 1=some [.d (.str (xs.getD i ([],[])).1)]:=by simp[Dq,Cy,V.cells,D.cells]
  have ld1:Dq (Bp X (.row 0 2 [.d (.agg [.str (xs.getD i ([],[])).1, .str (xs.getD i ([],[])).2])])) (Bc X) 0 0 1 1=some [.d (.str (xs.getD i ([],[])).2)]:=by simp[Dq,Cy,V.cells,D.cells]
  have tk:Cx (Bp X (.row 0 2 [.d (.agg [.str (xs.getD i ([],[])).1, .str (xs.getD i ([],[])).2])])) (Bc H)=H:=by rw[Bhy _ hx2];exact hx1
  have lk:Bc H≤Bc (Bp X (.row 0 2 [.d (.agg [.str (xs.getD i ([],[])).1, .str (xs.getD i ([],[])).2])])):=by rw[Cf];omega
  have ih:=B3v n0 xs hx H n (i+1) (Bp X (.row 0 2 [.d (.agg [.str (xs.getD i ([],[])).1, .str (xs.getD i ([],[])).2])]))
  generalize Bp X (.row 0 2 [.d (.agg [.str (xs.getD i ([],[])).1, .str (xs.getD i ([],[])).2])])=Y at*
  rw[hI] at g3
  rw[hI2] at ih
  simp only[D9]
  generalize Ni xs i=b at*
  generalize D9 (Ni xs) n (i+1)=S at*
  generalize xs.getD i ([],[])=x at*
  generalize xs.getD (i - 1) ([],[])=y at*
  obtain⟨x1,x2⟩:=x
  obtain⟨y1,y2⟩:=y
  simp only at*
  rw[Bv]
  generalize Bg (Bq (ev R) R.glob n0 Bg Xj) [0,5,6,7]=F at ih⊢
  by_cases k1:40<x1.length
  ·have k1': (40:Int)< (x1.length:Int):=by omega
   simp only[k1,decide_true,Cd1] at hp
   subst hp
   simp only[Cd1,cond_true]
   refine⟨?_,Y, ?_, ?_, ?_, ?_⟩
   rotate_left
   ·simp[Cm,-Cda,-Cdb,Xj,g0,g5,g6,g3,D7,c,cj,p0,pj,t0,tj,ga,gb,st,ld0,ld1,k1,k1']
    try rfl
   ·intro _;simp[Cm,-Cda,-Cdb]
   ·intro h;simp at h
   ·exact tk
  ·have k1': ¬ (40:Int)< (x1.length:Int):=by omega
   by_cases k2:40<x2.length
   ·have k2': (40:Int)< (x2.length:Int):=by omega
    simp only[k1,k2,decide_true,decide_false,Cdx,Cd1] at hp
    subst hp
    simp only[Cd1,cond_true]
    refine⟨?_,Y, ?_, ?_, ?_, ?_⟩
    rotate_left
    ·simp[Cm,-Cda,-Cdb,Xj,g0,g5,g6,g3,D7,c,cj,p0,pj,t0,tj,ga,gb,st,ld0,ld1,k1,k1',k2,k2']
     try rfl
    ·intro _;simp[Cm,-Cda,-Cdb]
    ·intro h;simp at h
    ·exact tk
   ·have k2': ¬ (40:Int)< (x2.length:Int):=by omega
    by_cases k3:0<i
    ·have w0:=w0 k3
     have z0:=z0 k3
     cases hl:Op.bytesLess y1 x1 with
     |false=>
      simp only[k1,k2,k3,hl,decide_true,decide_false,Cdx,Bool.true_and,Bool.not_false] at hp
      subst hp
      simp only[Cd1,cond_true]
      refine⟨?_,Y, ?_, ?_, ?_, ?_⟩
      rotate_left
      ·simp[Cm,-Cda,-Cdb,Xj,g0,g5,g6,g3,D7,c,cj,p0,pj,t0,tj,ga,gb,st,ld0,ld1,k1,k1',k2,k2',z0,w0,hl]
       try rfl
      ·intro _;simp[Cm,-Cda,-Cdb]
      ·intro h;simp at h
      ·exact tk
     |true=>
      simp only[k1,k2,k3,hl,decide_true,decide_false,Cdx,Bool.true_and,Bool.not_true] at hp
      subst hp
      simp only[Cdx]
      simp[Cm,-Cda,-Cdb,Xj,g0,g5,g6,g3,D7,c,cj,p0,pj,t0,tj,w1,ga,gb,st,ld0,ld1,k1,k1',k2,k2',z0,w0,hl]
      refine ih _ hk tk lk ?_ ?_ ?_ ?_<;> (first|rfl|exact g6)
    ·have z1:=z1 k3
     simp only[k1,k2,k3,decide_false,Cdx,Bool.false_and] at hp
     subst hp
     simp only[Cdx]
     simp[Cm,-Cda,-Cdb,Xj,g0,g5,g6,g3,D7,c,cj,p0,pj,t0,tj,w1,ga,gb,st,ld0,ld1,k1,k1',k2,k2',z1]
     refine ih _ hk tk lk ?_ ?_ ?_ ?_<;> (first|rfl|exact g6)
theorem Bkn (H:Hp) (xs:List Pr) (hx:xs.length≤9223372036854775807):ev R 72 [.d (D7 xs)] H=some (.d (.bool (Dm xs)),H):=by
 refine Bh (fn:=f72) rfl rfl ?_
 obtain⟨e',X',he,h1,h2,tk⟩:=B3v (Bc H) xs hx H xs.length 0 H [(0, .d (D7 xs)),(5, .d (D7 xs)),(6, .d (.int .i64 xs.length)),(7, .d (.int .i64 0))] (by omega) (J5 H) (Nat.le_refl _) rfl rfl rfl rfl
 unfold Dm
 simp only[D7] at he h2
 cases hb:D9 (Ni xs) xs.length 0 with
 |true=>
  have h1:=h1 hb
  simp only[hb,cond_true] at he
  simp[Cm,-Cda,-Cdb,f72,D7,he,h1,tk]
 |false=>
  have h2:=h2 hb
  simp only[hb,cond_false] at he
  by_cases hl:xs.length≤16
  ·have hl': (xs.length:Int)≤16:=by omega
   simp[Cm,-Cda,-Cdb,f72,D7,he,h2,hl,hl',tk]
  ·have hl': ¬ (xs.length:Int)≤16:=by omega
   simp[Cm,-Cda,-Cdb,f72,D7,he,h2,hl,hl',tk]
theorem Bz1 (n0:Nat) (xs:List Br) (hx:xs.length≤9223372036854775807) (H:Hp): ∀ (n i:Nat) (e:Env),i+n=xs.length→e.get 0= .d (Bf xs)→e.get 3= .d (.int .i64 i)→
  ∃e',Bg (Bq (ev R) R.glob n0 Bg Yx) [0,3] ⟨e,H⟩=some ((match Fv (J7 xs) n i with|some _=> .ret|none=> .exit 0),⟨e',H⟩)∧
   (∀j,Fv (J7 xs) n i=some j→e'.get 2= .d (.bool false))∧(Fv (J7 xs) n i=none→e'.get 0= .d (Bf xs))
 |0,i,e,hn,h0,h3=>by
  have c: ¬ (i:Int)< (xs.length:Int):=by omega
  have c': ¬i<xs.length:=by omega
  rw[Bv]
  refine⟨?_, ?_, ?_, ?_⟩
  rotate_left
  ·simp[Cm,-Cda,-Cdb,Yx,h0,h3,Bf,c,c',Fv]
   rfl
  ·intro j hj;simp[Fv] at hj
  ·intro _
   try refine⟨?_, ?_⟩
   all_goals (first|trivial|simp[Cm,-Cda,-Cdb,h0,h3,Bf])
 |n+1,i,e,hn,h0,h3=>by
  have c: (i:Int)< (xs.length:Int):=by omega
  have c':i<xs.length:=by omega
  have g:=Dk xs i c'
  have w1:IntKind.i64.wrap ((i:Int)+1)=((i+1:Nat):Int):=by rw[IntWalk.i64_in _ (by omega)];rfl
  have ih:=Bz1 n0 xs hx H n (i+1)
  rw[Bv]
  generalize Bg (Bq (ev R) R.glob n0 Bg Yx) [0,3]=F at ih⊢
  by_cases hb:40< (xs.getD i []).length
  ·have hb': (40:Int)< ((xs.getD i []).length:Int):=by omega
   refine⟨?_, ?_, ?_, ?_⟩
   rotate_left
   ·simp[Cm,-Cda,-Cdb,Yx,h0,h3,Bf,c,c',g,Fv,J7,hb,hb']
    rfl
   ·intro j hj
    simp[Fv,J7,hb,hb',-Cda] at hj
    try subst hj
    simp[Cm,-Cda,-Cdb]
   ·intro hj;simp[Fv,J7,hb,hb',-Cda] at hj
  ·have hb': ¬ (40:Int)< ((xs.getD i []).length:Int):=by omega
   have hs:Fv (J7 xs) (n+1) i=Fv (J7 xs) n (i+1):=by simp[Fv,J7,hb,-Cda]
   rw[hs]
   simp[Cm,-Cda,-Cdb,Yx,h0,h3,Bf,c,c',g,w1,hb,hb']
   refine ih _ (by omega) ?_ ?_<;>rfl
def Pk (xs:List Br):Bool:=(Fv (J7 xs) xs.length 0).isNone&& (decide (1≤xs.length) &&decide (xs.length≤8))
theorem Wj (xs:List Br):Pk xs=true↔Bnl xs:=by
 unfold Pk Bnl
 constructor
 ·intro h
  simp only[Cdv,decide_eq_true_eq,Option.isNone_iff_eq_none] at h
  obtain⟨h1,h2,h3⟩:=h
  refine⟨fun x hx=> ?_,h2,h3⟩
  obtain⟨i,hi,rfl⟩:=List.getElem_of_mem hx
  have:=Um h1 i (by omega) (by omega)
  simp only[J7,decide_eq_false_iff_not,Cda,Cdh hi,Cdu] at this
  omega
 ·rintro⟨h1,h2,h3⟩
  simp only[Cdv,decide_eq_true_eq,Option.isNone_iff_eq_none]
  refine⟨?_,h2,h3⟩
  cases hr:Fv (J7 xs) xs.length 0 with
  |none=>rfl
  |some j=>
   obtain⟨_,hj,hp,_⟩:=Q3 hr
   have hj':j<xs.length:=by omega
   simp only[J7,decide_eq_true_eq,Cda,Cdh hj',Cdu] at hp
   have:=h1 _ (List.getElem_mem hj')
   omega
theorem B28 (H:Hp) (xs:List Br) (hx:xs.length≤9223372036854775807):ev R 252 [.d (Bf xs)] H=some (.d (.bool (Pk xs)),H):=by
 refine Bh (fn:=f252) rfl rfl ?_
 obtain⟨e',he,h1,h2⟩:=Bz1 (Bc H) xs hx H xs.length 0 [(0, .d (Bf xs)),(3, .d (.int .i64 0))] (by omega) rfl rfl
 have p:=Pt (xs.length:Int) 1 8
 unfold Pk
 cases hr:Fv (J7 xs) xs.length 0 with
 |some j=>
  simp only[hr] at he
  simp[Cm,-Cda,-Cdb,f252,he,h1 j hr,hr]
 |none=>
  simp only[hr] at he
  have h3:=h2 hr
  have q: (decide ((xs.length:Int)≥1) &&decide ((xs.length:Int)≤8))=(decide (1≤xs.length) &&decide (xs.length≤8)):=by
   congr 1<;>exact decide_eq_decide.2 (by omega)
  rw[q] at p
  simp[Cm,-Cda,-Cdb,f252,he,h3,hr,Bf,p]
theorem B3n (n0:Nat) (xs:List Br) (hx:xs.length≤9223372036854775807) (ys:List Br) (hy:ys.length=xs.length) (H:Hp): ∀ (n i:Nat) (e:Env),i+n=xs.length→e.get 0= .d (Bf xs)→e.get 1= .d (Bf ys)→e.get 5= .d (.int .i64 i)→
  ∃e',Bg (Bq (ev R) R.glob n0 Bg Bd2) [0,1,5] ⟨e,H⟩=some ((match Fv (Qd xs ys) n i with|some _=> .ret|none=> .exit 0),⟨e',H⟩)∧
   (∀j,Fv (Qd xs ys) n i=some j→e'.get 4= .d (.bool false))
 |0,i,e,hn,h0,h1,h5=>by
  have c: ¬ (i:Int)< (xs.length:Int):=by omega
  have c': ¬i<xs.length:=by omega
  have gy:i<ys.length→(ys.map D.str).getD i .nilp= .str (ys.getD i []):=fun h=>Dk ys i h
  rw[Bv]
  refine⟨?_, ?_, ?_⟩
  rotate_left
  ·simp[Cm,-Cda,-Cdb,Bd2,h0,h1,h5,Bf,c,c',Fv,hy,gy]
   rfl
  ·intro j hj;simp[Fv] at hj
 |n+1,i,e,hn,h0,h1,h5=>by
  have c: (i:Int)< (xs.length:Int):=by omega
  have c':i<xs.length:=by omega
  have g:=Dk xs i c'
  have w1:IntKind.i64.wrap ((i:Int)+1)=((i+1:Nat):Int):=by rw[IntWalk.i64_in _ (by omega)];rfl
  have gy:i<ys.length→(ys.map D.str).getD i .nilp= .str (ys.getD i []):=fun h=>Dk ys i h
  have ih:=B3n n0 xs hx ys hy H n (i+1)
  rw[Bv]
  generalize Bg (Bq (ev R) R.glob n0 Bg Bd2) [0,1,5]=F at ih⊢
  by_cases hb: ¬xs.getD i []=ys.getD i []
  ·skip
   refine⟨?_, ?_, ?_⟩
   rotate_left
   ·simp[Cm,-Cda,-Cdb,Bd2,h0,h1,h5,Bf,c,c',g,Fv,Qd,hb,hy,gy]
    rfl
   ·intro j hj
    simp[Fv,Qd,hb,-Cda] at hj
    try subst hj
    simp[Cm,-Cda,-Cdb]
  ·rw[Classical.not_not] at hb
   have hs:Fv (Qd xs ys) (n+1) i=Fv (Qd xs ys) n (i+1):=by simp[Fv,Qd,hb,-Cda]
   rw[hs]
   simp[Cm,-Cda,-Cdb,Bd2,h0,h1,h5,Bf,c,c',g,w1,hb,hy,gy]
   refine ih _ (by omega) ?_ ?_ ?_<;>rfl
theorem Bow (H:Hp) (xs:List Br) (hx:xs.length≤9223372036854775807):ev R 28 [.d (Bf xs), .d (Bf xs)] H=some (.d (.bool true),H):=by
 refine Bh (fn:=f28) rfl rfl ?_
 obtain⟨e',he,h1⟩:=B3n (Bc H) xs hx xs rfl H xs.length 0 [(0, .d (Bf xs)),(1, .d (Bf xs)),(5, .d (.int .i64 0))] (by omega) rfl rfl rfl
 have hr:Fv (Qd xs xs) xs.length 0=none:=by
  cases hr:Fv (Qd xs xs) xs.length 0 with
  |none=>rfl
  |some j=>
   have:=(Q3 hr).2.2.1
   simp[Qd] at this
 simp only[hr] at he
 simp[Cm,-Cda,-Cdb,f28,he]
theorem Bpo (xs:List Br) (hx:xs.length≤9223372036854775807):Be (ev R) 28 [.d (Bf xs), .d (Bf xs)]=some (.d (.bool true)):=Bb fun H=>Bow H xs hx
end Go.Proofs.YtpajcoanfkeibaaGreatDoor.Code

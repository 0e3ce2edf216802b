/- Lemmas (several texts in one). -/
import Derived.Test.YtpajcoanfkeibaaGreatDoorMDoSet4
import Derived.Test.YtpajcoanfkeibaaGreatDoorMDoSet5
import Derived.Test.YtpajcoanfkeibaaGreatDoorMDoSet6
import Derived.Test.YtpajcoanfkeibaaGreatDoorMDoSet7
import Derived.Test.YtpajcoanfkeibaaGreatDoorMDoSet8
import Derived.Test.YtpajcoanfkeibaaGreatDoorMDoSet9
set_option maxRecDepth 100000
set_option linter.unusedSimpArgs false
set_option linter.unusedVariables false
set_option maxHeartbeats 2000000
namespace Go.Proofs.YtpajcoanfkeibaaGreatDoor.Code
open Go Go.Ev Go.Proofs
def Km (xs:List Bq) (i:Nat):Bool:=decide (40< (xs.getD i []).length)
def Ci (xs:List Bq):Bool:=(Fy (Km xs) xs.length 0).isNone&&decide (xs.length≤16)
theorem B3b (n0:Nat) (xs:List Bq) (hx:xs.length≤9223372036854775807) (H:Hp): ∀ (n i:Nat) (e:Env),i+n=xs.length→e.get 0= .d (Bf xs)→e.get 3= .d (.int .i64 i)→
  ∃e',Bg (Bp (ev R) R.glob n0 Bg Bdx) [0,3] ⟨e,H⟩=some ((match Fy (Km xs) n i with|some _=> .ret|none=> .exit 0),⟨e',H⟩)∧
   (∀j,Fy (Km xs) n i=some j→e'.get 2= .d (.bool false))∧(Fy (Km xs) n i=none→e'.get 0= .d (Bf xs))
 |0,i,e,hn,h0,h3=>by
  have c: ¬ (i:Int)< (xs.length:Int):=by omega
  have c': ¬i<xs.length:=by omega
  rw[Bt]
  refine⟨?_, ?_, ?_, ?_⟩
  rotate_left
  ·simp[Cm,-List.getD_eq_getElem?_getD,-List.map_map,Bdx,h0,h3,Bf,c,c',Fy]
   rfl
  ·intro j hj;simp[Fy] at hj
  ·intro _
   try refine⟨?_, ?_⟩
   all_goals (first|trivial|simp[Cm,-List.getD_eq_getElem?_getD,-List.map_map,h0,h3,Bf])
 |n+1,i,e,hn,h0,h3=>by
  have c: (i:Int)< (xs.length:Int):=by omega
  have c':i<xs.length:=by omega
  have g:=Dt xs i c'
  have w1:IntKind.i64.wrap ((i:Int)+1)=((i+1:Nat):Int):=by rw[IntWalk.i64_in _ (by omega)];rfl
  have ih:=B3b n0 xs hx H n (i+1)
  rw[Bt]
  generalize Bg (Bp (ev R) R.glob n0 Bg Bdx) [0,3]=F at ih⊢
  by_cases hb:40< (xs.getD i []).length
  ·have hb': (40:Int)< ((xs.getD i []).length:Int):=by omega
   refine⟨?_, ?_, ?_, ?_⟩
   rotate_left
   ·simp[Cm,-List.getD_eq_getElem?_getD,-List.map_map,Bdx,h0,h3,Bf,c,c',g,hb,hb',Fy,Km]
    rfl
   ·intro j hj
    simp[Fy,Km,hb,-List.getD_eq_getElem?_getD] at hj
    try subst hj
    simp[Cm,-List.getD_eq_getElem?_getD,-List.map_map]
   ·intro hj;simp[Fy,Km,hb,-List.getD_eq_getElem?_getD] at hj
  ·have hb': ¬ (40:Int)< ((xs.getD i []).length:Int):=by omega
   have hs:Fy (Km xs) (n+1) i=Fy (Km xs) n (i+1):=by simp[Fy,Km,hb,-List.getD_eq_getElem?_getD]
   rw[hs]
   simp[Cm,-List.getD_eq_getElem?_getD,-List.map_map,Bdx,h0,h3,Bf,c,c',g,hb,hb',w1]
   refine ih _ (by omega) ?_ ?_<;>rfl
theorem B0n (n0:Nat) (xs:List Bq) (hx:xs.length≤9223372036854775807) (m:Int) (H:Hp): ∀ (n i:Nat) (e:Env),i+n=xs.length→e.get 0= .d (Bf xs)→e.get 1= .d (.int .i64 m)→e.get 7= .d (Bf xs)→e.get 8= .d (.int .i64 xs.length)→e.get 9= .d (.int .i64 i)→
  ∃e',Bg (Bp (ev R) R.glob n0 Bg Bdw) [0,1,7,8,9] ⟨e,H⟩=some ((match Fy (Km xs) n i with|some _=> .ret|none=> .exit 0),⟨e',H⟩)∧
   (∀j,Fy (Km xs) n i=some j→e'.get 4= .d (.bool false))∧(Fy (Km xs) n i=none→e'.get 0= .d (Bf xs)∧e'.get 1= .d (.int .i64 m))
 |0,i,e,hn,h0,h1,h7,h8,h9=>by
  have c: ¬ (i:Int)< (xs.length:Int):=by omega
  have c': ¬i<xs.length:=by omega
  rw[Bt]
  refine⟨?_, ?_, ?_, ?_⟩
  rotate_left
  ·simp[Cm,-List.getD_eq_getElem?_getD,-List.map_map,Bdw,h0,h1,h7,h8,h9,Bf,c,c',Fy]
   rfl
  ·intro j hj;simp[Fy] at hj
  ·intro _
   try refine⟨?_, ?_⟩
   all_goals (first|trivial|simp[Cm,-List.getD_eq_getElem?_getD,-List.map_map,h0,h1,h7,h8,h9,Bf])
 |n+1,i,e,hn,h0,h1,h7,h8,h9=>by
  have c: (i:Int)< (xs.length:Int):=by omega
  have c':i<xs.length:=by omega
  have g:=Dt xs i c'
  have w1:IntKind.i64.wrap ((i:Int)+1)=((i+1:Nat):Int):=by rw[IntWalk.i64_in _ (by omega)];rfl
  have ih:=B0n n0 xs hx m H n (i+1)
  rw[Bt]
  generalize Bg (Bp (ev R) R.glob n0 Bg Bdw) [0,1,7,8,9]=F at ih⊢
  by_cases hb:40< (xs.getD i []).length
  ·have hb': (40:Int)< ((xs.getD i []).length:Int):=by omega
   refine⟨?_, ?_, ?_, ?_⟩
   rotate_left
   ·simp[Cm,-List.getD_eq_getElem?_getD,-List.map_map,Bdw,h0,h1,h7,h8,h9,Bf,c,c',g,hb,hb',Fy,Km]
    rfl
   ·intro j hj
    simp[Fy,Km,hb,-List.getD_eq_getElem?_getD] at hj
    try subst hj
    simp[Cm,-List.getD_eq_getElem?_getD,-List.map_map]
   ·intro hj;simp[Fy,Km,hb,-List.getD_eq_getElem?_getD] at hj
  ·have hb': ¬ (40:Int)< ((xs.getD i []).length:Int):=by omega
   have hs:Fy (Km xs) (n+1) i=Fy (Km xs) n (i+1):=by simp[Fy,Km,hb,-List.getD_eq_getElem?_getD]
   rw[hs]
   simp[Cm,-List.getD_eq_getElem?_getD,-List.map_map,Bdw,h0,h1,h7,h8,h9,Bf,c,c',g,hb,hb',w1]
   refine ih _ (by omega) ?_ ?_ ?_ ?_ ?_<;>rfl
theorem Bfe (H:Hp) (xs:List Bq) (hx:xs.length≤9223372036854775807):ev R 60 [.d (Bf xs)] H=some (.d (.bool (Ci xs)),H):=by
 refine Bh (fn:=f60) rfl rfl ?_
 obtain⟨e',he,h1,h2⟩:=B3b (Be H) xs hx H xs.length 0 [(0, .d (Bf xs)),(3, .d (.int .i64 0))] (by omega) rfl rfl
 cases hr:Fy (Km xs) xs.length 0 with
 |some j=>
  simp only[hr] at he
  simp[Cm,-List.getD_eq_getElem?_getD,-List.map_map,f60,he,h1 j hr,Ci,hr]
 |none=>
  simp only[hr] at he
  have h3:=h2 hr
  simp[Cm,-List.getD_eq_getElem?_getD,-List.map_map,f60,he,h3,Ci,hr,Bf]
  omega
theorem B7v (H:Hp) (xs:List Bq) (hx:xs.length≤9223372036854775807):ev R 53 [.d (Bf xs), .d (.int .i64 16)] H=some (.d (.bool (Ci xs)),H):=by
 refine Bh (fn:=f53) rfl rfl ?_
 obtain⟨e',he,h1,h2⟩:=B0n (Be H) xs hx 16 H xs.length 0 [(0, .d (Bf xs)),(1, .d (.int .i64 16)),(7, .d (Bf xs)),(8, .d (.int .i64 xs.length)),(9, .d (.int .i64 0))] (by omega) rfl rfl rfl rfl rfl
 cases hr:Fy (Km xs) xs.length 0 with
 |some j=>
  simp only[hr] at he
  simp[Cm,-List.getD_eq_getElem?_getD,-List.map_map,f53,he,h1 j hr,Ci,hr]
 |none=>
  simp only[hr] at he
  obtain⟨h3,h4⟩:=h2 hr
  simp[Cm,-List.getD_eq_getElem?_getD,-List.map_map,f53,he,h3,h4,Ci,hr,Bf]
  omega
theorem Bg7 (H:Hp) (xs:List Bq) (hx:xs.length≤9223372036854775807):ev R 69 [.d (Bf xs)] H=some (.d (.bool (Ci xs)),H):=by
 refine Bh (fn:=f69) rfl rfl ?_
 have p63:Bc (ev R) 53 [.d (Bf xs), .d (.int .i64 16)]=some (.d (.bool (Ci xs))):=Bb fun H=>B7v H xs hx
 simp[Cm,-List.getD_eq_getElem?_getD,-List.map_map,f69,p63]
def Qn (xs ys:List Bq) (i:Nat):Bool:=decide (¬xs.getD i []=ys.getD i [])
def Btq (xs:List Bq):Nat→Nat→Int→Int
 |0,_,l=>l
 |n+1,i,l=>if l - (xs.getD i []).length<0 then -1 else Btq xs n (i+1) (l - (xs.getD i []).length)
def left (xs:List Bq):Int:=if 1048576 - (xs.length:Int)<0 then -1 else(if Btq xs xs.length 0 (1048576 - xs.length)<0 then -1 else Btq xs xs.length 0 (1048576 - xs.length))
namespace fnExactListAt
end fnExactListAt
theorem Qj (xs:List Sc) (i:Nat) (hi:i<xs.length): (xs.map Ku).getD i .nilp= .agg [.str (xs.getD i ([],0)).1, .int .i64 (xs.getD i ([],0)).2]:=by
 simp[Ku,List.getD_eq_getElem?_getD,hi]
theorem Xw (xs:List Pr) (i:Nat) (hi:i<xs.length): (xs.map Lb).getD i .nilp= .agg [.str (xs.getD i ([],[])).1, .str (xs.getD i ([],[])).2]:=by
 simp[Lb,List.getD_eq_getElem?_getD,hi]
theorem Bg3 (H:Hp) (s:Bq):ev R 59 [.d (.str s)] H=some (.d (.bool (decide ((s.length:Int)≥1) &&decide ((s.length:Int)≤12))),H):=by
 refine Bh (fn:=f59) rfl rfl ?_
 have p:=P8 (s.length:Int) 1 12
 simp[Cm,-List.getD_eq_getElem?_getD,-List.map_map,f59,p]
theorem Bc8 (H:Hp) (s:Bq):ev R 57 [.d (.str s)] H=some (.d (.bool (decide ((s.length:Int)≥1) &&decide ((s.length:Int)≤12))),H):=by
 refine Bh (fn:=f57) rfl rfl ?_
 have p:=Y1 (s.length:Int) 1 12
 simp[Cm,-List.getD_eq_getElem?_getD,-List.map_map,f57,p]
def Fp (p:Nat→Bool):Nat→Nat→Bool
 |0,_=>false
 |n+1,i=>p i||Fp p n (i+1)
def Ls (xs:List Bq) (i:Nat):Bool:= !Op.bytesLess (xs.getD (i - 1) []) (xs.getD i [])
def Gn (xs:List Bq):Bool:= !Fp (Ls xs) (xs.length - 1) 1&&Ci xs
theorem B3c (n0:Nat) (xs:List Bq) (hx:xs.length≤9223372036854775807) (H:Hp): ∀ (n i:Nat) (e:Env),xs.length≤i+n→i+n≤xs.length+1→1≤i→(n=0∨i+n=xs.length)→e.get 0= .d (Bf xs)→e.get 3= .d (.int .i64 i)→
  ∃e',Bg (Bp (ev R) R.glob n0 Bg Bdy) [0,3] ⟨e,H⟩=some ((bif Fp (Ls xs) n i then .ret else .exit 0),⟨e',H⟩)∧
   (Fp (Ls xs) n i=true→e'.get 2= .d (.bool false))∧(Fp (Ls xs) n i=false→e'.get 0= .d (Bf xs))
 |0,i,e,h1,h2,h3,h4,g0,g3=>by
  have c: ¬ (i:Int)< (xs.length:Int):=by omega
  have c': ¬i<xs.length:=by omega
  rw[Bt]
  simp only[Fp]
  refine⟨?_, ?_, ?_, ?_⟩
  rotate_left
  ·simp[Cm,-List.getD_eq_getElem?_getD,-List.map_map,Bdy,g0,g3,Bf,c,c']
   try rfl
  ·intro h;simp at h
  ·intro _;simp[Cm,-List.getD_eq_getElem?_getD,-List.map_map,g0,Bf]
 |n+1,i,e,h1,h2,h3,h4,g0,g3=>by
  have h4:i+(n+1)=xs.length:=by omega
  have c':i<xs.length:=by omega
  have ih:=B3c n0 xs hx H n (i+1)
  have ga:=Dt xs i c'
  have gb:=Dt xs (i - 1) (by omega)
  have hp:Ls xs i= !Op.bytesLess (xs.getD (i - 1) []) (xs.getD i []):=rfl
  obtain⟨I,hI⟩: ∃I:Int,(i:Int)=I:=⟨_,rfl⟩
  obtain⟨I2,hI2⟩: ∃I:Int,((i+1:Nat):Int)=I:=⟨_,rfl⟩
  obtain⟨J,hJ⟩: ∃I:Int,((i - 1:Nat):Int)=I:=⟨_,rfl⟩
  have w0:IntKind.i64.wrap (I - 1)=J:=by rw[IntWalk.i64_in _ (by omega)];omega
  have w1:IntKind.i64.wrap (I+1)=I2:=by rw[IntWalk.i64_in _ (by omega)];omega
  have c:I< (xs.length:Int):=by omega
  have cj:J< (xs.length:Int):=by omega
  have p0:0≤I:=by omega
  have pj:0≤J:=by omega
  have t0:I.toNat=i:=by omega
  have tj:J.toNat=i - 1:=by omega
  have hk:xs.length≤i+1+n:=by omega
  have hk2:i+1+n≤xs.length+1:=by omega
  have hk3:n=0∨i+1+n=xs.length:=by omega
  rw[hI] at g3
  rw[hI2] at ih
  simp only[Fp]
  generalize Ls xs i=b at*
  generalize Fp (Ls xs) n (i+1)=S at*
  generalize xs.getD i []=x at*
  generalize xs.getD (i - 1) []=y at*
  rw[Bt]
  generalize Bg (Bp (ev R) R.glob n0 Bg Bdy) [0,3]=F at ih⊢
  cases hl:Op.bytesLess y x with
  |false=>
   rw[hl] at hp
   subst hp
   simp only[Bool.not_false,Bool.true_or,cond_true]
   refine⟨?_, ?_, ?_, ?_⟩
   rotate_left
   ·simp[Cm,-List.getD_eq_getElem?_getD,-List.map_map,Bdy,g0,g3,Bf,c,cj,p0,pj,t0,tj,w0,ga,gb,hl]
    try rfl
   ·intro _;simp[Cm,-List.getD_eq_getElem?_getD,-List.map_map]
   ·intro h;simp at h
  |true=>
   rw[hl] at hp
   subst hp
   simp only[Bool.not_true,Bool.false_or]
   simp[Cm,-List.getD_eq_getElem?_getD,-List.map_map,Bdy,g0,g3,Bf,c,cj,p0,pj,t0,tj,w0,w1,ga,gb,hl]
   refine ih _ hk hk2 (by omega) hk3 ?_ ?_<;>rfl
theorem Bg4 (H:Hp) (xs:List Bq) (hx:xs.length≤9223372036854775807):ev R 61 [.d (Bf xs)] H=some (.d (.bool (Gn xs)),H):=by
 refine Bh (fn:=f61) rfl rfl ?_
 have p:=Bb (cl:=ev R) fun H=>Bfe H xs hx
 obtain⟨e',he,h1,h2⟩:=B3c (Be H) xs hx H (xs.length - 1) 1 [(0, .d (Bf xs)),(3, .d (.int .i64 1))] (by omega) (by omega) (by omega) (by omega) rfl rfl
 unfold Gn
 cases hb:Fp (Ls xs) (xs.length - 1) 1 with
 |true=>
  have h1:=h1 hb
  simp only[hb,cond_true] at he
  simp[Cm,-List.getD_eq_getElem?_getD,-List.map_map,f61,he,h1]
 |false=>
  have h2:=h2 hb
  simp only[hb,cond_false] at he
  simp[Cm,-List.getD_eq_getElem?_getD,-List.map_map,f61,he,h2,p]
theorem B3f (n0:Nat) (xs:List Bq) (hx:xs.length≤9223372036854775807) (H:Hp): ∀ (n i:Nat) (e:Env),xs.length≤i+n→i+n≤xs.length+1→1≤i→(n=0∨i+n=xs.length)→e.get 0= .d (Bf xs)→e.get 3= .d (.int .i64 i)→
  ∃e',Bg (Bp (ev R) R.glob n0 Bg Bd0) [0,3] ⟨e,H⟩=some ((bif Fp (Ls xs) n i then .ret else .exit 0),⟨e',H⟩)∧
   (Fp (Ls xs) n i=true→e'.get 2= .d (.bool false))∧(Fp (Ls xs) n i=false→e'.get 0= .d (Bf xs))
 |0,i,e,h1,h2,h3,h4,g0,g3=>by
  have c: ¬ (i:Int)< (xs.length:Int):=by omega
  have c': ¬i<xs.length:=by omega
  rw[Bt]
  simp only[Fp]
  refine⟨?_, ?_, ?_, ?_⟩
  rotate_left
  ·simp[Cm,-List.getD_eq_getElem?_getD,-List.map_map,Bd0,g0,g3,Bf,c,c']
   try rfl
  ·intro h;simp at h
  ·intro _;simp[Cm,-List.getD_eq_getElem?_getD,-List.map_map,g0,Bf]
 |n+1,i,e,h1,h2,h3,h4,g0,g3=>by
  have h4:i+(n+1)=xs.length:=by omega
  have c':i<xs.length:=by omega
  have ih:=B3f n0 xs hx H n (i+1)
  have ga:=Dt xs i c'
  have gb:=Dt xs (i - 1) (by omega)
  have hp:Ls xs i= !Op.bytesLess (xs.getD (i - 1) []) (xs.getD i []):=rfl
  obtain⟨I,hI⟩: ∃I:Int,(i:Int)=I:=⟨_,rfl⟩
  obtain⟨I2,hI2⟩: ∃I:Int,((i+1:Nat):Int)=I:=⟨_,rfl⟩
  obtain⟨J,hJ⟩: ∃I:Int,((i - 1:Nat):Int)=I:=⟨_,rfl⟩
  have w0:IntKind.i64.wrap (I - 1)=J:=by rw[IntWalk.i64_in _ (by omega)];omega
  have w1:IntKind.i64.wrap (I+1)=I2:=by rw[IntWalk.i64_in _ (by omega)];omega
  have c:I< (xs.length:Int):=by omega
  have cj:J< (xs.length:Int):=by omega
  have p0:0≤I:=by omega
  have pj:0≤J:=by omega
  have t0:I.toNat=i:=by omega
  have tj:J.toNat=i - 1:=by omega
  have hk:xs.length≤i+1+n:=by omega
  have hk2:i+1+n≤xs.length+1:=by omega
  have hk3:n=0∨i+1+n=xs.length:=by omega
  rw[hI] at g3
  rw[hI2] at ih
  simp only[Fp]
  generalize Ls xs i=b at*
  generalize Fp (Ls xs) n (i+1)=S at*
  generalize xs.getD i []=x at*
  generalize xs.getD (i - 1) []=y at*
  rw[Bt]
  generalize Bg (Bp (ev R) R.glob n0 Bg Bd0) [0,3]=F at ih⊢
  cases hl:Op.bytesLess y x with
  |false=>
   rw[hl] at hp
   subst hp
   simp only[Bool.not_false,Bool.true_or,cond_true]
   refine⟨?_, ?_, ?_, ?_⟩
   rotate_left
   ·simp[Cm,-List.getD_eq_getElem?_getD,-List.map_map,Bd0,g0,g3,Bf,c,cj,p0,pj,t0,tj,w0,ga,gb,hl]
    try rfl
   ·intro _;simp[Cm,-List.getD_eq_getElem?_getD,-List.map_map]
   ·intro h;simp at h
  |true=>
   rw[hl] at hp
   subst hp
   simp only[Bool.not_true,Bool.false_or]
   simp[Cm,-List.getD_eq_getElem?_getD,-List.map_map,Bd0,g0,g3,Bf,c,cj,p0,pj,t0,tj,w0,w1,ga,gb,hl]
   refine ih _ hk hk2 (by omega) hk3 ?_ ?_<;>rfl
theorem Bj9 (H:Hp) (xs:List Bq) (hx:xs.length≤9223372036854775807):ev R 70 [.d (Bf xs)] H=some (.d (.bool (Gn xs)),H):=by
 refine Bh (fn:=f70) rfl rfl ?_
 have p:=Bb (cl:=ev R) fun H=>Bg7 H xs hx
 obtain⟨e',he,h1,h2⟩:=B3f (Be H) xs hx H (xs.length - 1) 1 [(0, .d (Bf xs)),(3, .d (.int .i64 1))] (by omega) (by omega) (by omega) (by omega) rfl rfl
 unfold Gn
 cases hb:Fp (Ls xs) (xs.length - 1) 1 with
 |true=>
  have h1:=h1 hb
  simp only[hb,cond_true] at he
  simp[Cm,-List.getD_eq_getElem?_getD,-List.map_map,f70,he,h1]
 |false=>
  have h2:=h2 hb
  simp only[hb,cond_false] at he
  simp[Cm,-List.getD_eq_getElem?_getD,-List.map_map,f70,he,h2,p]
def Nt (xs:List Pr) (i:Nat):Bool:=decide (40< (xs.getD i ([],[])).1.length) ||decide (40< (xs.getD i ([],[])).2.length) || (decide (0<i) && !Op.bytesLess (xs.getD (i - 1) ([],[])).1 (xs.getD i ([],[])).1)
theorem Bhl {X:Hp} {n:Nat} (o:Ev.Obj) (h:n≤Be X):C8 (Bu X o) n=C8 X n:=by
 simp only[C8,Bu,Be] at*
 rw[List.take_append_of_le_length h]
def Du (xs:List Pr):Bool:= !Fp (Nt xs) xs.length 0&&decide (xs.length≤16)
theorem B3e (n0:Nat) (xs:List Pr) (hx:xs.length≤9223372036854775807) (H:Hp): ∀ (n i:Nat) (e:Env),i+n=xs.length→e.get 0= .d (Fw xs)→e.get 3= .d (.int .i64 i)→
  ∃e',Bg (Bp (ev R) R.glob n0 Bg Xi) [0,3] ⟨e,H⟩=some ((bif Fp (Nt xs) n i then .ret else .exit 0),⟨e',H⟩)∧
   (Fp (Nt xs) n i=true→e'.get 2= .d (.bool false))∧(Fp (Nt xs) n i=false→e'.get 0= .d (Fw xs))
 |0,i,e,h1,g0,g3=>by
  have c: ¬ (i:Int)< (xs.length:Int):=by omega
  have c': ¬i<xs.length:=by omega
  rw[Bt]
  simp only[Fp]
  refine⟨?_, ?_, ?_, ?_⟩
  rotate_left
  ·simp[Cm,-List.getD_eq_getElem?_getD,-List.map_map,Xi,g0,g3,Fw,c,c']
   try rfl
  ·intro h;simp at h
  ·intro _;simp[Cm,-List.getD_eq_getElem?_getD,-List.map_map,g0,Fw]
 |n+1,i,e,h1,g0,g3=>by
  have h4:i+(n+1)=xs.length:=h1
  have c':i<xs.length:=by omega
  have ga:=Xw xs i c'
  have hp:Nt xs i=(decide (40< (xs.getD i ([],[])).1.length) ||decide (40< (xs.getD i ([],[])).2.length) || (decide (0<i) && !Op.bytesLess (xs.getD (i - 1) ([],[])).1 (xs.getD i ([],[])).1)):=rfl
  have gb:=Xw xs (i - 1) (by omega)
  obtain⟨I,hI⟩: ∃I:Int,(i:Int)=I:=⟨_,rfl⟩
  obtain⟨I2,hI2⟩: ∃I:Int,((i+1:Nat):Int)=I:=⟨_,rfl⟩
  obtain⟨J,hJ⟩: ∃I:Int,((i - 1:Nat):Int)=I:=⟨_,rfl⟩
  have w1:IntKind.i64.wrap (I+1)=I2:=by rw[IntWalk.i64_in _ (by omega)];omega
  have c:I< (xs.length:Int):=by omega
  have cj:J< (xs.length:Int):=by omega
  have p0:0≤I:=by omega
  have pj:0≤J:=by omega
  have t0:I.toNat=i:=by omega
  have tj:J.toNat=i - 1:=by omega
  have hk:i+1+n=xs.length:=by omega
  have w0:0<i→IntKind.i64.wrap (I - 1)=J:=fun _=>by rw[IntWalk.i64_in _ (by omega)];omega
  have z0:0<i→0<I:=fun _=>by omega
  have z1: ¬0<i→¬0<I:=fun _=>by omega
  have ih:=B3e n0 xs hx H n (i+1)
  rw[hI] at g3
  rw[hI2] at ih
  simp only[Fp]
  generalize Nt xs i=b at*
  generalize Fp (Nt xs) n (i+1)=S at*
  generalize xs.getD i ([],[])=x at*
  generalize xs.getD (i - 1) ([],[])=y at*
  obtain⟨x1,x2⟩:=x
  obtain⟨y1,y2⟩:=y
  simp only at*
  rw[Bt]
  generalize Bg (Bp (ev R) R.glob n0 Bg Xi) [0,3]=F at ih⊢
  by_cases k1:40<x1.length
  ·have k1': (40:Int)< (x1.length:Int):=by omega
   simp only[k1,decide_true,Bool.true_or] at hp
   subst hp
   simp only[Bool.true_or,cond_true]
   refine⟨?_, ?_, ?_, ?_⟩
   rotate_left
   ·simp[Cm,-List.getD_eq_getElem?_getD,-List.map_map,Xi,g0,g3,Fw,c,cj,p0,pj,t0,tj,ga,gb,k1,k1']
    try rfl
   ·intro _;simp[Cm,-List.getD_eq_getElem?_getD,-List.map_map]
   ·intro h;simp at h
  ·have k1': ¬ (40:Int)< (x1.length:Int):=by omega
   by_cases k2:40<x2.length
   ·have k2': (40:Int)< (x2.length:Int):=by omega
    simp only[k1,k2,decide_true,decide_false,Bool.false_or,Bool.true_or] at hp
    subst hp
    simp only[Bool.true_or,cond_true]
    refine⟨?_, ?_, ?_, ?_⟩
    rotate_left
    ·simp[Cm,-List.getD_eq_getElem?_getD,-List.map_map,Xi,g0,g3,Fw,c,cj,p0,pj,t0,tj,ga,gb,k1,k1',k2,k2']
     try rfl
    ·intro _;simp[Cm,-List.getD_eq_getElem?_getD,-List.map_map]
    ·intro h;simp at h
   ·have k2': ¬ (40:Int)< (x2.length:Int):=by omega
    by_cases k3:0<i
    ·have w0:=w0 k3
     have z0:=z0 k3
     cases hl:Op.bytesLess y1 x1 with
     |false=>
      simp only[k1,k2,k3,hl,decide_true,decide_false,Bool.false_or,Bool.true_and,Bool.not_false] at hp
      subst hp
      simp only[Bool.true_or,cond_true]
      refine⟨?_, ?_, ?_, ?_⟩
      rotate_left
      ·simp[Cm,-List.getD_eq_getElem?_getD,-List.map_map,Xi,g0,g3,Fw,c,cj,p0,pj,t0,tj,ga,gb,k1,k1',k2,k2',z0,w0,hl]
       try rfl
      ·intro _;simp[Cm,-List.getD_eq_getElem?_getD,-List.map_map]
      ·intro h;simp at h
     |true=>
      simp only[k1,k2,k3,hl,decide_true,decide_false,Bool.false_or,Bool.true_and,Bool.not_true] at hp
      subst hp
      simp only[Bool.false_or]
      simp[Cm,-List.getD_eq_getElem?_getD,-List.map_map,Xi,g0,g3,Fw,c,cj,p0,pj,t0,tj,w1,ga,gb,k1,k1',k2,k2',z0,w0,hl]
      refine ih _ hk ?_ ?_<;>rfl
    ·have z1:=z1 k3
     simp only[k1,k2,k3,decide_false,Bool.false_or,Bool.false_and] at hp
     subst hp
     simp only[Bool.false_or]
     simp[Cm,-List.getD_eq_getElem?_getD,-List.map_map,Xi,g0,g3,Fw,c,cj,p0,pj,t0,tj,w1,ga,gb,k1,k1',k2,k2',z1]
     refine ih _ hk ?_ ?_<;>rfl
theorem Bg6 (H:Hp) (xs:List Pr) (hx:xs.length≤9223372036854775807):ev R 63 [.d (Fw xs)] H=some (.d (.bool (Du xs)),H):=by
 refine Bh (fn:=f63) rfl rfl ?_
 obtain⟨e',he,h1,h2⟩:=B3e (Be H) xs hx H xs.length 0 [(0, .d (Fw xs)),(3, .d (.int .i64 0))] (by omega) rfl rfl
 unfold Du
 simp only[Fw] at he h2
 cases hb:Fp (Nt xs) xs.length 0 with
 |true=>
  have h1:=h1 hb
  simp only[hb,cond_true] at he
  simp[Cm,-List.getD_eq_getElem?_getD,-List.map_map,f63,Fw,he,h1]
 |false=>
  have h2:=h2 hb
  simp only[hb,cond_false] at he
  by_cases hl:xs.length≤16
  ·have hl': (xs.length:Int)≤16:=by omega
   simp[Cm,-List.getD_eq_getElem?_getD,-List.map_map,f63,Fw,he,h2,hl,hl']
  ·have hl': ¬ (xs.length:Int)≤16:=by omega
   simp[Cm,-List.getD_eq_getElem?_getD,-List.map_map,f63,Fw,he,h2,hl,hl']
theorem B3h (n0:Nat) (xs:List Pr) (hx:xs.length≤9223372036854775807) (H:Hp): ∀ (n i:Nat) (X:Hp) (e:Env),i+n=xs.length→C8 X (Be H)=H→Be H≤Be X→e.get 0= .d (Fw xs)→e.get 5= .d (Fw xs)→e.get 6= .d (.int .i64 xs.length)→e.get 7= .d (.int .i64 i)→
  ∃e' X',Bg (Bp (ev R) R.glob n0 Bg Xj) [0,5,6,7] ⟨e,X⟩=some ((bif Fp (Nt xs) n i then .ret else .exit 0),⟨e',X'⟩)∧
   (Fp (Nt xs) n i=true→e'.get 2= .d (.bool false))∧(Fp (Nt xs) n i=false→e'.get 0= .d (Fw xs))∧C8 X' (Be H)=H
 |0,i,X,e,h1,hx1,hx2,g0,g5,g6,g3=>by
  have c: ¬ (i:Int)< (xs.length:Int):=by omega
  have c': ¬i<xs.length:=by omega
  rw[Bt]
  simp only[Fp]
  refine⟨?_,X, ?_, ?_, ?_, ?_⟩
  rotate_left
  ·simp[Cm,-List.getD_eq_getElem?_getD,-List.map_map,Xj,g0,g5,g6,g3,Fw,c,c']
   try rfl
  ·intro h;simp at h
  ·intro _;simp[Cm,-List.getD_eq_getElem?_getD,-List.map_map,g0,Fw]
  ·exact hx1
 |n+1,i,X,e,h1,hx1,hx2,g0,g5,g6,g3=>by
  have h4:i+(n+1)=xs.length:=h1
  have c':i<xs.length:=by omega
  have ga:=Xw xs i c'
  have hp:Nt xs i=(decide (40< (xs.getD i ([],[])).1.length) ||decide (40< (xs.getD i ([],[])).2.length) || (decide (0<i) && !Op.bytesLess (xs.getD (i - 1) ([],[])).1 (xs.getD i ([],[])).1)):=rfl
  have gb:=Xw xs (i - 1) (by omega)
  obtain⟨I,hI⟩: ∃I:Int,(i:Int)=I:=⟨_,rfl⟩
  obtain⟨I2,hI2⟩: ∃I:Int,((i+1:Nat):Int)=I:=⟨_,rfl⟩
  obtain⟨J,hJ⟩: ∃I:Int,((i - 1:Nat):Int)=I:=⟨_,rfl⟩
  have w1:IntKind.i64.wrap (I+1)=I2:=by rw[IntWalk.i64_in _ (by omega)];omega
  have c:I< (xs.length:Int):=by omega
  have cj:J< (xs.length:Int):=by omega
  have p0:0≤I:=by omega
  have pj:0≤J:=by omega
  have t0:I.toNat=i:=by omega
  have tj:J.toNat=i - 1:=by omega
  have hk:i+1+n=xs.length:=by omega
  have w0:0<i→IntKind.i64.wrap (I - 1)=J:=fun _=>by rw[IntWalk.i64_in _ (by omega)];omega
  have z0:0<i→0<I:=fun _=>by omega
  have z1: ¬0<i→¬0<I:=fun _=>by omega
  have ga': ∀z:D,Np (Bu X (.row 0 2 [.d (.agg [.str [], .str []])])) (Be X) 0 0 0 [.d (.str (xs.getD i ([],[])).1), .d (.str (xs.getD i ([],[])).2)]=some (Bu X (.row 0 2 [.d (.agg [.str (xs.getD i ([],[])).1, .str (xs.getD i ([],[])).2])])):=fun _=>by
   simp[Np,C9,V.cells,D.cells,Mf,V.isAgg,Ny,Gu,Q6]
  have st:=ga' .nilp
  have ld0:Dw (Bu X (.row 0 2 [.d (.agg [.str (xs.getD i ([],[])).1, .str (xs.getD i ([],[])).2])])) (Be X) 0 0 0 1=some [.d (.str (xs.getD i ([],[])).1)]:=by simp[Dw,C9,V.cells,D.cells]
  have ld1:Dw (Bu X (.row 0 2 [.d (.agg [.str (xs.getD i ([],[])).1, .str (xs.getD i ([],[])).2])])) (Be X) 0 0 1 1=some [.d (.str (xs.getD i ([],[])).2)]:=by simp[Dw,C9,V.cells,D.cells]
  have tk:C8 (Bu X (.row 0 2 [.d (.agg [.str (xs.getD i ([],[])).1, .str (xs.getD i ([],[])).2])])) (Be H)=H:=by rw[Bhl _ hx2];exact hx1
  have lk:Be H≤Be (Bu X (.row 0 2 [.d (.agg [.str (xs.getD i ([],[])).1, .str (xs.getD i ([],[])).2])])):=by rw[Cg];omega
  have ih:=B3h n0 xs hx H n (i+1) (Bu X (.row 0 2 [.d (.agg [.str (xs.getD i ([],[])).1, .str (xs.getD i ([],[])).2])]))
  generalize Bu X (.row 0 2 [.d (.agg [.str (xs.getD i ([],[])).1, .str (xs.getD i ([],[])).2])])=Y at*
  rw[hI] at g3
  rw[hI2] at ih
  simp only[Fp]
  generalize Nt xs i=b at*
  generalize Fp (Nt xs) n (i+1)=S at*
  generalize xs.getD i ([],[])=x at*
  generalize xs.getD (i - 1) ([],[])=y at*
  obtain⟨x1,x2⟩:=x
  obtain⟨y1,y2⟩:=y
  simp only at*
  rw[Bt]
  generalize Bg (Bp (ev R) R.glob n0 Bg Xj) [0,5,6,7]=F at ih⊢
  by_cases k1:40<x1.length
  ·have k1': (40:Int)< (x1.length:Int):=by omega
   simp only[k1,decide_true,Bool.true_or] at hp
   subst hp
   simp only[Bool.true_or,cond_true]
   refine⟨?_,Y, ?_, ?_, ?_, ?_⟩
   rotate_left
   ·simp[Cm,-List.getD_eq_getElem?_getD,-List.map_map,Xj,g0,g5,g6,g3,Fw,c,cj,p0,pj,t0,tj,ga,gb,st,ld0,ld1,k1,k1']
    try rfl
   ·intro _;simp[Cm,-List.getD_eq_getElem?_getD,-List.map_map]
   ·intro h;simp at h
   ·exact tk
  ·have k1': ¬ (40:Int)< (x1.length:Int):=by omega
   by_cases k2:40<x2.length
   ·have k2': (40:Int)< (x2.length:Int):=by omega
    simp only[k1,k2,decide_true,decide_false,Bool.false_or,Bool.true_or] at hp
    subst hp
    simp only[Bool.true_or,cond_true]
    refine⟨?_,Y, ?_, ?_, ?_, ?_⟩
    rotate_left
    ·simp[Cm,-List.getD_eq_getElem?_getD,-List.map_map,Xj,g0,g5,g6,g3,Fw,c,cj,p0,pj,t0,tj,ga,gb,st,ld0,ld1,k1,k1',k2,k2']
     try rfl
    ·intro _;simp[Cm,-List.getD_eq_getElem?_getD,-List.map_map]
    ·intro h;simp at h
    ·exact tk
   ·have k2': ¬ (40:Int)< (x2.length:Int):=by omega
    by_cases k3:0<i
    ·have w0:=w0 k3
     have z0:=z0 k3
     cases hl:Op.bytesLess y1 x1 with
     |false=>
      simp only[k1,k2,k3,hl,decide_true,decide_false,Bool.false_or,Bool.true_and,Bool.not_false] at hp
      subst hp
      simp only[Bool.true_or,cond_true]
      refine⟨?_,Y, ?_, ?_, ?_, ?_⟩
      rotate_left
      ·simp[Cm,-List.getD_eq_getElem?_getD,-List.map_map,Xj,g0,g5,g6,g3,Fw,c,cj,p0,pj,t0,tj,ga,gb,st,ld0,ld1,k1,k1',k2,k2',z0,w0,hl]
       try rfl
      ·intro _;simp[Cm,-List.getD_eq_getElem?_getD,-List.map_map]
      ·intro h;simp at h
      ·exact tk
     |true=>
      simp only[k1,k2,k3,hl,decide_true,decide_false,Bool.false_or,Bool.true_and,Bool.not_true] at hp
      subst hp
      simp only[Bool.false_or]
      simp[Cm,-List.getD_eq_getElem?_getD,-List.map_map,Xj,g0,g5,g6,g3,Fw,c,cj,p0,pj,t0,tj,w1,ga,gb,st,ld0,ld1,k1,k1',k2,k2',z0,w0,hl]
      refine ih _ hk tk lk ?_ ?_ ?_ ?_<;> (first|rfl|exact g6)
    ·have z1:=z1 k3
     simp only[k1,k2,k3,decide_false,Bool.false_or,Bool.false_and] at hp
     subst hp
     simp only[Bool.false_or]
     simp[Cm,-List.getD_eq_getElem?_getD,-List.map_map,Xj,g0,g5,g6,g3,Fw,c,cj,p0,pj,t0,tj,w1,ga,gb,st,ld0,ld1,k1,k1',k2,k2',z1]
     refine ih _ hk tk lk ?_ ?_ ?_ ?_<;> (first|rfl|exact g6)
theorem Bkb (H:Hp) (xs:List Pr) (hx:xs.length≤9223372036854775807):ev R 72 [.d (Fw xs)] H=some (.d (.bool (Du xs)),H):=by
 refine Bh (fn:=f72) rfl rfl ?_
 obtain⟨e',X',he,h1,h2,tk⟩:=B3h (Be H) xs hx H xs.length 0 H [(0, .d (Fw xs)),(5, .d (Fw xs)),(6, .d (.int .i64 xs.length)),(7, .d (.int .i64 0))] (by omega) (J2 H) (Nat.le_refl _) rfl rfl rfl rfl
 unfold Du
 simp only[Fw] at he h2
 cases hb:Fp (Nt xs) xs.length 0 with
 |true=>
  have h1:=h1 hb
  simp only[hb,cond_true] at he
  simp[Cm,-List.getD_eq_getElem?_getD,-List.map_map,f72,Fw,he,h1,tk]
 |false=>
  have h2:=h2 hb
  simp only[hb,cond_false] at he
  by_cases hl:xs.length≤16
  ·have hl': (xs.length:Int)≤16:=by omega
   simp[Cm,-List.getD_eq_getElem?_getD,-List.map_map,f72,Fw,he,h2,hl,hl',tk]
  ·have hl': ¬ (xs.length:Int)≤16:=by omega
   simp[Cm,-List.getD_eq_getElem?_getD,-List.map_map,f72,Fw,he,h2,hl,hl',tk]
theorem Bzc (n0:Nat) (xs:List Bq) (hx:xs.length≤9223372036854775807) (H:Hp): ∀ (n i:Nat) (e:Env),i+n=xs.length→e.get 0= .d (Bf xs)→e.get 3= .d (.int .i64 i)→
  ∃e',Bg (Bp (ev R) R.glob n0 Bg Yw) [0,3] ⟨e,H⟩=some ((match Fy (Km xs) n i with|some _=> .ret|none=> .exit 0),⟨e',H⟩)∧
   (∀j,Fy (Km xs) n i=some j→e'.get 2= .d (.bool false))∧(Fy (Km xs) n i=none→e'.get 0= .d (Bf xs))
 |0,i,e,hn,h0,h3=>by
  have c: ¬ (i:Int)< (xs.length:Int):=by omega
  have c': ¬i<xs.length:=by omega
  rw[Bt]
  refine⟨?_, ?_, ?_, ?_⟩
  rotate_left
  ·simp[Cm,-List.getD_eq_getElem?_getD,-List.map_map,Yw,h0,h3,Bf,c,c',Fy]
   rfl
  ·intro j hj;simp[Fy] at hj
  ·intro _
   try refine⟨?_, ?_⟩
   all_goals (first|trivial|simp[Cm,-List.getD_eq_getElem?_getD,-List.map_map,h0,h3,Bf])
 |n+1,i,e,hn,h0,h3=>by
  have c: (i:Int)< (xs.length:Int):=by omega
  have c':i<xs.length:=by omega
  have g:=Dt xs i c'
  have w1:IntKind.i64.wrap ((i:Int)+1)=((i+1:Nat):Int):=by rw[IntWalk.i64_in _ (by omega)];rfl
  have ih:=Bzc n0 xs hx H n (i+1)
  rw[Bt]
  generalize Bg (Bp (ev R) R.glob n0 Bg Yw) [0,3]=F at ih⊢
  by_cases hb:40< (xs.getD i []).length
  ·have hb': (40:Int)< ((xs.getD i []).length:Int):=by omega
   refine⟨?_, ?_, ?_, ?_⟩
   rotate_left
   ·simp[Cm,-List.getD_eq_getElem?_getD,-List.map_map,Yw,h0,h3,Bf,c,c',g,Fy,Km,hb,hb']
    rfl
   ·intro j hj
    simp[Fy,Km,hb,hb',-List.getD_eq_getElem?_getD] at hj
    try subst hj
    simp[Cm,-List.getD_eq_getElem?_getD,-List.map_map]
   ·intro hj;simp[Fy,Km,hb,hb',-List.getD_eq_getElem?_getD] at hj
  ·have hb': ¬ (40:Int)< ((xs.getD i []).length:Int):=by omega
   have hs:Fy (Km xs) (n+1) i=Fy (Km xs) n (i+1):=by simp[Fy,Km,hb,-List.getD_eq_getElem?_getD]
   rw[hs]
   simp[Cm,-List.getD_eq_getElem?_getD,-List.map_map,Yw,h0,h3,Bf,c,c',g,w1,hb,hb']
   refine ih _ (by omega) ?_ ?_<;>rfl
def Pv (xs:List Bq):Bool:=(Fy (Km xs) xs.length 0).isNone&& (decide (1≤xs.length) &&decide (xs.length≤8))
theorem Wm (xs:List Bq):Pv xs=true↔Bnf xs:=by
 unfold Pv Bnf
 constructor
 ·intro h
  simp only[Bool.and_eq_true,decide_eq_true_eq,Option.isNone_iff_eq_none] at h
  obtain⟨h1,h2,h3⟩:=h
  refine⟨fun x hx=> ?_,h2,h3⟩
  obtain⟨i,hi,rfl⟩:=List.getElem_of_mem hx
  have:=Ur h1 i (by omega) (by omega)
  simp only[Km,decide_eq_false_iff_not,List.getD_eq_getElem?_getD,List.getElem?_eq_getElem hi,Option.getD_some] at this
  omega
 ·rintro⟨h1,h2,h3⟩
  simp only[Bool.and_eq_true,decide_eq_true_eq,Option.isNone_iff_eq_none]
  refine⟨?_,h2,h3⟩
  cases hr:Fy (Km xs) xs.length 0 with
  |none=>rfl
  |some j=>
   obtain⟨_,hj,hp,_⟩:=Ri hr
   have hj':j<xs.length:=by omega
   simp only[Km,decide_eq_true_eq,List.getD_eq_getElem?_getD,List.getElem?_eq_getElem hj',Option.getD_some] at hp
   have:=h1 _ (List.getElem_mem hj')
   omega
theorem B2t (H:Hp) (xs:List Bq) (hx:xs.length≤9223372036854775807):ev R 252 [.d (Bf xs)] H=some (.d (.bool (Pv xs)),H):=by
 refine Bh (fn:=f252) rfl rfl ?_
 obtain⟨e',he,h1,h2⟩:=Bzc (Be H) xs hx H xs.length 0 [(0, .d (Bf xs)),(3, .d (.int .i64 0))] (by omega) rfl rfl
 have p:=P8 (xs.length:Int) 1 8
 unfold Pv
 cases hr:Fy (Km xs) xs.length 0 with
 |some j=>
  simp only[hr] at he
  simp[Cm,-List.getD_eq_getElem?_getD,-List.map_map,f252,he,h1 j hr,hr]
 |none=>
  simp only[hr] at he
  have h3:=h2 hr
  have q: (decide ((xs.length:Int)≥1) &&decide ((xs.length:Int)≤8))=(decide (1≤xs.length) &&decide (xs.length≤8)):=by
   congr 1<;>exact decide_eq_decide.2 (by omega)
  rw[q] at p
  simp[Cm,-List.getD_eq_getElem?_getD,-List.map_map,f252,he,h3,hr,Bf,p]
theorem B29 (n0:Nat) (xs:List Bq) (hx:xs.length≤9223372036854775807) (ys:List Bq) (hy:ys.length=xs.length) (H:Hp): ∀ (n i:Nat) (e:Env),i+n=xs.length→e.get 0= .d (Bf xs)→e.get 1= .d (Bf ys)→e.get 5= .d (.int .i64 i)→
  ∃e',Bg (Bp (ev R) R.glob n0 Bg Bdt) [0,1,5] ⟨e,H⟩=some ((match Fy (Qn xs ys) n i with|some _=> .ret|none=> .exit 0),⟨e',H⟩)∧
   (∀j,Fy (Qn xs ys) n i=some j→e'.get 4= .d (.bool false))
 |0,i,e,hn,h0,h1,h5=>by
  have c: ¬ (i:Int)< (xs.length:Int):=by omega
  have c': ¬i<xs.length:=by omega
  have gy:i<ys.length→(ys.map D.str).getD i .nilp= .str (ys.getD i []):=fun h=>Dt ys i h
  rw[Bt]
  refine⟨?_, ?_, ?_⟩
  rotate_left
  ·simp[Cm,-List.getD_eq_getElem?_getD,-List.map_map,Bdt,h0,h1,h5,Bf,c,c',Fy,hy,gy]
   rfl
  ·intro j hj;simp[Fy] at hj
 |n+1,i,e,hn,h0,h1,h5=>by
  have c: (i:Int)< (xs.length:Int):=by omega
  have c':i<xs.length:=by omega
  have g:=Dt xs i c'
  have w1:IntKind.i64.wrap ((i:Int)+1)=((i+1:Nat):Int):=by rw[IntWalk.i64_in _ (by omega)];rfl
  have gy:i<ys.length→(ys.map D.str).getD i .nilp= .str (ys.getD i []):=fun h=>Dt ys i h
  have ih:=B29 n0 xs hx ys hy H n (i+1)
  rw[Bt]
  generalize Bg (Bp (ev R) R.glob n0 Bg Bdt) [0,1,5]=F at ih⊢
  by_cases hb: ¬xs.getD i []=ys.getD i []
  ·skip
   refine⟨?_, ?_, ?_⟩
   rotate_left
   ·simp[Cm,-List.getD_eq_getElem?_getD,-List.map_map,Bdt,h0,h1,h5,Bf,c,c',g,Fy,Qn,hb,hy,gy]
    rfl
   ·intro j hj
    simp[Fy,Qn,hb,-List.getD_eq_getElem?_getD] at hj
    try subst hj
    simp[Cm,-List.getD_eq_getElem?_getD,-List.map_map]
  ·rw[Classical.not_not] at hb
   have hs:Fy (Qn xs ys) (n+1) i=Fy (Qn xs ys) n (i+1):=by simp[Fy,Qn,hb,-List.getD_eq_getElem?_getD]
   rw[hs]
   simp[Cm,-List.getD_eq_getElem?_getD,-List.map_map,Bdt,h0,h1,h5,Bf,c,c',g,w1,hb,hy,gy]
   refine ih _ (by omega) ?_ ?_ ?_<;>rfl
theorem Bom (H:Hp) (xs:List Bq) (hx:xs.length≤9223372036854775807):ev R 28 [.d (Bf xs), .d (Bf xs)] H=some (.d (.bool true),H):=by
 refine Bh (fn:=f28) rfl rfl ?_
 obtain⟨e',he,h1⟩:=B29 (Be H) xs hx xs rfl H xs.length 0 [(0, .d (Bf xs)),(1, .d (Bf xs)),(5, .d (.int .i64 0))] (by omega) rfl rfl rfl
 have hr:Fy (Qn xs xs) xs.length 0=none:=by
  cases hr:Fy (Qn xs xs) xs.length 0 with
  |none=>rfl
  |some j=>
   have:=(Ri hr).2.2.1
   simp[Qn] at this
 simp only[hr] at he
 simp[Cm,-List.getD_eq_getElem?_getD,-List.map_map,f28,he]
theorem Bpd (xs:List Bq) (hx:xs.length≤9223372036854775807):Bc (ev R) 28 [.d (Bf xs), .d (Bf xs)]=some (.d (.bool true)):=Bb fun H=>Bom H xs hx
end Go.Proofs.YtpajcoanfkeibaaGreatDoor.Code

/- Lemmas (several texts in one). -/
import Derived.Test.YtpajcoanfkeibaaGreatDoorMDoRename4
import Derived.Test.YtpajcoanfkeibaaGreatDoorMDoRename5
import Derived.Test.YtpajcoanfkeibaaGreatDoorMDoRename6
import Derived.Test.YtpajcoanfkeibaaGreatDoorMDoRename7
import Derived.Test.YtpajcoanfkeibaaGreatDoorMDoRename8
import Derived.Test.YtpajcoanfkeibaaGreatDoorMDoRename9
set_option maxRecDepth 100000
set_option linter.unusedSimpArgs false
set_option linter.unusedVariables false
set_option maxHeartbeats 2000000
namespace Go.Proofs.YtpajcoanfkeibaaGreatDoor.Code
open Go Go.Ev Go.Proofs
def J9 (xs:List Bq) (i:Nat):Bool:=decide (40< (xs.getD i []).length)
def Cj (xs:List Bq):Bool:=(Fu (J9 xs) xs.length 0).isNone&&decide (xs.length≤16)
theorem B14 (n0:Nat) (xs:List Bq) (hx:xs.length≤9223372036854775807) (H:Hp): ∀ (n i:Nat) (e:Env),i+n=xs.length→e.get 0= .d (Bf xs)→e.get 3= .d (.int .i64 i)→
  ∃e',Bg (Bp (ev R) R.glob n0 Bg Bdk) [0,3] ⟨e,H⟩=some ((match Fu (J9 xs) n i with|some _=> .ret|none=> .exit 0),⟨e',H⟩)∧
   (∀j,Fu (J9 xs) n i=some j→e'.get 2= .d (.bool false))∧(Fu (J9 xs) n i=none→e'.get 0= .d (Bf xs))
 |0,i,e,hn,h0,h3=>by
  have c: ¬ (i:Int)< (xs.length:Int):=by omega
  have c': ¬i<xs.length:=by omega
  rw[Bu]
  refine⟨?_, ?_, ?_, ?_⟩
  rotate_left
  ·simp[Cn,-List.getD_eq_getElem?_getD,-List.map_map,Bdk,h0,h3,Bf,c,c',Fu]
   rfl
  ·intro j hj;simp[Fu] at hj
  ·intro _
   try refine⟨?_, ?_⟩
   all_goals (first|trivial|simp[Cn,-List.getD_eq_getElem?_getD,-List.map_map,h0,h3,Bf])
 |n+1,i,e,hn,h0,h3=>by
  have c: (i:Int)< (xs.length:Int):=by omega
  have c':i<xs.length:=by omega
  have g:=Dj xs i c'
  have w1:IntKind.i64.wrap ((i:Int)+1)=((i+1:Nat):Int):=by rw[IntWalk.i64_in _ (by omega)];rfl
  have ih:=B14 n0 xs hx H n (i+1)
  rw[Bu]
  generalize Bg (Bp (ev R) R.glob n0 Bg Bdk) [0,3]=F at ih⊢
  by_cases hb:40< (xs.getD i []).length
  ·have hb': (40:Int)< ((xs.getD i []).length:Int):=by omega
   refine⟨?_, ?_, ?_, ?_⟩
   rotate_left
   ·simp[Cn,-List.getD_eq_getElem?_getD,-List.map_map,Bdk,h0,h3,Bf,c,c',g,hb,hb',Fu,J9]
    rfl
   ·intro j hj
    simp[Fu,J9,hb,-List.getD_eq_getElem?_getD] at hj
    try subst hj
    simp[Cn,-List.getD_eq_getElem?_getD,-List.map_map]
   ·intro hj;simp[Fu,J9,hb,-List.getD_eq_getElem?_getD] at hj
  ·have hb': ¬ (40:Int)< ((xs.getD i []).length:Int):=by omega
   have hs:Fu (J9 xs) (n+1) i=Fu (J9 xs) n (i+1):=by simp[Fu,J9,hb,-List.getD_eq_getElem?_getD]
   rw[hs]
   simp[Cn,-List.getD_eq_getElem?_getD,-List.map_map,Bdk,h0,h3,Bf,c,c',g,hb,hb',w1]
   refine ih _ (by omega) ?_ ?_<;>rfl
theorem Bzs (n0:Nat) (xs:List Bq) (hx:xs.length≤9223372036854775807) (m:Int) (H:Hp): ∀ (n i:Nat) (e:Env),i+n=xs.length→e.get 0= .d (Bf xs)→e.get 1= .d (.int .i64 m)→e.get 7= .d (Bf xs)→e.get 8= .d (.int .i64 xs.length)→e.get 9= .d (.int .i64 i)→
  ∃e',Bg (Bp (ev R) R.glob n0 Bg Bdj) [0,1,7,8,9] ⟨e,H⟩=some ((match Fu (J9 xs) n i with|some _=> .ret|none=> .exit 0),⟨e',H⟩)∧
   (∀j,Fu (J9 xs) n i=some j→e'.get 4= .d (.bool false))∧(Fu (J9 xs) n i=none→e'.get 0= .d (Bf xs)∧e'.get 1= .d (.int .i64 m))
 |0,i,e,hn,h0,h1,h7,h8,h9=>by
  have c: ¬ (i:Int)< (xs.length:Int):=by omega
  have c': ¬i<xs.length:=by omega
  rw[Bu]
  refine⟨?_, ?_, ?_, ?_⟩
  rotate_left
  ·simp[Cn,-List.getD_eq_getElem?_getD,-List.map_map,Bdj,h0,h1,h7,h8,h9,Bf,c,c',Fu]
   rfl
  ·intro j hj;simp[Fu] at hj
  ·intro _
   try refine⟨?_, ?_⟩
   all_goals (first|trivial|simp[Cn,-List.getD_eq_getElem?_getD,-List.map_map,h0,h1,h7,h8,h9,Bf])
 |n+1,i,e,hn,h0,h1,h7,h8,h9=>by
  have c: (i:Int)< (xs.length:Int):=by omega
  have c':i<xs.length:=by omega
  have g:=Dj xs i c'
  have w1:IntKind.i64.wrap ((i:Int)+1)=((i+1:Nat):Int):=by rw[IntWalk.i64_in _ (by omega)];rfl
  have ih:=Bzs n0 xs hx m H n (i+1)
  rw[Bu]
  generalize Bg (Bp (ev R) R.glob n0 Bg Bdj) [0,1,7,8,9]=F at ih⊢
  by_cases hb:40< (xs.getD i []).length
  ·have hb': (40:Int)< ((xs.getD i []).length:Int):=by omega
   refine⟨?_, ?_, ?_, ?_⟩
   rotate_left
   ·simp[Cn,-List.getD_eq_getElem?_getD,-List.map_map,Bdj,h0,h1,h7,h8,h9,Bf,c,c',g,hb,hb',Fu,J9]
    rfl
   ·intro j hj
    simp[Fu,J9,hb,-List.getD_eq_getElem?_getD] at hj
    try subst hj
    simp[Cn,-List.getD_eq_getElem?_getD,-List.map_map]
   ·intro hj;simp[Fu,J9,hb,-List.getD_eq_getElem?_getD] at hj
  ·have hb': ¬ (40:Int)< ((xs.getD i []).length:Int):=by omega
   have hs:Fu (J9 xs) (n+1) i=Fu (J9 xs) n (i+1):=by simp[Fu,J9,hb,-List.getD_eq_getElem?_getD]
   rw[hs]
   simp[Cn,-List.getD_eq_getElem?_getD,-List.map_map,Bdj,h0,h1,h7,h8,h9,Bf,c,c',g,hb,hb',w1]
   refine ih _ (by omega) ?_ ?_ ?_ ?_ ?_<;>rfl
theorem Bey (H:Hp) (xs:List Bq) (hx:xs.length≤9223372036854775807):ev R 60 [.d (Bf xs)] H=some (.d (.bool (Cj xs)),H):=by
 refine Bh (fn:=f60) rfl rfl ?_
 obtain⟨e',he,h1,h2⟩:=B14 (Bc H) xs hx H xs.length 0 [(0, .d (Bf xs)),(3, .d (.int .i64 0))] (by omega) rfl rfl
 cases hr:Fu (J9 xs) xs.length 0 with
 |some j=>
  simp only[hr] at he
  simp[Cn,-List.getD_eq_getElem?_getD,-List.map_map,f60,he,h1 j hr,Cj,hr]
 |none=>
  simp only[hr] at he
  have h3:=h2 hr
  simp[Cn,-List.getD_eq_getElem?_getD,-List.map_map,f60,he,h3,Cj,hr,Bf]
  omega
theorem B6e (H:Hp) (xs:List Bq) (hx:xs.length≤9223372036854775807):ev R 53 [.d (Bf xs), .d (.int .i64 16)] H=some (.d (.bool (Cj xs)),H):=by
 refine Bh (fn:=f53) rfl rfl ?_
 obtain⟨e',he,h1,h2⟩:=Bzs (Bc H) xs hx 16 H xs.length 0 [(0, .d (Bf xs)),(1, .d (.int .i64 16)),(7, .d (Bf xs)),(8, .d (.int .i64 xs.length)),(9, .d (.int .i64 0))] (by omega) rfl rfl rfl rfl rfl
 cases hr:Fu (J9 xs) xs.length 0 with
 |some j=>
  simp only[hr] at he
  simp[Cn,-List.getD_eq_getElem?_getD,-List.map_map,f53,he,h1 j hr,Cj,hr]
 |none=>
  simp only[hr] at he
  obtain⟨h3,h4⟩:=h2 hr
  simp[Cn,-List.getD_eq_getElem?_getD,-List.map_map,f53,he,h3,h4,Cj,hr,Bf]
  omega
theorem Bgp (H:Hp) (xs:List Bq) (hx:xs.length≤9223372036854775807):ev R 69 [.d (Bf xs)] H=some (.d (.bool (Cj xs)),H):=by
 refine Bh (fn:=f69) rfl rfl ?_
 have p63:Be (ev R) 53 [.d (Bf xs), .d (.int .i64 16)]=some (.d (.bool (Cj xs))):=Bb fun H=>B6e H xs hx
 simp[Cn,-List.getD_eq_getElem?_getD,-List.map_map,f69,p63]
def Qd (xs ys:List Bq) (i:Nat):Bool:=decide (¬xs.getD i []=ys.getD i [])
def Btc (xs:List Bq):Nat→Nat→Int→Int
 |0,_,l=>l
 |n+1,i,l=>if l - (xs.getD i []).length<0 then -1 else Btc xs n (i+1) (l - (xs.getD i []).length)
def left (xs:List Bq):Int:=if 1048576 - (xs.length:Int)<0 then -1 else(if Btc xs xs.length 0 (1048576 - xs.length)<0 then -1 else Btc xs xs.length 0 (1048576 - xs.length))
namespace fnExactListAt
end fnExactListAt
theorem P9 (xs:List Sc) (i:Nat) (hi:i<xs.length): (xs.map Kk).getD i .nilp= .agg [.str (xs.getD i ([],0)).1, .int .i64 (xs.getD i ([],0)).2]:=by
 simp[Kk,List.getD_eq_getElem?_getD,hi]
theorem Xp (xs:List Pr) (i:Nat) (hi:i<xs.length): (xs.map Kz).getD i .nilp= .agg [.str (xs.getD i ([],[])).1, .str (xs.getD i ([],[])).2]:=by
 simp[Kz,List.getD_eq_getElem?_getD,hi]
theorem Bgl (H:Hp) (s:Bq):ev R 59 [.d (.str s)] H=some (.d (.bool (decide ((s.length:Int)≥1) &&decide ((s.length:Int)≤12))),H):=by
 refine Bh (fn:=f59) rfl rfl ?_
 have p:=Ps (s.length:Int) 1 12
 simp[Cn,-List.getD_eq_getElem?_getD,-List.map_map,f59,p]
theorem Bex (H:Hp) (s:Bq):ev R 57 [.d (.str s)] H=some (.d (.bool (decide ((s.length:Int)≥1) &&decide ((s.length:Int)≤12))),H):=by
 refine Bh (fn:=f57) rfl rfl ?_
 have p:=Bb6 (s.length:Int) 1 12
 simp[Cn,-List.getD_eq_getElem?_getD,-List.map_map,f57,p]
def D9 (p:Nat→Bool):Nat→Nat→Bool
 |0,_=>false
 |n+1,i=>p i||D9 p n (i+1)
def Lc (xs:List Bq) (i:Nat):Bool:= !Op.bytesLess (xs.getD (i - 1) []) (xs.getD i [])
def Gl (xs:List Bq):Bool:= !D9 (Lc xs) (xs.length - 1) 1&&Cj xs
theorem B15 (n0:Nat) (xs:List Bq) (hx:xs.length≤9223372036854775807) (H:Hp): ∀ (n i:Nat) (e:Env),xs.length≤i+n→i+n≤xs.length+1→1≤i→(n=0∨i+n=xs.length)→e.get 0= .d (Bf xs)→e.get 3= .d (.int .i64 i)→
  ∃e',Bg (Bp (ev R) R.glob n0 Bg Bdl) [0,3] ⟨e,H⟩=some ((bif D9 (Lc xs) n i then .ret else .exit 0),⟨e',H⟩)∧
   (D9 (Lc xs) n i=true→e'.get 2= .d (.bool false))∧(D9 (Lc xs) n i=false→e'.get 0= .d (Bf xs))
 |0,i,e,h1,h2,h3,h4,g0,g3=>by
  have c: ¬ (i:Int)< (xs.length:Int):=by omega
  have c': ¬i<xs.length:=by omega
  rw[Bu]
  simp only[D9]
  refine⟨?_, ?_, ?_, ?_⟩
  rotate_left
  ·simp[Cn,-List.getD_eq_getElem?_getD,-List.map_map,Bdl,g0,g3,Bf,c,c']
   try rfl
  ·intro h;simp at h
  ·intro _;simp[Cn,-List.getD_eq_getElem?_getD,-List.map_map,g0,Bf]
 |n+1,i,e,h1,h2,h3,h4,g0,g3=>by
  have h4:i+(n+1)=xs.length:=by omega
  have c':i<xs.length:=by omega
  have ih:=B15 n0 xs hx H n (i+1)
  have ga:=Dj xs i c'
  have gb:=Dj xs (i - 1) (by omega)
  have hp:Lc xs i= !Op.bytesLess (xs.getD (i - 1) []) (xs.getD i []):=rfl
  obtain⟨I,hI⟩: ∃I:Int,(i:Int)=I:=⟨_,rfl⟩
  obtain⟨I2,hI2⟩: ∃I:Int,((i+1:Nat):Int)=I:=⟨_,rfl⟩
  obtain⟨J,hJ⟩: ∃I:Int,((i - 1:Nat):Int)=I:=⟨_,rfl⟩
  have w0:IntKind.i64.wrap (I - 1)=J:=by rw[IntWalk.i64_in _ (by omega)];omega
  have w1:IntKind.i64.wrap (I+1)=I2:=by rw[IntWalk.i64_in _ (by omega)];omega
  have c:I< (xs.length:Int):=by omega
  have cj:J< (xs.length:Int):=by omega
  have p0:0≤I:=by omega
  have pj:0≤J:=by omega
  have t0:I.toNat=i:=by omega
  have tj:J.toNat=i - 1:=by omega
  have hk:xs.length≤i+1+n:=by omega
  have hk2:i+1+n≤xs.length+1:=by omega
  have hk3:n=0∨i+1+n=xs.length:=by omega
  rw[hI] at g3
  rw[hI2] at ih
  simp only[D9]
  generalize Lc xs i=b at*
  generalize D9 (Lc xs) n (i+1)=S at*
  generalize xs.getD i []=x at*
  generalize xs.getD (i - 1) []=y at*
  rw[Bu]
  generalize Bg (Bp (ev R) R.glob n0 Bg Bdl) [0,3]=F at ih⊢
  cases hl:Op.bytesLess y x with
  |false=>
   rw[hl] at hp
   subst hp
   simp only[Bool.not_false,Bool.true_or,cond_true]
   refine⟨?_, ?_, ?_, ?_⟩
   rotate_left
   ·simp[Cn,-List.getD_eq_getElem?_getD,-List.map_map,Bdl,g0,g3,Bf,c,cj,p0,pj,t0,tj,w0,ga,gb,hl]
    try rfl
   ·intro _;simp[Cn,-List.getD_eq_getElem?_getD,-List.map_map]
   ·intro h;simp at h
  |true=>
   rw[hl] at hp
   subst hp
   simp only[Bool.not_true,Bool.false_or]
   simp[Cn,-List.getD_eq_getElem?_getD,-List.map_map,Bdl,g0,g3,Bf,c,cj,p0,pj,t0,tj,w0,w1,ga,gb,hl]
   refine ih _ hk hk2 (by omega) hk3 ?_ ?_<;>rfl
theorem Bgm (H:Hp) (xs:List Bq) (hx:xs.length≤9223372036854775807):ev R 61 [.d (Bf xs)] H=some (.d (.bool (Gl xs)),H):=by
 refine Bh (fn:=f61) rfl rfl ?_
 have p:=Bb (cl:=ev R) fun H=>Bey H xs hx
 obtain⟨e',he,h1,h2⟩:=B15 (Bc H) xs hx H (xs.length - 1) 1 [(0, .d (Bf xs)),(3, .d (.int .i64 1))] (by omega) (by omega) (by omega) (by omega) rfl rfl
 unfold Gl
 cases hb:D9 (Lc xs) (xs.length - 1) 1 with
 |true=>
  have h1:=h1 hb
  simp only[hb,cond_true] at he
  simp[Cn,-List.getD_eq_getElem?_getD,-List.map_map,f61,he,h1]
 |false=>
  have h2:=h2 hb
  simp only[hb,cond_false] at he
  simp[Cn,-List.getD_eq_getElem?_getD,-List.map_map,f61,he,h2,p]
theorem B18 (n0:Nat) (xs:List Bq) (hx:xs.length≤9223372036854775807) (H:Hp): ∀ (n i:Nat) (e:Env),xs.length≤i+n→i+n≤xs.length+1→1≤i→(n=0∨i+n=xs.length)→e.get 0= .d (Bf xs)→e.get 3= .d (.int .i64 i)→
  ∃e',Bg (Bp (ev R) R.glob n0 Bg Bdn) [0,3] ⟨e,H⟩=some ((bif D9 (Lc xs) n i then .ret else .exit 0),⟨e',H⟩)∧
   (D9 (Lc xs) n i=true→e'.get 2= .d (.bool false))∧(D9 (Lc xs) n i=false→e'.get 0= .d (Bf xs))
 |0,i,e,h1,h2,h3,h4,g0,g3=>by
  have c: ¬ (i:Int)< (xs.length:Int):=by omega
  have c': ¬i<xs.length:=by omega
  rw[Bu]
  simp only[D9]
  refine⟨?_, ?_, ?_, ?_⟩
  rotate_left
  ·simp[Cn,-List.getD_eq_getElem?_getD,-List.map_map,Bdn,g0,g3,Bf,c,c']
   try rfl
  ·intro h;simp at h
  ·intro _;simp[Cn,-List.getD_eq_getElem?_getD,-List.map_map,g0,Bf]
 |n+1,i,e,h1,h2,h3,h4,g0,g3=>by
  have h4:i+(n+1)=xs.length:=by omega
  have c':i<xs.length:=by omega
  have ih:=B18 n0 xs hx H n (i+1)
  have ga:=Dj xs i c'
  have gb:=Dj xs (i - 1) (by omega)
  have hp:Lc xs i= !Op.bytesLess (xs.getD (i - 1) []) (xs.getD i []):=rfl
  obtain⟨I,hI⟩: ∃I:Int,(i:Int)=I:=⟨_,rfl⟩
  obtain⟨I2,hI2⟩: ∃I:Int,((i+1:Nat):Int)=I:=⟨_,rfl⟩
  obtain⟨J,hJ⟩: ∃I:Int,((i - 1:Nat):Int)=I:=⟨_,rfl⟩
  have w0:IntKind.i64.wrap (I - 1)=J:=by rw[IntWalk.i64_in _ (by omega)];omega
  have w1:IntKind.i64.wrap (I+1)=I2:=by rw[IntWalk.i64_in _ (by omega)];omega
  have c:I< (xs.length:Int):=by omega
  have cj:J< (xs.length:Int):=by omega
  have p0:0≤I:=by omega
  have pj:0≤J:=by omega
  have t0:I.toNat=i:=by omega
  have tj:J.toNat=i - 1:=by omega
  have hk:xs.length≤i+1+n:=by omega
  have hk2:i+1+n≤xs.length+1:=by omega
  have hk3:n=0∨i+1+n=xs.length:=by omega
  rw[hI] at g3
  rw[hI2] at ih
  simp only[D9]
  generalize Lc xs i=b at*
  generalize D9 (Lc xs) n (i+1)=S at*
  generalize xs.getD i []=x at*
  generalize xs.getD (i - 1) []=y at*
  rw[Bu]
  generalize Bg (Bp (ev R) R.glob n0 Bg Bdn) [0,3]=F at ih⊢
  cases hl:Op.bytesLess y x with
  |false=>
   rw[hl] at hp
   subst hp
   simp only[Bool.not_false,Bool.true_or,cond_true]
   refine⟨?_, ?_, ?_, ?_⟩
   rotate_left
   ·simp[Cn,-List.getD_eq_getElem?_getD,-List.map_map,Bdn,g0,g3,Bf,c,cj,p0,pj,t0,tj,w0,ga,gb,hl]
    try rfl
   ·intro _;simp[Cn,-List.getD_eq_getElem?_getD,-List.map_map]
   ·intro h;simp at h
  |true=>
   rw[hl] at hp
   subst hp
   simp only[Bool.not_true,Bool.false_or]
   simp[Cn,-List.getD_eq_getElem?_getD,-List.map_map,Bdn,g0,g3,Bf,c,cj,p0,pj,t0,tj,w0,w1,ga,gb,hl]
   refine ih _ hk hk2 (by omega) hk3 ?_ ?_<;>rfl
theorem Bjr (H:Hp) (xs:List Bq) (hx:xs.length≤9223372036854775807):ev R 70 [.d (Bf xs)] H=some (.d (.bool (Gl xs)),H):=by
 refine Bh (fn:=f70) rfl rfl ?_
 have p:=Bb (cl:=ev R) fun H=>Bgp H xs hx
 obtain⟨e',he,h1,h2⟩:=B18 (Bc H) xs hx H (xs.length - 1) 1 [(0, .d (Bf xs)),(3, .d (.int .i64 1))] (by omega) (by omega) (by omega) (by omega) rfl rfl
 unfold Gl
 cases hb:D9 (Lc xs) (xs.length - 1) 1 with
 |true=>
  have h1:=h1 hb
  simp only[hb,cond_true] at he
  simp[Cn,-List.getD_eq_getElem?_getD,-List.map_map,f70,he,h1]
 |false=>
  have h2:=h2 hb
  simp only[hb,cond_false] at he
  simp[Cn,-List.getD_eq_getElem?_getD,-List.map_map,f70,he,h2,p]
def Nf (xs:List Pr) (i:Nat):Bool:=decide (40< (xs.getD i ([],[])).1.length) ||decide (40< (xs.getD i ([],[])).2.length) || (decide (0<i) && !Op.bytesLess (xs.getD (i - 1) ([],[])).1 (xs.getD i ([],[])).1)
theorem Bg3 {X:Hp} {n:Nat} (o:Ev.Obj) (h:n≤Bc X):Cx (Bt X o) n=Cx X n:=by
 simp only[Cx,Bt,Bc] at*
 rw[List.take_append_of_le_length h]
def Dl (xs:List Pr):Bool:= !D9 (Nf xs) xs.length 0&&decide (xs.length≤16)
theorem B17 (n0:Nat) (xs:List Pr) (hx:xs.length≤9223372036854775807) (H:Hp): ∀ (n i:Nat) (e:Env),i+n=xs.length→e.get 0= .d (Ff xs)→e.get 3= .d (.int .i64 i)→
  ∃e',Bg (Bp (ev R) R.glob n0 Bg Xc) [0,3] ⟨e,H⟩=some ((bif D9 (Nf xs) n i then .ret else .exit 0),⟨e',H⟩)∧
   (D9 (Nf xs) n i=true→e'.get 2= .d (.bool false))∧(D9 (Nf xs) n i=false→e'.get 0= .d (Ff xs))
 |0,i,e,h1,g0,g3=>by
  have c: ¬ (i:Int)< (xs.length:Int):=by omega
  have c': ¬i<xs.length:=by omega
  rw[Bu]
  simp only[D9]
  refine⟨?_, ?_, ?_, ?_⟩
  rotate_left
  ·simp[Cn,-List.getD_eq_getElem?_getD,-List.map_map,Xc,g0,g3,Ff,c,c']
   try rfl
  ·intro h;simp at h
  ·intro _;simp[Cn,-List.getD_eq_getElem?_getD,-List.map_map,g0,Ff]
 |n+1,i,e,h1,g0,g3=>by
  have h4:i+(n+1)=xs.length:=h1
  have c':i<xs.length:=by omega
  have ga:=Xp xs i c'
  have hp:Nf xs i=(decide (40< (xs.getD i ([],[])).1.length) ||decide (40< (xs.getD i ([],[])).2.length) || (decide (0<i) && !Op.bytesLess (xs.getD (i - 1) ([],[])).1 (xs.getD i ([],[])).1)):=rfl
  have gb:=Xp xs (i - 1) (by omega)
  obtain⟨I,hI⟩: ∃I:Int,(i:Int)=I:=⟨_,rfl⟩
  obtain⟨I2,hI2⟩: ∃I:Int,((i+1:Nat):Int)=I:=⟨_,rfl⟩
  obtain⟨J,hJ⟩: ∃I:Int,((i - 1:Nat):Int)=I:=⟨_,rfl⟩
  have w1:IntKind.i64.wrap (I+1)=I2:=by rw[IntWalk.i64_in _ (by omega)];omega
  have c:I< (xs.length:Int):=by omega
  have cj:J< (xs.length:Int):=by omega
  have p0:0≤I:=by omega
  have pj:0≤J:=by omega
  have t0:I.toNat=i:=by omega
  have tj:J.toNat=i - 1:=by omega
  have hk:i+1+n=xs.length:=by omega
  have w0:0<i→IntKind.i64.wrap (I - 1)=J:=fun _=>by rw[IntWalk.i64_in _ (by omega)];omega
  have z0:0<i→0<I:=fun _=>by omega
  have z1: ¬0<i→¬0<I:=fun _=>by omega
  have ih:=B17 n0 xs hx H n (i+1)
  rw[hI] at g3
  rw[hI2] at ih
  simp only[D9]
  generalize Nf xs i=b at*
  generalize D9 (Nf xs) n (i+1)=S at*
  generalize xs.getD i ([],[])=x at*
  generalize xs.getD (i - 1) ([],[])=y at*
  obtain⟨x1,x2⟩:=x
  obtain⟨y1,y2⟩:=y
  simp only at*
  rw[Bu]
  generalize Bg (Bp (ev R) R.glob n0 Bg Xc) [0,3]=F at ih⊢
  by_cases k1:40<x1.length
  ·have k1': (40:Int)< (x1.length:Int):=by omega
   simp only[k1,decide_true,Bool.true_or] at hp
   subst hp
   simp only[Bool.true_or,cond_true]
   refine⟨?_, ?_, ?_, ?_⟩
   rotate_left
   ·simp[Cn,-List.getD_eq_getElem?_getD,-List.map_map,Xc,g0,g3,Ff,c,cj,p0,pj,t0,tj,ga,gb,k1,k1']
    try rfl
   ·intro _;simp[Cn,-List.getD_eq_getElem?_getD,-List.map_map]
   ·intro h;simp at h
  ·have k1': ¬ (40:Int)< (x1.length:Int):=by omega
   by_cases k2:40<x2.length
   ·have k2': (40:Int)< (x2.length:Int):=by omega
    simp only[k1,k2,decide_true,decide_false,Bool.false_or,Bool.true_or] at hp
    subst hp
    simp only[Bool.true_or,cond_true]
    refine⟨?_, ?_, ?_, ?_⟩
    rotate_left
    ·simp[Cn,-List.getD_eq_getElem?_getD,-List.map_map,Xc,g0,g3,Ff,c,cj,p0,pj,t0,tj,ga,gb,k1,k1',k2,k2']
     try rfl
    ·intro _;simp[Cn,-List.getD_eq_getElem?_getD,-List.map_map]
    ·intro h;simp at h
   ·have k2': ¬ (40:Int)< (x2.length:Int):=by omega
    by_cases k3:0<i
    ·have w0:=w0 k3
     have z0:=z0 k3
     cases hl:Op.bytesLess y1 x1 with
     |false=>
      simp only[k1,k2,k3,hl,decide_true,decide_false,Bool.false_or,Bool.true_and,Bool.not_false] at hp
      subst hp
      simp only[Bool.true_or,cond_true]
      refine⟨?_, ?_, ?_, ?_⟩
      rotate_left
      ·simp[Cn,-List.getD_eq_getElem?_getD,-List.map_map,Xc,g0,g3,Ff,c,cj,p0,pj,t0,tj,ga,gb,k1,k1',k2,k2',z0,w0,hl]
       try rfl
      ·intro _;simp[Cn,-List.getD_eq_getElem?_getD,-List.map_map]
      ·intro h;simp at h
     |true=>
      simp only[k1,k2,k3,hl,decide_true,decide_false,Bool.false_or,Bool.true_and,Bool.not_true] at hp
      subst hp
      simp only[Bool.false_or]
      simp[Cn,-List.getD_eq_getElem?_getD,-List.map_map,Xc,g0,g3,Ff,c,cj,p0,pj,t0,tj,w1,ga,gb,k1,k1',k2,k2',z0,w0,hl]
      refine ih _ hk ?_ ?_<;>rfl
    ·have z1:=z1 k3
     simp only[k1,k2,k3,decide_false,Bool.false_or,Bool.false_and] at hp
     subst hp
     simp only[Bool.false_or]
     simp[Cn,-List.getD_eq_getElem?_getD,-List.map_map,Xc,g0,g3,Ff,c,cj,p0,pj,t0,tj,w1,ga,gb,k1,k1',k2,k2',z1]
     refine ih _ hk ?_ ?_<;>rfl
theorem Bgo (H:Hp) (xs:List Pr) (hx:xs.length≤9223372036854775807):ev R 63 [.d (Ff xs)] H=some (.d (.bool (Dl xs)),H):=by
 refine Bh (fn:=f63) rfl rfl ?_
 obtain⟨e',he,h1,h2⟩:=B17 (Bc H) xs hx H xs.length 0 [(0, .d (Ff xs)),(3, .d (.int .i64 0))] (by omega) rfl rfl
 unfold Dl
 simp only[Ff] at he h2
 cases hb:D9 (Nf xs) xs.length 0 with
 |true=>
  have h1:=h1 hb
  simp only[hb,cond_true] at he
  simp[Cn,-List.getD_eq_getElem?_getD,-List.map_map,f63,Ff,he,h1]
 |false=>
  have h2:=h2 hb
  simp only[hb,cond_false] at he
  by_cases hl:xs.length≤16
  ·have hl': (xs.length:Int)≤16:=by omega
   simp[Cn,-List.getD_eq_getElem?_getD,-List.map_map,f63,Ff,he,h2,hl,hl']
  ·have hl': ¬ (xs.length:Int)≤16:=by omega
   simp[Cn,-List.getD_eq_getElem?_getD,-List.map_map,f63,Ff,he,h2,hl,hl']
theorem B2a (n0:Nat) (xs:List Pr) (hx:xs.length≤9223372036854775807) (H:Hp): ∀ (n i:Nat) (X:Hp) (e:Env),i+n=xs.length→Cx X (Bc H)=H→Bc H≤Bc X→e.get 0= .d (Ff xs)→e.get 5= .d (Ff xs)→e.get 6= .d (.int .i64 xs.length)→e.get 7= .d (.int .i64 i)→
  ∃e' X',Bg (Bp (ev R) R.glob n0 Bg Xd) [0,5,6,7] ⟨e,X⟩=some ((bif D9 (Nf xs) n i then .ret else .exit 0),⟨e',X'⟩)∧
   (D9 (Nf xs) n i=true→e'.get 2= .d (.bool false))∧(D9 (Nf xs) n i=false→e'.get 0= .d (Ff xs))∧Cx X' (Bc H)=H
 |0,i,X,e,h1,hx1,hx2,g0,g5,g6,g3=>by
  have c: ¬ (i:Int)< (xs.length:Int):=by omega
  have c': ¬i<xs.length:=by omega
  rw[Bu]
  simp only[D9]
  refine⟨?_,X, ?_, ?_, ?_, ?_⟩
  rotate_left
  ·simp[Cn,-List.getD_eq_getElem?_getD,-List.map_map,Xd,g0,g5,g6,g3,Ff,c,c']
   try rfl
  ·intro h;simp at h
  ·intro _;simp[Cn,-List.getD_eq_getElem?_getD,-List.map_map,g0,Ff]
  ·exact hx1
 |n+1,i,X,e,h1,hx1,hx2,g0,g5,g6,g3=>by
  have h4:i+(n+1)=xs.length:=h1
  have c':i<xs.length:=by omega
  have ga:=Xp xs i c'
  have hp:Nf xs i=(decide (40< (xs.getD i ([],[])).1.length) ||decide (40< (xs.getD i ([],[])).2.length) || (decide (0<i) && !Op.bytesLess (xs.getD (i - 1) ([],[])).1 (xs.getD i ([],[])).1)):=rfl
  have gb:=Xp xs (i - 1) (by omega)
  obtain⟨I,hI⟩: ∃I:Int,(i:Int)=I:=⟨_,rfl⟩
  obtain⟨I2,hI2⟩: ∃I:Int,((i+1:Nat):Int)=I:=⟨_,rfl⟩
  obtain⟨J,hJ⟩: ∃I:Int,((i - 1:Nat):Int)=I:=⟨_,rfl⟩
  have w1:IntKind.i64.wrap (I+1)=I2:=by rw[IntWalk.i64_in _ (by omega)];omega
  have c:I< (xs.length:Int):=by omega
  have cj:J< (xs.length:Int):=by omega
  have p0:0≤I:=by omega
  have pj:0≤J:=by omega
  have t0:I.toNat=i:=by omega
  have tj:J.toNat=i - 1:=by omega
  have hk:i+1+n=xs.length:=by omega
  have w0:0<i→IntKind.i64.wrap (I - 1)=J:=fun _=>by rw[IntWalk.i64_in _ (by omega)];omega
  have z0:0<i→0<I:=fun _=>by omega
  have z1: ¬0<i→¬0<I:=fun _=>by omega
  have ga': ∀z:D,Na (Bt X (.row 0 2 [.d (.agg [.str [], .str []])])) (Bc X) 0 0 0 [.d (.str (xs.getD i ([],[])).1), .d (.str (xs.getD i ([],[])).2)]=some (Bt X (.row 0 2 [.d (.agg [.str (xs.getD i ([],[])).1, .str (xs.getD i ([],[])).2])])):=fun _=>by
   simp[Na,Cy,V.cells,D.cells,Lt,V.isAgg,Ni,Gt,Qx]
  have st:=ga' .nilp
  have ld0:Dn (Bt X (.row 0 2 [.d (.agg [.str (xs.getD i ([],[])).1, .str (xs.getD i ([],[])).2])])) (Bc X) 0 0 0 1=some [.d (.str (xs.getD i ([],[])).1)]:=by simp[Dn,Cy,V.cells,D.cells]
  have ld1:Dn (Bt X (.row 0 2 [.d (.agg [.str (xs.getD i ([],[])).1, .str (xs.getD i ([],[])).2])])) (Bc X) 0 0 1 1=some [.d (.str (xs.getD i ([],[])).2)]:=by simp[Dn,Cy,V.cells,D.cells]
  have tk:Cx (Bt X (.row 0 2 [.d (.agg [.str (xs.getD i ([],[])).1, .str (xs.getD i ([],[])).2])])) (Bc H)=H:=by rw[Bg3 _ hx2];exact hx1
  have lk:Bc H≤Bc (Bt X (.row 0 2 [.d (.agg [.str (xs.getD i ([],[])).1, .str (xs.getD i ([],[])).2])])):=by rw[Ch];omega
  have ih:=B2a n0 xs hx H n (i+1) (Bt X (.row 0 2 [.d (.agg [.str (xs.getD i ([],[])).1, .str (xs.getD i ([],[])).2])]))
  generalize Bt X (.row 0 2 [.d (.agg [.str (xs.getD i ([],[])).1, .str (xs.getD i ([],[])).2])])=Y at*
  rw[hI] at g3
  rw[hI2] at ih
  simp only[D9]
  generalize Nf xs i=b at*
  generalize D9 (Nf xs) n (i+1)=S at*
  generalize xs.getD i ([],[])=x at*
  generalize xs.getD (i - 1) ([],[])=y at*
  obtain⟨x1,x2⟩:=x
  obtain⟨y1,y2⟩:=y
  simp only at*
  rw[Bu]
  generalize Bg (Bp (ev R) R.glob n0 Bg Xd) [0,5,6,7]=F at ih⊢
  by_cases k1:40<x1.length
  ·have k1': (40:Int)< (x1.length:Int):=by omega
   simp only[k1,decide_true,Bool.true_or] at hp
   subst hp
   simp only[Bool.true_or,cond_true]
   refine⟨?_,Y, ?_, ?_, ?_, ?_⟩
   rotate_left
   ·simp[Cn,-List.getD_eq_getElem?_getD,-List.map_map,Xd,g0,g5,g6,g3,Ff,c,cj,p0,pj,t0,tj,ga,gb,st,ld0,ld1,k1,k1']
    try rfl
   ·intro _;simp[Cn,-List.getD_eq_getElem?_getD,-List.map_map]
   ·intro h;simp at h
   ·exact tk
  ·have k1': ¬ (40:Int)< (x1.length:Int):=by omega
   by_cases k2:40<x2.length
   ·have k2': (40:Int)< (x2.length:Int):=by omega
    simp only[k1,k2,decide_true,decide_false,Bool.false_or,Bool.true_or] at hp
    subst hp
    simp only[Bool.true_or,cond_true]
    refine⟨?_,Y, ?_, ?_, ?_, ?_⟩
    rotate_left
    ·simp[Cn,-List.getD_eq_getElem?_getD,-List.map_map,Xd,g0,g5,g6,g3,Ff,c,cj,p0,pj,t0,tj,ga,gb,st,ld0,ld1,k1,k1',k2,k2']
     try rfl
    ·intro _;simp[Cn,-List.getD_eq_getElem?_getD,-List.map_map]
    ·intro h;simp at h
    ·exact tk
   ·have k2': ¬ (40:Int)< (x2.length:Int):=by omega
    by_cases k3:0<i
    ·have w0:=w0 k3
     have z0:=z0 k3
     cases hl:Op.bytesLess y1 x1 with
     |false=>
      simp only[k1,k2,k3,hl,decide_true,decide_false,Bool.false_or,Bool.true_and,Bool.not_false] at hp
      subst hp
      simp only[Bool.true_or,cond_true]
      refine⟨?_,Y, ?_, ?_, ?_, ?_⟩
      rotate_left
      ·simp[Cn,-List.getD_eq_getElem?_getD,-List.map_map,Xd,g0,g5,g6,g3,Ff,c,cj,p0,pj,t0,tj,ga,gb,st,ld0,ld1,k1,k1',k2,k2',z0,w0,hl]
       try rfl
      ·intro _;simp[Cn,-List.getD_eq_getElem?_getD,-List.map_map]
      ·intro h;simp at h
      ·exact tk
     |true=>
      simp only[k1,k2,k3,hl,decide_true,decide_false,Bool.false_or,Bool.true_and,Bool.not_true] at hp
      subst hp
      simp only[Bool.false_or]
      simp[Cn,-List.getD_eq_getElem?_getD,-List.map_map,Xd,g0,g5,g6,g3,Ff,c,cj,p0,pj,t0,tj,w1,ga,gb,st,ld0,ld1,k1,k1',k2,k2',z0,w0,hl]
      refine ih _ hk tk lk ?_ ?_ ?_ ?_<;> (first|rfl|exact g6)
    ·have z1:=z1 k3
     simp only[k1,k2,k3,decide_false,Bool.false_or,Bool.false_and] at hp
     subst hp
     simp only[Bool.false_or]
     simp[Cn,-List.getD_eq_getElem?_getD,-List.map_map,Xd,g0,g5,g6,g3,Ff,c,cj,p0,pj,t0,tj,w1,ga,gb,st,ld0,ld1,k1,k1',k2,k2',z1]
     refine ih _ hk tk lk ?_ ?_ ?_ ?_<;> (first|rfl|exact g6)
theorem Bjt (H:Hp) (xs:List Pr) (hx:xs.length≤9223372036854775807):ev R 72 [.d (Ff xs)] H=some (.d (.bool (Dl xs)),H):=by
 refine Bh (fn:=f72) rfl rfl ?_
 obtain⟨e',X',he,h1,h2,tk⟩:=B2a (Bc H) xs hx H xs.length 0 H [(0, .d (Ff xs)),(5, .d (Ff xs)),(6, .d (.int .i64 xs.length)),(7, .d (.int .i64 0))] (by omega) (Jq H) (Nat.le_refl _) rfl rfl rfl rfl
 unfold Dl
 simp only[Ff] at he h2
 cases hb:D9 (Nf xs) xs.length 0 with
 |true=>
  have h1:=h1 hb
  simp only[hb,cond_true] at he
  simp[Cn,-List.getD_eq_getElem?_getD,-List.map_map,f72,Ff,he,h1,tk]
 |false=>
  have h2:=h2 hb
  simp only[hb,cond_false] at he
  by_cases hl:xs.length≤16
  ·have hl': (xs.length:Int)≤16:=by omega
   simp[Cn,-List.getD_eq_getElem?_getD,-List.map_map,f72,Ff,he,h2,hl,hl',tk]
  ·have hl': ¬ (xs.length:Int)≤16:=by omega
   simp[Cn,-List.getD_eq_getElem?_getD,-List.map_map,f72,Ff,he,h2,hl,hl',tk]
theorem Byq (n0:Nat) (xs:List Bq) (hx:xs.length≤9223372036854775807) (H:Hp): ∀ (n i:Nat) (e:Env),i+n=xs.length→e.get 0= .d (Bf xs)→e.get 3= .d (.int .i64 i)→
  ∃e',Bg (Bp (ev R) R.glob n0 Bg Yp) [0,3] ⟨e,H⟩=some ((match Fu (J9 xs) n i with|some _=> .ret|none=> .exit 0),⟨e',H⟩)∧
   (∀j,Fu (J9 xs) n i=some j→e'.get 2= .d (.bool false))∧(Fu (J9 xs) n i=none→e'.get 0= .d (Bf xs))
 |0,i,e,hn,h0,h3=>by
  have c: ¬ (i:Int)< (xs.length:Int):=by omega
  have c': ¬i<xs.length:=by omega
  rw[Bu]
  refine⟨?_, ?_, ?_, ?_⟩
  rotate_left
  ·simp[Cn,-List.getD_eq_getElem?_getD,-List.map_map,Yp,h0,h3,Bf,c,c',Fu]
   rfl
  ·intro j hj;simp[Fu] at hj
  ·intro _
   try refine⟨?_, ?_⟩
   all_goals (first|trivial|simp[Cn,-List.getD_eq_getElem?_getD,-List.map_map,h0,h3,Bf])
 |n+1,i,e,hn,h0,h3=>by
  have c: (i:Int)< (xs.length:Int):=by omega
  have c':i<xs.length:=by omega
  have g:=Dj xs i c'
  have w1:IntKind.i64.wrap ((i:Int)+1)=((i+1:Nat):Int):=by rw[IntWalk.i64_in _ (by omega)];rfl
  have ih:=Byq n0 xs hx H n (i+1)
  rw[Bu]
  generalize Bg (Bp (ev R) R.glob n0 Bg Yp) [0,3]=F at ih⊢
  by_cases hb:40< (xs.getD i []).length
  ·have hb': (40:Int)< ((xs.getD i []).length:Int):=by omega
   refine⟨?_, ?_, ?_, ?_⟩
   rotate_left
   ·simp[Cn,-List.getD_eq_getElem?_getD,-List.map_map,Yp,h0,h3,Bf,c,c',g,Fu,J9,hb,hb']
    rfl
   ·intro j hj
    simp[Fu,J9,hb,hb',-List.getD_eq_getElem?_getD] at hj
    try subst hj
    simp[Cn,-List.getD_eq_getElem?_getD,-List.map_map]
   ·intro hj;simp[Fu,J9,hb,hb',-List.getD_eq_getElem?_getD] at hj
  ·have hb': ¬ (40:Int)< ((xs.getD i []).length:Int):=by omega
   have hs:Fu (J9 xs) (n+1) i=Fu (J9 xs) n (i+1):=by simp[Fu,J9,hb,-List.getD_eq_getElem?_getD]
   rw[hs]
   simp[Cn,-List.getD_eq_getElem?_getD,-List.map_map,Yp,h0,h3,Bf,c,c',g,w1,hb,hb']
   refine ih _ (by omega) ?_ ?_<;>rfl
def Pk (xs:List Bq):Bool:=(Fu (J9 xs) xs.length 0).isNone&& (decide (1≤xs.length) &&decide (xs.length≤8))
theorem Wd (xs:List Bq):Pk xs=true↔Bmu xs:=by
 unfold Pk Bmu
 constructor
 ·intro h
  simp only[Bool.and_eq_true,decide_eq_true_eq,Option.isNone_iff_eq_none] at h
  obtain⟨h1,h2,h3⟩:=h
  refine⟨fun x hx=> ?_,h2,h3⟩
  obtain⟨i,hi,rfl⟩:=List.getElem_of_mem hx
  have:=Uf h1 i (by omega) (by omega)
  simp only[J9,decide_eq_false_iff_not,List.getD_eq_getElem?_getD,List.getElem?_eq_getElem hi,Option.getD_some] at this
  omega
 ·rintro⟨h1,h2,h3⟩
  simp only[Bool.and_eq_true,decide_eq_true_eq,Option.isNone_iff_eq_none]
  refine⟨?_,h2,h3⟩
  cases hr:Fu (J9 xs) xs.length 0 with
  |none=>rfl
  |some j=>
   obtain⟨_,hj,hp,_⟩:=Q8 hr
   have hj':j<xs.length:=by omega
   simp only[J9,decide_eq_true_eq,List.getD_eq_getElem?_getD,List.getElem?_eq_getElem hj',Option.getD_some] at hp
   have:=h1 _ (List.getElem_mem hj')
   omega
theorem B1m (H:Hp) (xs:List Bq) (hx:xs.length≤9223372036854775807):ev R 252 [.d (Bf xs)] H=some (.d (.bool (Pk xs)),H):=by
 refine Bh (fn:=f252) rfl rfl ?_
 obtain⟨e',he,h1,h2⟩:=Byq (Bc H) xs hx H xs.length 0 [(0, .d (Bf xs)),(3, .d (.int .i64 0))] (by omega) rfl rfl
 have p:=Ps (xs.length:Int) 1 8
 unfold Pk
 cases hr:Fu (J9 xs) xs.length 0 with
 |some j=>
  simp only[hr] at he
  simp[Cn,-List.getD_eq_getElem?_getD,-List.map_map,f252,he,h1 j hr,hr]
 |none=>
  simp only[hr] at he
  have h3:=h2 hr
  have q: (decide ((xs.length:Int)≥1) &&decide ((xs.length:Int)≤8))=(decide (1≤xs.length) &&decide (xs.length≤8)):=by
   congr 1<;>exact decide_eq_decide.2 (by omega)
  rw[q] at p
  simp[Cn,-List.getD_eq_getElem?_getD,-List.map_map,f252,he,h3,hr,Bf,p]
theorem B12 (n0:Nat) (xs:List Bq) (hx:xs.length≤9223372036854775807) (ys:List Bq) (hy:ys.length=xs.length) (H:Hp): ∀ (n i:Nat) (e:Env),i+n=xs.length→e.get 0= .d (Bf xs)→e.get 1= .d (Bf ys)→e.get 5= .d (.int .i64 i)→
  ∃e',Bg (Bp (ev R) R.glob n0 Bg Bdg) [0,1,5] ⟨e,H⟩=some ((match Fu (Qd xs ys) n i with|some _=> .ret|none=> .exit 0),⟨e',H⟩)∧
   (∀j,Fu (Qd xs ys) n i=some j→e'.get 4= .d (.bool false))
 |0,i,e,hn,h0,h1,h5=>by
  have c: ¬ (i:Int)< (xs.length:Int):=by omega
  have c': ¬i<xs.length:=by omega
  have gy:i<ys.length→(ys.map D.str).getD i .nilp= .str (ys.getD i []):=fun h=>Dj ys i h
  rw[Bu]
  refine⟨?_, ?_, ?_⟩
  rotate_left
  ·simp[Cn,-List.getD_eq_getElem?_getD,-List.map_map,Bdg,h0,h1,h5,Bf,c,c',Fu,hy,gy]
   rfl
  ·intro j hj;simp[Fu] at hj
 |n+1,i,e,hn,h0,h1,h5=>by
  have c: (i:Int)< (xs.length:Int):=by omega
  have c':i<xs.length:=by omega
  have g:=Dj xs i c'
  have w1:IntKind.i64.wrap ((i:Int)+1)=((i+1:Nat):Int):=by rw[IntWalk.i64_in _ (by omega)];rfl
  have gy:i<ys.length→(ys.map D.str).getD i .nilp= .str (ys.getD i []):=fun h=>Dj ys i h
  have ih:=B12 n0 xs hx ys hy H n (i+1)
  rw[Bu]
  generalize Bg (Bp (ev R) R.glob n0 Bg Bdg) [0,1,5]=F at ih⊢
  by_cases hb: ¬xs.getD i []=ys.getD i []
  ·skip
   refine⟨?_, ?_, ?_⟩
   rotate_left
   ·simp[Cn,-List.getD_eq_getElem?_getD,-List.map_map,Bdg,h0,h1,h5,Bf,c,c',g,Fu,Qd,hb,hy,gy]
    rfl
   ·intro j hj
    simp[Fu,Qd,hb,-List.getD_eq_getElem?_getD] at hj
    try subst hj
    simp[Cn,-List.getD_eq_getElem?_getD,-List.map_map]
  ·rw[Classical.not_not] at hb
   have hs:Fu (Qd xs ys) (n+1) i=Fu (Qd xs ys) n (i+1):=by simp[Fu,Qd,hb,-List.getD_eq_getElem?_getD]
   rw[hs]
   simp[Cn,-List.getD_eq_getElem?_getD,-List.map_map,Bdg,h0,h1,h5,Bf,c,c',g,w1,hb,hy,gy]
   refine ih _ (by omega) ?_ ?_ ?_<;>rfl
theorem Bn7 (H:Hp) (xs:List Bq) (hx:xs.length≤9223372036854775807):ev R 28 [.d (Bf xs), .d (Bf xs)] H=some (.d (.bool true),H):=by
 refine Bh (fn:=f28) rfl rfl ?_
 obtain⟨e',he,h1⟩:=B12 (Bc H) xs hx xs rfl H xs.length 0 [(0, .d (Bf xs)),(1, .d (Bf xs)),(5, .d (.int .i64 0))] (by omega) rfl rfl rfl
 have hr:Fu (Qd xs xs) xs.length 0=none:=by
  cases hr:Fu (Qd xs xs) xs.length 0 with
  |none=>rfl
  |some j=>
   have:=(Q8 hr).2.2.1
   simp[Qd] at this
 simp only[hr] at he
 simp[Cn,-List.getD_eq_getElem?_getD,-List.map_map,f28,he]
theorem Boy (xs:List Bq) (hx:xs.length≤9223372036854775807):Be (ev R) 28 [.d (Bf xs), .d (Bf xs)]=some (.d (.bool true)):=Bb fun H=>Bn7 H xs hx
end Go.Proofs.YtpajcoanfkeibaaGreatDoor.Code

/- Lemmas (several texts in one). -/
import Derived.Test.YtedlandcnpjghaaGreatDoorMRecord5
import Derived.Test.YtedlandcnpjghaaGreatDoorMRecord7
import Derived.Test.YtedlandcnpjghaaGreatDoorMRecord8
set_option maxRecDepth 100000
set_option linter.unusedSimpArgs false
set_option linter.unusedVariables false
namespace Go.Proofs.YtedlandcnpjghaaGreatDoor.Code
open Go Go.Ev Go.Proofs
section
variable (H:Hp) (a b c d:Ev.Obj)
theorem Bka:Ci (Bt (Bt H a) b) (Bc H)=some a:=by rw[D7 _ (by rw[Cf];omega),Dr]
theorem Bkb:Ci (Bt (Bt H a) b) (Bc H+1)=some b:=by rw[←Cf H a,Dr]
end
theorem M8 (xs:List Sc) (i:Nat) (hi:i<xs.length): (xs.map Ms).getD i .nilp=Ms (xs.getD i ([],0)):=by
 simp[List.getD_eq_getElem?_getD,hi]
theorem X5 (xs:List Pr) (i:Nat) (hi:i<xs.length): (xs.map Pv).getD i .nilp=Pv (xs.getD i ([],[])):=by
 simp[List.getD_eq_getElem?_getD,hi]
structure Small (e:En):Prop where
 list:e.list.length≤1048576
 scores:e.scores.length≤1048576
 fields:e.fields.length≤1048576
theorem Bq0 (H:Hp) (xs:List Bl) (hx:xs.length≤1000000):ev R 56 [.d (Bf xs)] H=some (.slc (Bc H) 0 0 xs.length,ap H [.row 0 1 ((xs.map D.str).map V.d)]):=by
 refine Bo (fn:=f56) rfl rfl ?_
 have r:xs.length*16≤Cx:=by unfold Cx;omega
 simp[Co,-List.getD_eq_getElem?_getD,-List.map_map,f56,Bf,r,Yv]
theorem Bc9 (xs:List Bl) (hx:xs.length≤1000000):Jd (ev R) 56 [.d (Bf xs)]=some (.d (Bf xs)):=by
 refine Nu fun H=> ⟨_,_,Bq0 H xs hx, ?_,W9 H _⟩
 simp[Co,-List.getD_eq_getElem?_getD,-List.map_map,Bf]
theorem Uz (xs:List Bl) (hx:xs.length≤1000000):Be (ev R) 56 [.d (Bf xs)]=none:=by
 cases h:Be (ev R) 56 [.d (Bf xs)] with
 |none=>rfl
 |some v=>
  have h1:=Fq h []
  rw[Bq0 [] xs hx] at h1
  simp[ap] at h1
theorem Cc (s:Bl):Be (ev R) 58 [.d (.str s)]=some (.d (reD (.mk 1 0 s [] []))):=Bb fun H=>by
 refine Bo (fn:=f58) rfl rfl ?_
 simp[Co,-List.getD_eq_getElem?_getD,-List.map_map,f58,Bf]
theorem Lr (n:Int):Be (ev R) 84 [.d (.int .i64 n)]=some (.d (reD (.mk 2 n [] [] []))):=Bb fun H=>by
 refine Bo (fn:=f84) rfl rfl ?_
 simp[Co,-List.getD_eq_getElem?_getD,-List.map_map,f84,Bf]
theorem Bow (s:Bl):Be (ev R) 83 [.d (.str s)]=some (.d (reD (.mk 3 0 s [] []))):=Bb fun H=>by
 refine Bo (fn:=f83) rfl rfl ?_
 simp[Co,-List.getD_eq_getElem?_getD,-List.map_map,f83,Bf]
theorem Kj:Be (ev R) 82 []=some (.d (reD (.mk 4 0 [] [] []))):=Bb fun H=>by
 refine Bo (fn:=f82) rfl rfl ?_
 simp[Co,-List.getD_eq_getElem?_getD,-List.map_map,f82,Bf]
theorem Bfv (xs:List Bl):Be (ev R) 94 [.d (Bf xs)]=some (.d (reD (.mk 5 0 [] xs []))):=Bb fun H=>by
 refine Bo (fn:=f94) rfl rfl ?_
 simp[Co,-List.getD_eq_getElem?_getD,-List.map_map,f94,Bf]
def Gy (b:Bool):Re:= .mk 2 (if b then 1 else 0) [] [] []
theorem Box (b:Bool):Be (ev R) 97 [.d (.bool b)]=some (.d (reD (Gy b))):=Bb fun H=>by
 refine Bo (fn:=f97) rfl rfl ?_
 have a:=Lr 1
 have c:=Lr 0
 cases b<;>simp[Co,-List.getD_eq_getElem?_getD,-List.map_map,f97,a,c,Gy]
theorem Bei (n:Int):Be (ev R) 126 [.d (.int .i64 n)]=some (.d (.bool (decide (-1000000000≤n) &&decide (n≤1000000000)))):=Bb fun H=>by
 refine Bo (fn:=f126) rfl rfl ?_
 have p:=Bb (cl:=ev R) fun H=>B0y H n (-1000000000) 1000000000
 simp[Co,-List.getD_eq_getElem?_getD,-List.map_map,f126,p]
def Jz (n f t:Int):Int×Int:=
 let f:=if f<0 then f+n else f
 let t:=if t<0 then t+n else t
 let f:=if f<0 then 0 else f
 let t:=if n≤t then n - 1 else t
 if t<f then(0,0) else(f,t+1)
theorem By4 (n f t:Int) (hn:0≤n∧n≤1000000) (hf: -1000000000≤f∧f≤1000000000) (ht: -1000000000≤t∧t≤1000000000):
  Be (ev R) 87 [.d (.int .i64 n), .d (.int .i64 f), .d (.int .i64 t)]=some (.tup [.d (.int .i64 (Jz n f t).1), .d (.int .i64 (Jz n f t).2)]):=Bb fun H=>by
 refine Bo (fn:=f87) rfl rfl ?_
 have w1:IntKind.i64.wrap (f+n)=f+n:=IntWalk.i64_in _ (by omega)
 have w2:IntKind.i64.wrap (t+n)=t+n:=IntWalk.i64_in _ (by omega)
 have w3:IntKind.i64.wrap (n - 1)=n - 1:=IntWalk.i64_in _ (by omega)
 have w4:IntKind.i64.wrap (t+1)=t+1:=IntWalk.i64_in _ (by omega)
 have w5:IntKind.i64.wrap (t+n+1)=t+n+1:=IntWalk.i64_in _ (by omega)
 have w6:IntKind.i64.wrap n=n:=IntWalk.i64_in _ (by omega)
 unfold Jz
 by_cases a:f<0<;>by_cases b:t<0
 ·by_cases c:f+n<0<;>by_cases d:n≤t+n
  ·by_cases k:n - 1<0<;>first| (exfalso;omega) | (simp[Co,-List.getD_eq_getElem?_getD,-List.map_map,f87,a,b,c,d,k,w1,w2,w3,w4,w5,w6])
  ·by_cases k:t+n<0<;>first| (exfalso;omega) | (simp[Co,-List.getD_eq_getElem?_getD,-List.map_map,f87,a,b,c,d,k,w1,w2,w3,w4,w5,w6])
  ·by_cases k:n - 1<f+n<;>first| (exfalso;omega) | (simp[Co,-List.getD_eq_getElem?_getD,-List.map_map,f87,a,b,c,d,k,w1,w2,w3,w4,w5,w6])
  ·by_cases k:t+n<f+n<;>first| (exfalso;omega) | (simp[Co,-List.getD_eq_getElem?_getD,-List.map_map,f87,a,b,c,d,k,w1,w2,w3,w4,w5,w6])
 ·by_cases c:f+n<0<;>by_cases d:n≤t
  ·by_cases k:n - 1<0<;>first| (exfalso;omega) | (simp[Co,-List.getD_eq_getElem?_getD,-List.map_map,f87,a,b,c,d,k,w1,w2,w3,w4,w5,w6])
  ·by_cases k:t<0<;>first| (exfalso;omega) | (simp[Co,-List.getD_eq_getElem?_getD,-List.map_map,f87,a,b,c,d,k,w1,w2,w3,w4,w5,w6])
  ·by_cases k:n - 1<f+n<;>first| (exfalso;omega) | (simp[Co,-List.getD_eq_getElem?_getD,-List.map_map,f87,a,b,c,d,k,w1,w2,w3,w4,w5,w6])
  ·by_cases k:t<f+n<;>first| (exfalso;omega) | (simp[Co,-List.getD_eq_getElem?_getD,-List.map_map,f87,a,b,c,d,k,w1,w2,w3,w4,w5,w6])
 ·by_cases c:f<0<;>by_cases d:n≤t+n
  ·by_cases k:n - 1<0<;>first| (exfalso;omega) | (simp[Co,-List.getD_eq_getElem?_getD,-List.map_map,f87,a,b,c,d,k,w1,w2,w3,w4,w5,w6])
  ·by_cases k:t+n<0<;>first| (exfalso;omega) | (simp[Co,-List.getD_eq_getElem?_getD,-List.map_map,f87,a,b,c,d,k,w1,w2,w3,w4,w5,w6])
  ·by_cases k:n - 1<f<;>first| (exfalso;omega) | (simp[Co,-List.getD_eq_getElem?_getD,-List.map_map,f87,a,b,c,d,k,w1,w2,w3,w4,w5,w6])
  ·by_cases k:t+n<f<;>first| (exfalso;omega) | (simp[Co,-List.getD_eq_getElem?_getD,-List.map_map,f87,a,b,c,d,k,w1,w2,w3,w4,w5,w6])
 ·by_cases c:f<0<;>by_cases d:n≤t
  ·by_cases k:n - 1<0<;>first| (exfalso;omega) | (simp[Co,-List.getD_eq_getElem?_getD,-List.map_map,f87,a,b,c,d,k,w1,w2,w3,w4,w5,w6])
  ·by_cases k:t<0<;>first| (exfalso;omega) | (simp[Co,-List.getD_eq_getElem?_getD,-List.map_map,f87,a,b,c,d,k,w1,w2,w3,w4,w5,w6])
  ·by_cases k:n - 1<f<;>first| (exfalso;omega) | (simp[Co,-List.getD_eq_getElem?_getD,-List.map_map,f87,a,b,c,d,k,w1,w2,w3,w4,w5,w6])
  ·by_cases k:t<f<;>first| (exfalso;omega) | (simp[Co,-List.getD_eq_getElem?_getD,-List.map_map,f87,a,b,c,d,k,w1,w2,w3,w4,w5,w6])
end Go.Proofs.YtedlandcnpjghaaGreatDoor.Code

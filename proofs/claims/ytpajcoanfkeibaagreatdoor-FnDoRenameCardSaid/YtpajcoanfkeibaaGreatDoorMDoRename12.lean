/- Lemmas (several texts in one). -/
import Derived.Test.YtpajcoanfkeibaaGreatDoorMDoRename5
import Derived.Test.YtpajcoanfkeibaaGreatDoorMDoRename6
import Derived.Test.YtpajcoanfkeibaaGreatDoorMDoRename11
set_option maxRecDepth 100000
set_option linter.unusedSimpArgs false
set_option linter.unusedVariables false
set_option maxHeartbeats 2000000
namespace Go.Proofs.YtpajcoanfkeibaaGreatDoor.Code
open Go Go.Ev Go.Proofs
section
variable (H:Hp) (a b c d:Ev.Obj)
theorem Be9:Cf (Bt (Bt H a) b) (Bc H)=some a:=by rw[Dz _ (by rw[Ch];omega),Dr]
theorem Bfa:Cf (Bt (Bt H a) b) (Bc H+1)=some b:=by rw[←Ch H a,Dr]
end
theorem Mx (xs:List Sc) (i:Nat) (hi:i<xs.length): (xs.map Kk).getD i .nilp=Kk (xs.getD i ([],0)):=by
 simp[List.getD_eq_getElem?_getD,hi]
theorem Xq (xs:List Pr) (i:Nat) (hi:i<xs.length): (xs.map Kz).getD i .nilp=Kz (xs.getD i ([],[])):=by
 simp[List.getD_eq_getElem?_getD,hi]
structure Small (e:En):Prop where
 list:e.list.length≤1048576
 scores:e.scores.length≤1048576
 fields:e.fields.length≤1048576
theorem Brg (H:Hp) (xs:List Bq) (hx:xs.length≤1000000):ev R 73 [.d (Bf xs)] H=some (.slc (Bc H) 0 0 xs.length,ap H [.row 0 1 ((xs.map D.str).map V.d)]):=by
 refine Bh (fn:=f73) rfl rfl ?_
 have r:xs.length*16≤Cq:=by unfold Cq;omega
 simp[Ci,-List.getD_eq_getElem?_getD,-List.map_map,f73,Bf,r,Uq]
theorem Bc4 (xs:List Bq) (hx:xs.length≤1000000):Gf (ev R) 73 [.d (Bf xs)]=some (.d (Bf xs)):=by
 refine Jk fun H=> ⟨_,_,Brg H xs hx, ?_,Lh H _⟩
 simp[Ci,-List.getD_eq_getElem?_getD,-List.map_map,Bf]
theorem Uv (xs:List Bq) (hx:xs.length≤1000000):Be (ev R) 73 [.d (Bf xs)]=none:=by
 cases h:Be (ev R) 73 [.d (Bf xs)] with
 |none=>rfl
 |some v=>
  have h1:=Dp h []
  rw[Brg [] xs hx] at h1
  simp[ap] at h1
theorem Bv (s:Bq):Be (ev R) 164 [.d (.str s)]=some (.d (Te (.mk 1 0 s [] []))):=Bb fun H=>by
 refine Bh (fn:=f164) rfl rfl ?_
 simp[Ci,-List.getD_eq_getElem?_getD,-List.map_map,f164,Bf]
theorem Ji (n:Int):Be (ev R) 201 [.d (.int .i64 n)]=some (.d (Te (.mk 2 n [] [] []))):=Bb fun H=>by
 refine Bh (fn:=f201) rfl rfl ?_
 simp[Ci,-List.getD_eq_getElem?_getD,-List.map_map,f201,Bf]
theorem Bd0 (s:Bq):Be (ev R) 200 [.d (.str s)]=some (.d (Te (.mk 3 0 s [] []))):=Bb fun H=>by
 refine Bh (fn:=f200) rfl rfl ?_
 simp[Ci,-List.getD_eq_getElem?_getD,-List.map_map,f200,Bf]
theorem Gm:Be (ev R) 199 []=some (.d (Te (.mk 4 0 [] [] []))):=Bb fun H=>by
 refine Bh (fn:=f199) rfl rfl ?_
 simp[Ci,-List.getD_eq_getElem?_getD,-List.map_map,f199,Bf]
theorem Xo (xs:List Bq):Be (ev R) 211 [.d (Bf xs)]=some (.d (Te (.mk 5 0 [] xs []))):=Bb fun H=>by
 refine Bh (fn:=f211) rfl rfl ?_
 simp[Ci,-List.getD_eq_getElem?_getD,-List.map_map,f211,Bf]
def G9 (b:Bool):Re:= .mk 2 (if b then 1 else 0) [] [] []
theorem Bd1 (b:Bool):Be (ev R) 214 [.d (.bool b)]=some (.d (Te (G9 b))):=Bb fun H=>by
 refine Bh (fn:=f214) rfl rfl ?_
 have a:=Ji 1
 have c:=Ji 0
 cases b<;>simp[Ci,-List.getD_eq_getElem?_getD,-List.map_map,f214,a,c,G9]
theorem Bd2 (n:Int):Be (ev R) 255 [.d (.int .i64 n)]=some (.d (.bool (decide (-1000000000≤n) &&decide (n≤1000000000)))):=Bb fun H=>by
 refine Bh (fn:=f255) rfl rfl ?_
 have p:=Bb (cl:=ev R) fun H=>B1q H n (-1000000000) 1000000000
 simp[Ci,-List.getD_eq_getElem?_getD,-List.map_map,f255,p]
def J5 (n f t:Int):Int×Int:=
 let f:=if f<0 then f+n else f
 let t:=if t<0 then t+n else t
 let f:=if f<0 then 0 else f
 let t:=if n≤t then n - 1 else t
 if t<f then(0,0) else(f,t+1)
theorem Br5 (n f t:Int) (hn:0≤n∧n≤1000000) (hf: -1000000000≤f∧f≤1000000000) (ht: -1000000000≤t∧t≤1000000000):
  Be (ev R) 204 [.d (.int .i64 n), .d (.int .i64 f), .d (.int .i64 t)]=some (.tup [.d (.int .i64 (J5 n f t).1), .d (.int .i64 (J5 n f t).2)]):=Bb fun H=>by
 refine Bh (fn:=f204) rfl rfl ?_
 have w1:IntKind.i64.wrap (f+n)=f+n:=IntWalk.i64_in _ (by omega)
 have w2:IntKind.i64.wrap (t+n)=t+n:=IntWalk.i64_in _ (by omega)
 have w3:IntKind.i64.wrap (n - 1)=n - 1:=IntWalk.i64_in _ (by omega)
 have w4:IntKind.i64.wrap (t+1)=t+1:=IntWalk.i64_in _ (by omega)
 have w5:IntKind.i64.wrap (t+n+1)=t+n+1:=IntWalk.i64_in _ (by omega)
 have w6:IntKind.i64.wrap n=n:=IntWalk.i64_in _ (by omega)
 unfold J5
 by_cases a:f<0<;>by_cases b:t<0
 ·by_cases c:f+n<0<;>by_cases d:n≤t+n
  ·by_cases k:n - 1<0<;>first| (exfalso;omega) | (simp[Ci,-List.getD_eq_getElem?_getD,-List.map_map,f204,a,b,c,d,k,w1,w2,w3,w4,w5,w6])
  ·by_cases k:t+n<0<;>first| (exfalso;omega) | (simp[Ci,-List.getD_eq_getElem?_getD,-List.map_map,f204,a,b,c,d,k,w1,w2,w3,w4,w5,w6])
  ·by_cases k:n - 1<f+n<;>first| (exfalso;omega) | (simp[Ci,-List.getD_eq_getElem?_getD,-List.map_map,f204,a,b,c,d,k,w1,w2,w3,w4,w5,w6])
  ·by_cases k:t+n<f+n<;>first| (exfalso;omega) | (simp[Ci,-List.getD_eq_getElem?_getD,-List.map_map,f204,a,b,c,d,k,w1,w2,w3,w4,w5,w6])
 ·by_cases c:f+n<0<;>by_cases d:n≤t
  ·by_cases k:n - 1<0<;>first| (exfalso;omega) | (simp[Ci,-List.getD_eq_getElem?_getD,-List.map_map,f204,a,b,c,d,k,w1,w2,w3,w4,w5,w6])
  ·by_cases k:t<0<;>first| (exfalso;omega) | (simp[Ci,-List.getD_eq_getElem?_getD,-List.map_map,f204,a,b,c,d,k,w1,w2,w3,w4,w5,w6])
  ·by_cases k:n - 1<f+n<;>first| (exfalso;omega) | (simp[Ci,-List.getD_eq_getElem?_getD,-List.map_map,f204,a,b,c,d,k,w1,w2,w3,w4,w5,w6])
  ·by_cases k:t<f+n<;>first| (exfalso;omega) | (simp[Ci,-List.getD_eq_getElem?_getD,-List.map_map,f204,a,b,c,d,k,w1,w2,w3,w4,w5,w6])
 ·by_cases c:f<0<;>by_cases d:n≤t+n
  ·by_cases k:n - 1<0<;>first| (exfalso;omega) | (simp[Ci,-List.getD_eq_getElem?_getD,-List.map_map,f204,a,b,c,d,k,w1,w2,w3,w4,w5,w6])
  ·by_cases k:t+n<0<;>first| (exfalso;omega) | (simp[Ci,-List.getD_eq_getElem?_getD,-List.map_map,f204,a,b,c,d,k,w1,w2,w3,w4,w5,w6])
  ·by_cases k:n - 1<f<;>first| (exfalso;omega) | (simp[Ci,-List.getD_eq_getElem?_getD,-List.map_map,f204,a,b,c,d,k,w1,w2,w3,w4,w5,w6])
  ·by_cases k:t+n<f<;>first| (exfalso;omega) | (simp[Ci,-List.getD_eq_getElem?_getD,-List.map_map,f204,a,b,c,d,k,w1,w2,w3,w4,w5,w6])
 ·by_cases c:f<0<;>by_cases d:n≤t
  ·by_cases k:n - 1<0<;>first| (exfalso;omega) | (simp[Ci,-List.getD_eq_getElem?_getD,-List.map_map,f204,a,b,c,d,k,w1,w2,w3,w4,w5,w6])
  ·by_cases k:t<0<;>first| (exfalso;omega) | (simp[Ci,-List.getD_eq_getElem?_getD,-List.map_map,f204,a,b,c,d,k,w1,w2,w3,w4,w5,w6])
  ·by_cases k:n - 1<f<;>first| (exfalso;omega) | (simp[Ci,-List.getD_eq_getElem?_getD,-List.map_map,f204,a,b,c,d,k,w1,w2,w3,w4,w5,w6])
  ·by_cases k:t<f<;>first| (exfalso;omega) | (simp[Ci,-List.getD_eq_getElem?_getD,-List.map_map,f204,a,b,c,d,k,w1,w2,w3,w4,w5,w6])
theorem Byh (H:Hp) (n:Int):ev R 261 [.d (.int .i64 n)] H=some (.d (.bool false),H):=by
 refine Bh (fn:=f261) rfl rfl ?_
 simp[Cn,-List.getD_eq_getElem?_getD,-List.map_map,f261]
theorem Byi (H:Hp) (s:Bq):ev R 262 [.d (.str s)] H=some (.d (.bool false),H):=by
 refine Bh (fn:=f262) rfl rfl ?_
 simp[Cn,-List.getD_eq_getElem?_getD,-List.map_map,f262]
def Bgd (a b:Int):Int:=if a<b then -1 else if b<a then 1 else 0
def Bge (x y:Bq):Int:=if Op.bytesLess x y=true then -1 else if(!(Op.bytesLess x y||decide (x=y)))=true then 1 else 0
theorem B1h (H:Hp) (a b:Int):ev R 231 [.d (.int .i64 a), .d (.int .i64 b)] H=some (.d (.int .i64 (Bgd a b)),H):=by
 refine Bh (fn:=f231) rfl rfl ?_
 have p1:=Bb (cl:=ev R) fun H=>Byh H a
 have p2:=Bb (cl:=ev R) fun H=>Byh H b
 unfold Bgd
 by_cases c1:a<b
 ·simp[Cn,-List.getD_eq_getElem?_getD,-List.map_map,f231,p1,p2,c1]
 ·by_cases c2:b<a
  ·simp[Cn,-List.getD_eq_getElem?_getD,-List.map_map,f231,p1,p2,c1,c2]
  ·simp[Cn,-List.getD_eq_getElem?_getD,-List.map_map,f231,p1,p2,c1,c2]
theorem B1i (H:Hp) (x y:Bq):ev R 232 [.d (.str x), .d (.str y)] H=some (.d (.int .i64 (Bge x y)),H):=by
 refine Bh (fn:=f232) rfl rfl ?_
 have p1:=Bb (cl:=ev R) fun H=>Byi H x
 have p2:=Bb (cl:=ev R) fun H=>Byi H y
 unfold Bge
 cases c1:Op.bytesLess x y with
 |true=>simp[Cn,-List.getD_eq_getElem?_getD,-List.map_map,f232,p1,p2,c1]
 |false=>
  by_cases c2:x=y
  ·subst c2
   simp[Cn,-List.getD_eq_getElem?_getD,-List.map_map,f232,p1,c1]
  ·simp[Cn,-List.getD_eq_getElem?_getD,-List.map_map,f232,p1,p2,c1,c2]
def orV (a b:Int):Int:=if a=0 then b else a
theorem Bn5 (a b:D): [a,b].getD 0 .nilp=a:=rfl
theorem Bn6 (a b:D): [a,b].getD 1 .nilp=b:=rfl
theorem B1g (H:Hp) (a b:Int):ev R 230 [.d (.vals 1 [.int .i64 a, .int .i64 b])] H=some (.d (.int .i64 (orV a b)),H):=by
 refine Bh (fn:=f230) rfl rfl ?_
 have w1:IntKind.i64.wrap (0+1)=1:=rfl
 have w2:IntKind.i64.wrap (1+1)=2:=rfl
 have w1':IntKind.i64.wrap 1=1:=rfl
 have w2':IntKind.i64.wrap 2=2:=rfl
 unfold orV
 by_cases c1:a=0
 ·subst c1
  by_cases c2:b=0
  ·subst c2
   have L: ∃e',Bg (Bp (ev R) R.glob (Bc H) Bg Qi) [3,6,7,8] ⟨[(3, .d (.int .i64 0)),(6, .d (.vals 1 [.int .i64 0, .int .i64 0])),(7, .d (.int .i64 2)),(8, .d (.int .i64 0))],H⟩=some (.exit 0,⟨e',H⟩)∧e'.get 3= .d (.int .i64 0):=by
    rw[Bu]
    simp[Cn,-List.getD_eq_getElem?_getD,-List.map_map,Qi,Bn5,Bn6,w1,w2,w1',w2']
    rw[Bu]
    simp[Cn,-List.getD_eq_getElem?_getD,-List.map_map,Qi,Bn5,Bn6,w1,w2,w1',w2']
    rw[Bu]
    refine⟨?_, ?_, ?_⟩
    rotate_left
    ·simp[Cn,-List.getD_eq_getElem?_getD,-List.map_map,Qi,Bn5,Bn6,w1,w2,w1',w2']
     try rfl
    ·simp[Cn,-List.getD_eq_getElem?_getD,-List.map_map]
   obtain⟨e',he,h3⟩:=L
   simp[Cn,-List.getD_eq_getElem?_getD,-List.map_map,f230,he,h3]
  ·have L: ∃e',Bg (Bp (ev R) R.glob (Bc H) Bg Qi) [3,6,7,8] ⟨[(3, .d (.int .i64 0)),(6, .d (.vals 1 [.int .i64 0, .int .i64 b])),(7, .d (.int .i64 2)),(8, .d (.int .i64 0))],H⟩=some (.ret,⟨e',H⟩)∧e'.get 2= .d (.int .i64 b):=by
    rw[Bu]
    simp[Cn,-List.getD_eq_getElem?_getD,-List.map_map,Qi,Bn5,Bn6,w1,w2,w1',w2',c2]
    rw[Bu]
    refine⟨?_, ?_, ?_⟩
    rotate_left
    ·simp[Cn,-List.getD_eq_getElem?_getD,-List.map_map,Qi,Bn5,Bn6,w1,w2,w1',w2',c2]
     try rfl
    ·simp[Cn,-List.getD_eq_getElem?_getD,-List.map_map]
   obtain⟨e',he,h3⟩:=L
   simp[Cn,-List.getD_eq_getElem?_getD,-List.map_map,f230,he,h3,c2]
 ·have L: ∃e',Bg (Bp (ev R) R.glob (Bc H) Bg Qi) [3,6,7,8] ⟨[(3, .d (.int .i64 0)),(6, .d (.vals 1 [.int .i64 a, .int .i64 b])),(7, .d (.int .i64 2)),(8, .d (.int .i64 0))],H⟩=some (.ret,⟨e',H⟩)∧e'.get 2= .d (.int .i64 a):=by
   rw[Bu]
   refine⟨?_, ?_, ?_⟩
   rotate_left
   ·simp[Cn,-List.getD_eq_getElem?_getD,-List.map_map,Qi,Bn5,Bn6,w1,w2,w1',w2',c1]
    try rfl
   ·simp[Cn,-List.getD_eq_getElem?_getD,-List.map_map]
  obtain⟨e',he,h3⟩:=L
  simp[Cn,-List.getD_eq_getElem?_getD,-List.map_map,f230,he,h3,c1]
theorem Bnm (H:Hp) (a b:Ev.Obj):Cx (Bt (Bt H a) b) (Bc H)=H:=by simp[Cx,Bt,Bc]
theorem B1c (H:Hp) (x y:Bq) (a b:Int):ev R 175 [.d (.agg [.str x, .int .i64 a]), .d (.agg [.str y, .int .i64 b])] H=some (.d (.int .i64 (orV (Bgd a b) (Bge x y))),H):=by
 refine Bh (fn:=f175) rfl rfl ?_
 have p1:=Bb (cl:=ev R) fun H=>B1h H a b
 have p2:=Bb (cl:=ev R) fun H=>B1i H x y
 have p3:=Bb (cl:=ev R) fun H=>B1g H (Bgd a b) (Bge x y)
 simp[Cn,-List.getD_eq_getElem?_getD,-List.map_map,f175,Ch,Dn,Cw,Be9,Bfa,p1,p2,p3,Bnm]
def Lg (x y:Bq) (a b:Int):Bool:=decide (a<b) || (decide (a=b) &&Op.bytesLess x y)
theorem Bre (H:Hp) (x y:Bq) (a b:Int):ev R 159 [.d (.agg [.str x, .int .i64 a]), .d (.agg [.str y, .int .i64 b])] H=some (.d (.bool (Lg x y a b)),H):=by
 refine Bh (fn:=f159) rfl rfl ?_
 unfold Lg
 by_cases c1:a<b
 ·simp[Cn,-List.getD_eq_getElem?_getD,-List.map_map,f159,Ch,Dn,Cw,Be9,Bfa,c1,Bnm]
 ·by_cases c2:a=b
  ·simp[Cn,-List.getD_eq_getElem?_getD,-List.map_map,f159,Ch,Dn,Cw,Be9,Bfa,c1,c2,Bnm]
  ·simp[Cn,-List.getD_eq_getElem?_getD,-List.map_map,f159,Ch,Dn,Cw,Be9,Bfa,c1,c2,Bnm]
theorem Bhh (x y:Bq) (a b:Int):decide (orV (Bgd a b) (Bge x y)≥0)= !Lg x y a b:=by
 unfold orV Bgd Bge Lg
 by_cases c1:a<b
 ·simp[c1]
 ·by_cases c2:b<a
  ·have: ¬a=b:=by omega
   simp[c1,c2,this]
  ·have:a=b:=by omega
   cases h:Op.bytesLess x y with
   |true=>simp[c1,c2,this]
   |false=>
    by_cases c3:x=y
    ·simp[c1,c2,this,c3]
    ·simp[c1,c2,this,c3]
theorem B1k (H:Hp) (t x:Bq) (n:Int):ev R 234 [.d (.agg [.str t, .int .i64 n]), .d (.rptr [.str x])] H=some (.d (.bool (decide (t=x))),H):=by
 refine Bh (fn:=f234) rfl rfl ?_
 have ld:Dn (Bt H (.row 0 2 [.d (.agg [.str t, .int .i64 n])])) (Bc H) 0 0 0 1=some [.d (.str t)]:=by simp[Dn,Cy,V.cells,D.cells]
 simp[Cn,-List.getD_eq_getElem?_getD,-List.map_map,f234,ld]
def K3 (xs:List Sc) (x:Bq) (i:Nat):Bool:=decide ((xs.getD i ([],0)).1=x)
theorem Byp (n0:Nat) (xs:List Sc) (hx:xs.length≤9223372036854775807) (x:Bq) (H:Hp): ∀ (n i:Nat) (e:Env),i+n=xs.length→e.get 0= .d (De xs)→e.get 1= .d (.fn (.func 234) [.rptr [.str x]])→e.get 7= .d (.int .i64 xs.length)→e.get 8= .d (.int .i64 i)→
  ∃e',Bg (Bp (ev R) R.glob n0 Bg Yo) [0,1,7,8] ⟨e,H⟩=some ((match Fu (K3 xs x) n i with|some _=> .ret|none=> .exit 0),⟨e',H⟩)∧(∀j,Fu (K3 xs x) n i=some j→e'.get 4= .d (.int .i64 j))
 |0,i,e,h1,g0,g1,g7,g8=>by
  have c: ¬ (i:Int)< (xs.length:Int):=by omega
  have c': ¬i<xs.length:=by omega
  rw[Bu]
  simp only[Fu]
  refine⟨?_, ?_, ?_⟩
  rotate_left
  ·simp[Cn,-List.getD_eq_getElem?_getD,-List.map_map,Yo,g0,g1,g7,g8,De,c,c']
   try rfl
  ·intro j h;simp at h
 |n+1,i,e,h1,g0,g1,g7,g8=>by
  have c: (i:Int)< (xs.length:Int):=by omega
  have c':i<xs.length:=by omega
  have ga:=P9 xs i c'
  have p:=Bb (cl:=ev R) fun H=>B1k H (xs.getD i ([],0)).1 x (xs.getD i ([],0)).2
  have hp:K3 xs x i=decide ((xs.getD i ([],0)).1=x):=rfl
  have w1:IntKind.i64.wrap ((i:Int)+1)=((i+1:Nat):Int):=by rw[IntWalk.i64_in _ (by omega)];rfl
  have ih:=Byp n0 xs hx x H n (i+1)
  simp only[Fu]
  rw[hp]
  generalize(xs.getD i ([],0))=y at*
  rw[Bu]
  generalize Bg (Bp (ev R) R.glob n0 Bg Yo) [0,1,7,8]=F at ih⊢
  by_cases hb:y.1=x
  ·simp only[hb,decide_true,if_true] at p⊢
   refine⟨?_, ?_, ?_⟩
   rotate_left
   ·simp[Cn,-List.getD_eq_getElem?_getD,-List.map_map,Yo,g0,g1,g7,g8,De,c,c',ga,hb,p]
    try rfl
   ·intro j hj
    simp only[Option.some.injEq] at hj
    subst hj
    simp[Cn,-List.getD_eq_getElem?_getD,-List.map_map]
  ·simp only[hb,decide_false,Bool.false_eq_true,if_false] at p⊢
   generalize Fu (K3 xs x) n (i+1)=S at*
   simp[Cn,-List.getD_eq_getElem?_getD,-List.map_map,Yo,g0,g1,g7,g8,De,c,c',ga,hb,p,w1]
   refine ih _ (by omega) ?_ ?_ ?_ ?_<;> (first|rfl|exact g7)
def Bld (xs:List Sc) (x:Bq):Int:=match Fu (K3 xs x) xs.length 0 with|some j=>j|none=> -1
theorem B1j (H:Hp) (xs:List Sc) (hx:xs.length≤9223372036854775807) (x:Bq):ev R 233 [.d (De xs), .d (.fn (.func 234) [.rptr [.str x]])] H=some (.d (.int .i64 (Bld xs x)),H):=by
 refine Bh (fn:=f233) rfl rfl ?_
 obtain⟨e',he,h4⟩:=Byp (Bc H) xs hx x H xs.length 0 [(0, .d (De xs)),(1, .d (.fn (.func 234) [.rptr [.str x]])),(7, .d (.int .i64 xs.length)),(8, .d (.int .i64 0))] (by omega) rfl rfl rfl rfl
 unfold Bld
 simp only[De] at he
 cases hr:Fu (K3 xs x) xs.length 0 with
 |some j=>
  have h4:=h4 j hr
  simp only[hr] at he
  simp[Cn,-List.getD_eq_getElem?_getD,-List.map_map,f233,De,he,h4]
 |none=>
  simp only[hr] at he
  simp[Cn,-List.getD_eq_getElem?_getD,-List.map_map,f233,De,he]
theorem B1d (H:Hp) (xs:List Sc) (hx:xs.length≤9223372036854775807) (x:Bq):ev R 176 [.d (De xs), .d (.str x)] H=some (.d (.int .i64 (Bld xs x)),H):=by
 refine Bh (fn:=f176) rfl rfl ?_
 have p:=Bb (cl:=ev R) fun H=>B1j H xs hx x
 have uno: ∀a:D,[a].getD 0 .nilp=a:=fun _=>rfl
 simp only[De] at p
 simp[Cn,-List.getD_eq_getElem?_getD,-List.map_map,f176,De,uno,p]
theorem Bnb (xs:List Sc) (i:Nat) (hi:i<xs.length):decide (¬Bld xs (xs.getD i ([],0)).1=(i:Int))=D9 (K3 xs (xs.getD i ([],0)).1) i 0:=by
 have anyT: ∀ (p:Nat→Bool) (n k:Nat),D9 p n k=true↔∃j,k≤j∧j<k+n∧p j=true:=by
  intro p n
  induction n with
  |zero=>intro k;simp[D9];intro j h1 h2;omega
  |succ n ih=>
   intro k
   simp only[D9,Bool.or_eq_true,ih (k+1)]
   constructor
   ·rintro(h| ⟨j,h1,h2,h3⟩)
    ·exact⟨k,Nat.le_refl _,by omega,h⟩
    ·exact⟨j,by omega,by omega,h3⟩
   ·rintro⟨j,h1,h2,h3⟩
    by_cases e:j=k
    ·subst e;exact .inl h3
    ·exact .inr ⟨j,by omega,by omega,h3⟩
 have self:K3 xs (xs.getD i ([],0)).1 i=true:=by simp[K3]
 generalize(xs.getD i ([],0)).1=x at*
 unfold Bld
 cases hr:Fu (K3 xs x) xs.length 0 with
 |none=>
  have:=Uf hr i (by omega) (by omega)
  rw[self] at this;simp at this
 |some j=>
  obtain⟨h1,h2,h3,h4⟩:=Q8 hr
  have hji:j≤i:=by
   refine Nat.le_of_not_lt fun h=> ?_
   have:=h4 i (by omega) h
   rw[self] at this;simp at this
  simp only
  cases hb:D9 (K3 xs x) i 0 with
  |true=>
   obtain⟨k,k1,k2,k3⟩:=(anyT _ _ _).1 hb
   have hk: ¬k<j:=fun h=>by
    have:=h4 k (by omega) h
    rw[k3] at this;simp at this
   simp;omega
  |false=>
   have: ¬j<i:=fun h=>by
    have:=(anyT (K3 xs x) i 0).2 ⟨j,by omega,by omega,h3⟩
    rw[hb] at this;simp at this
   simp;omega
theorem Boz (xs:List Sc) (hx:xs.length≤1000000):Be (ev R) 29 [.d (De xs), .d (De xs)]=some (.d (.bool true)):=Bb fun H=>by
 refine Bh (fn:=f29) rfl rfl ?_
 obtain⟨o,e',X',he,rfl,rfl⟩:=(C8 (F:=Bp (ev R) R.glob (Bc H) Bg Bml) (lv:=[0,1,5]) xs.length
  (fun i e X=>X=H∧e.get 0= .d (De xs)∧e.get 1= .d (De xs)∧e.get 5= .d (.int .i64 i))
  (fun o e X=>o= .exit 0∧X=H)
  (by
   rintro e X ⟨rfl,g0,g1,g5⟩
   simp(maxSteps:=1000000) [Ce,-List.getD_eq_getElem?_getD,-List.map_map,Bml,g0,g1,g5])
  (by
   rintro i e X hi ⟨rfl,g0,g1,g5⟩
   have c: (i:Int)< (xs.length:Int):=by omega
   have c0: (0:Int)≤(i:Int):=by omega
   have g:=P9 xs i hi
   have w1:IntKind.i64.wrap ((i:Int)+1)=((i+1:Nat):Int):=by rw[IntWalk.i64_in _ (by omega)];rfl
   generalize xs.getD i ([],0)=x at*
   obtain⟨t,n⟩:=x
   simp[evA,-List.getD_eq_getElem?_getD,-List.map_map,Bml,g0,g1,g5,c,c0,g,hi,w1,Jm,Bcn,X9,U7])
  xs.length 0 [(0, .d (De xs)),(1, .d (De xs)),(5, .d (.int .i64 0))] H (by omega) ⟨rfl,rfl,rfl,rfl⟩).out
 simp(maxSteps:=1000000) [Ce,-List.getD_eq_getElem?_getD,-List.map_map,f29,he]
theorem Bo0 (xs:List Pr) (hx:xs.length≤1000000):Be (ev R) 30 [.d (Ff xs), .d (Ff xs)]=some (.d (.bool true)):=Bb fun H=>by
 refine Bh (fn:=f30) rfl rfl ?_
 obtain⟨o,e',X',he,rfl,rfl⟩:=(C8 (F:=Bp (ev R) R.glob (Bc H) Bg Bmm) (lv:=[0,1,5]) xs.length
  (fun i e X=>X=H∧e.get 0= .d (Ff xs)∧e.get 1= .d (Ff xs)∧e.get 5= .d (.int .i64 i))
  (fun o e X=>o= .exit 0∧X=H)
  (by
   rintro e X ⟨rfl,g0,g1,g5⟩
   simp(maxSteps:=1000000) [Ce,-List.getD_eq_getElem?_getD,-List.map_map,Bmm,g0,g1,g5])
  (by
   rintro i e X hi ⟨rfl,g0,g1,g5⟩
   have c: (i:Int)< (xs.length:Int):=by omega
   have c0: (0:Int)≤(i:Int):=by omega
   have g:=Xp xs i hi
   have w1:IntKind.i64.wrap ((i:Int)+1)=((i+1:Nat):Int):=by rw[IntWalk.i64_in _ (by omega)];rfl
   generalize xs.getD i ([],[])=x at*
   obtain⟨t,n⟩:=x
   simp[evA,-List.getD_eq_getElem?_getD,-List.map_map,Bmm,g0,g1,g5,c,c0,g,hi,w1,Jm,Bcn,X9,U7])
  xs.length 0 [(0, .d (Ff xs)),(1, .d (Ff xs)),(5, .d (.int .i64 0))] H (by omega) ⟨rfl,rfl,rfl,rfl⟩).out
 simp(maxSteps:=1000000) [Ce,-List.getD_eq_getElem?_getD,-List.map_map,f30,he]
theorem Bdz (e:En) (h1:e.list.length≤1000000) (h2:e.scores.length≤1000000) (h3:e.fields.length≤1000000):Be (ev R) 10 [.d (Fy e), .d (Fy e)]=some (.d (.bool true)):=Bb fun H=>by
 refine Bh (fn:=f10) rfl rfl ?_
 have p1:=Boy e.list (by omega)
 have p2:=Boz e.scores h2
 have p3:=Bo0 e.fields h3
 simp[Ci,-List.getD_eq_getElem?_getD,-List.map_map,f10,p1,p2,p3]
theorem Boq (b:Ba) (hl:b.ents.length≤1000000) (h: ∀e∈b.ents,e.list.length≤1000000∧e.scores.length≤1000000∧e.fields.length≤1000000):Be (ev R) 12 [.d (Df b), .d (Df b)]=some (.d (.bool true)):=Bb fun H=>by
 refine Bh (fn:=f12) rfl rfl ?_
 obtain⟨o,e',X',he,rfl,ht⟩:=(C8 (F:=Bp (ev R) R.glob (Bc H) Bg Bmk) (lv:=[2,3,5]) b.ents.length
  (fun i e X=>X=ap H [.row 0 2 [.d (Df b)], .row 0 2 [.d (Df b)]]∧e.get 2= .ptr (Bc H) 0 0 0∧e.get 3= .ptr (Bc H+1) 0 0 0∧e.get 5= .d (.int .i64 i))
  (fun o e X=>o= .exit 0∧Cx X (Bc H)=H)
  (by
   rintro e X ⟨rfl,g2,g3,g5⟩
   simp[Ci,-List.getD_eq_getElem?_getD,-List.map_map,Bmk,g2,g3,g5])
  (by
   rintro i e X hi ⟨rfl,g2,g3,g5⟩
   have c: (i:Int)< (b.ents.length:Int):=by omega
   have c0: (0:Int)≤(i:Int):=by omega
   have g:=Ja b.ents i hi
   have w1:IntKind.i64.wrap ((i:Int)+1)=((i+1:Nat):Int):=by rw[IntWalk.i64_in _ (by omega)];rfl
   have hh:=h _ (Gr hi:b.ents.getD i default∈b.ents)
   have p:=Bdz (b.ents.getD i default) hh.1 hh.2.1 hh.2.2
   generalize b.ents.getD i default=x at*
   simp[Ci,-List.getD_eq_getElem?_getD,-List.map_map,Bmk,g2,g3,g5,c,c0,g,hi,w1,p])
  b.ents.length 0 [(2, .ptr (Bc H) 0 0 0),(3, .ptr (Bc H+1) 0 0 0),(5, .d (.int .i64 0))] (ap H [.row 0 2 [.d (Df b)], .row 0 2 [.d (Df b)]]) (by omega) ⟨rfl,rfl,rfl,rfl⟩).out
 simp[Ci,-List.getD_eq_getElem?_getD,-List.map_map,f12,he,ht]
end Go.Proofs.YtpajcoanfkeibaaGreatDoor.Code

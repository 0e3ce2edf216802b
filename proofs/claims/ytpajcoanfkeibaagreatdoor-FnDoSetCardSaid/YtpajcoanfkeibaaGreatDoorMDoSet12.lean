/- Lemmas (several texts in one). -/
import Derived.Test.YtpajcoanfkeibaaGreatDoorMDoSet5
import Derived.Test.YtpajcoanfkeibaaGreatDoorMDoSet6
import Derived.Test.YtpajcoanfkeibaaGreatDoorMDoSet11
set_option maxRecDepth 100000
set_option linter.unusedSimpArgs false
set_option linter.unusedVariables false
set_option maxHeartbeats 2000000
namespace Go.Proofs.YtpajcoanfkeibaaGreatDoor.Code
open Go Go.Ev Go.Proofs
section
variable (H:Hp) (a b c d:Ev.Obj)
theorem Bfp:Ce (Bu (Bu H a) b) (Be H)=some a:=by rw[Fg _ (by rw[Cg];omega),Dz]
theorem Bfq:Ce (Bu (Bu H a) b) (Be H+1)=some b:=by rw[←Cg H a,Dz]
end
theorem Nf (xs:List Sc) (i:Nat) (hi:i<xs.length): (xs.map Ku).getD i .nilp=Ku (xs.getD i ([],0)):=by
 simp[List.getD_eq_getElem?_getD,hi]
theorem Xx (xs:List Pr) (i:Nat) (hi:i<xs.length): (xs.map Lb).getD i .nilp=Lb (xs.getD i ([],[])):=by
 simp[List.getD_eq_getElem?_getD,hi]
structure Small (e:En):Prop where
 list:e.list.length≤1048576
 scores:e.scores.length≤1048576
 fields:e.fields.length≤1048576
theorem Bry (H:Hp) (xs:List Bq) (hx:xs.length≤1000000):ev R 73 [.d (Bf xs)] H=some (.slc (Be H) 0 0 xs.length,ap H [.row 0 1 ((xs.map D.str).map V.d)]):=by
 refine Bh (fn:=f73) rfl rfl ?_
 have r:xs.length*16≤Cq:=by unfold Cq;omega
 simp[Ch,-List.getD_eq_getElem?_getD,-List.map_map,f73,Bf,r,Ux]
theorem Bdf (xs:List Bq) (hx:xs.length≤1000000):Gl (ev R) 73 [.d (Bf xs)]=some (.d (Bf xs)):=by
 refine Jt fun H=> ⟨_,_,Bry H xs hx, ?_,L6 H _⟩
 simp[Ch,-List.getD_eq_getElem?_getD,-List.map_map,Bf]
theorem U1 (xs:List Bq) (hx:xs.length≤1000000):Bc (ev R) 73 [.d (Bf xs)]=none:=by
 cases h:Bc (ev R) 73 [.d (Bf xs)] with
 |none=>rfl
 |some v=>
  have h1:=Dx h []
  rw[Bry [] xs hx] at h1
  simp[ap] at h1
theorem Bv (s:Bq):Bc (ev R) 164 [.d (.str s)]=some (.d (P7 (.mk 1 0 s [] []))):=Bb fun H=>by
 refine Bh (fn:=f164) rfl rfl ?_
 simp[Ch,-List.getD_eq_getElem?_getD,-List.map_map,f164,Bf]
theorem Js (n:Int):Bc (ev R) 201 [.d (.int .i64 n)]=some (.d (P7 (.mk 2 n [] [] []))):=Bb fun H=>by
 refine Bh (fn:=f201) rfl rfl ?_
 simp[Ch,-List.getD_eq_getElem?_getD,-List.map_map,f201,Bf]
theorem Bee (s:Bq):Bc (ev R) 200 [.d (.str s)]=some (.d (P7 (.mk 3 0 s [] []))):=Bb fun H=>by
 refine Bh (fn:=f200) rfl rfl ?_
 simp[Ch,-List.getD_eq_getElem?_getD,-List.map_map,f200,Bf]
theorem Gp:Bc (ev R) 199 []=some (.d (P7 (.mk 4 0 [] [] []))):=Bb fun H=>by
 refine Bh (fn:=f199) rfl rfl ?_
 simp[Ch,-List.getD_eq_getElem?_getD,-List.map_map,f199,Bf]
theorem Xv (xs:List Bq):Bc (ev R) 211 [.d (Bf xs)]=some (.d (P7 (.mk 5 0 [] xs []))):=Bb fun H=>by
 refine Bh (fn:=f211) rfl rfl ?_
 simp[Ch,-List.getD_eq_getElem?_getD,-List.map_map,f211,Bf]
def Ji (b:Bool):Re:= .mk 2 (if b then 1 else 0) [] [] []
theorem Bef (b:Bool):Bc (ev R) 214 [.d (.bool b)]=some (.d (P7 (Ji b))):=Bb fun H=>by
 refine Bh (fn:=f214) rfl rfl ?_
 have a:=Js 1
 have c:=Js 0
 cases b<;>simp[Ch,-List.getD_eq_getElem?_getD,-List.map_map,f214,a,c,Ji]
theorem Beg (n:Int):Bc (ev R) 255 [.d (.int .i64 n)]=some (.d (.bool (decide (-1000000000≤n) &&decide (n≤1000000000)))):=Bb fun H=>by
 refine Bh (fn:=f255) rfl rfl ?_
 have p:=Bb (cl:=ev R) fun H=>B2x H n (-1000000000) 1000000000
 simp[Ch,-List.getD_eq_getElem?_getD,-List.map_map,f255,p]
def Ki (n f t:Int):Int×Int:=
 let f:=if f<0 then f+n else f
 let t:=if t<0 then t+n else t
 let f:=if f<0 then 0 else f
 let t:=if n≤t then n - 1 else t
 if t<f then(0,0) else(f,t+1)
theorem Bsp (n f t:Int) (hn:0≤n∧n≤1000000) (hf: -1000000000≤f∧f≤1000000000) (ht: -1000000000≤t∧t≤1000000000):
  Bc (ev R) 204 [.d (.int .i64 n), .d (.int .i64 f), .d (.int .i64 t)]=some (.tup [.d (.int .i64 (Ki n f t).1), .d (.int .i64 (Ki n f t).2)]):=Bb fun H=>by
 refine Bh (fn:=f204) rfl rfl ?_
 have w1:IntKind.i64.wrap (f+n)=f+n:=IntWalk.i64_in _ (by omega)
 have w2:IntKind.i64.wrap (t+n)=t+n:=IntWalk.i64_in _ (by omega)
 have w3:IntKind.i64.wrap (n - 1)=n - 1:=IntWalk.i64_in _ (by omega)
 have w4:IntKind.i64.wrap (t+1)=t+1:=IntWalk.i64_in _ (by omega)
 have w5:IntKind.i64.wrap (t+n+1)=t+n+1:=IntWalk.i64_in _ (by omega)
 have w6:IntKind.i64.wrap n=n:=IntWalk.i64_in _ (by omega)
 unfold Ki
 by_cases a:f<0<;>by_cases b:t<0
 ·by_cases c:f+n<0<;>by_cases d:n≤t+n
  ·by_cases k:n - 1<0<;>first| (exfalso;omega) | (simp[Ch,-List.getD_eq_getElem?_getD,-List.map_map,f204,a,b,c,d,k,w1,w2,w3,w4,w5,w6])
  ·by_cases k:t+n<0<;>first| (exfalso;omega) | (simp[Ch,-List.getD_eq_getElem?_getD,-List.map_map,f204,a,b,c,d,k,w1,w2,w3,w4,w5,w6])
  ·by_cases k:n - 1<f+n<;>first| (exfalso;omega) | (simp[Ch,-List.getD_eq_getElem?_getD,-List.map_map,f204,a,b,c,d,k,w1,w2,w3,w4,w5,w6])
  ·by_cases k:t+n<f+n<;>first| (exfalso;omega) | (simp[Ch,-List.getD_eq_getElem?_getD,-List.map_map,f204,a,b,c,d,k,w1,w2,w3,w4,w5,w6])
 ·by_cases c:f+n<0<;>by_cases d:n≤t
  ·by_cases k:n - 1<0<;>first| (exfalso;omega) | (simp[Ch,-List.getD_eq_getElem?_getD,-List.map_map,f204,a,b,c,d,k,w1,w2,w3,w4,w5,w6])
  ·by_cases k:t<0<;>first| (exfalso;omega) | (simp[Ch,-List.getD_eq_getElem?_getD,-List.map_map,f204,a,b,c,d,k,w1,w2,w3,w4,w5,w6])
  ·by_cases k:n - 1<f+n<;>first| (exfalso;omega) | (simp[Ch,-List.getD_eq_getElem?_getD,-List.map_map,f204,a,b,c,d,k,w1,w2,w3,w4,w5,w6])
  ·by_cases k:t<f+n<;>first| (exfalso;omega) | (simp[Ch,-List.getD_eq_getElem?_getD,-List.map_map,f204,a,b,c,d,k,w1,w2,w3,w4,w5,w6])
 ·by_cases c:f<0<;>by_cases d:n≤t+n
  ·by_cases k:n - 1<0<;>first| (exfalso;omega) | (simp[Ch,-List.getD_eq_getElem?_getD,-List.map_map,f204,a,b,c,d,k,w1,w2,w3,w4,w5,w6])
  ·by_cases k:t+n<0<;>first| (exfalso;omega) | (simp[Ch,-List.getD_eq_getElem?_getD,-List.map_map,f204,a,b,c,d,k,w1,w2,w3,w4,w5,w6])
  ·by_cases k:n - 1<f<;>first| (exfalso;omega) | (simp[Ch,-List.getD_eq_getElem?_getD,-List.map_map,f204,a,b,c,d,k,w1,w2,w3,w4,w5,w6])
  ·by_cases k:t+n<f<;>first| (exfalso;omega) | (simp[Ch,-List.getD_eq_getElem?_getD,-List.map_map,f204,a,b,c,d,k,w1,w2,w3,w4,w5,w6])
 ·by_cases c:f<0<;>by_cases d:n≤t
  ·by_cases k:n - 1<0<;>first| (exfalso;omega) | (simp[Ch,-List.getD_eq_getElem?_getD,-List.map_map,f204,a,b,c,d,k,w1,w2,w3,w4,w5,w6])
  ·by_cases k:t<0<;>first| (exfalso;omega) | (simp[Ch,-List.getD_eq_getElem?_getD,-List.map_map,f204,a,b,c,d,k,w1,w2,w3,w4,w5,w6])
  ·by_cases k:n - 1<f<;>first| (exfalso;omega) | (simp[Ch,-List.getD_eq_getElem?_getD,-List.map_map,f204,a,b,c,d,k,w1,w2,w3,w4,w5,w6])
  ·by_cases k:t<f<;>first| (exfalso;omega) | (simp[Ch,-List.getD_eq_getElem?_getD,-List.map_map,f204,a,b,c,d,k,w1,w2,w3,w4,w5,w6])
theorem By3 (H:Hp) (n:Int):ev R 261 [.d (.int .i64 n)] H=some (.d (.bool false),H):=by
 refine Bh (fn:=f261) rfl rfl ?_
 simp[Cm,-List.getD_eq_getElem?_getD,-List.map_map,f261]
theorem By4 (H:Hp) (s:Bq):ev R 262 [.d (.str s)] H=some (.d (.bool false),H):=by
 refine Bh (fn:=f262) rfl rfl ?_
 simp[Cm,-List.getD_eq_getElem?_getD,-List.map_map,f262]
def Bgv (a b:Int):Int:=if a<b then -1 else if b<a then 1 else 0
def Bgw (x y:Bq):Int:=if Op.bytesLess x y=true then -1 else if(!(Op.bytesLess x y||decide (x=y)))=true then 1 else 0
theorem B2o (H:Hp) (a b:Int):ev R 231 [.d (.int .i64 a), .d (.int .i64 b)] H=some (.d (.int .i64 (Bgv a b)),H):=by
 refine Bh (fn:=f231) rfl rfl ?_
 have p1:=Bb (cl:=ev R) fun H=>By3 H a
 have p2:=Bb (cl:=ev R) fun H=>By3 H b
 unfold Bgv
 by_cases c1:a<b
 ·simp[Cm,-List.getD_eq_getElem?_getD,-List.map_map,f231,p1,p2,c1]
 ·by_cases c2:b<a
  ·simp[Cm,-List.getD_eq_getElem?_getD,-List.map_map,f231,p1,p2,c1,c2]
  ·simp[Cm,-List.getD_eq_getElem?_getD,-List.map_map,f231,p1,p2,c1,c2]
theorem B2p (H:Hp) (x y:Bq):ev R 232 [.d (.str x), .d (.str y)] H=some (.d (.int .i64 (Bgw x y)),H):=by
 refine Bh (fn:=f232) rfl rfl ?_
 have p1:=Bb (cl:=ev R) fun H=>By4 H x
 have p2:=Bb (cl:=ev R) fun H=>By4 H y
 unfold Bgw
 cases c1:Op.bytesLess x y with
 |true=>simp[Cm,-List.getD_eq_getElem?_getD,-List.map_map,f232,p1,p2,c1]
 |false=>
  by_cases c2:x=y
  ·subst c2
   simp[Cm,-List.getD_eq_getElem?_getD,-List.map_map,f232,p1,c1]
  ·simp[Cm,-List.getD_eq_getElem?_getD,-List.map_map,f232,p1,p2,c1,c2]
def orV (a b:Int):Int:=if a=0 then b else a
theorem Bok (a b:D): [a,b].getD 0 .nilp=a:=rfl
theorem Bol (a b:D): [a,b].getD 1 .nilp=b:=rfl
theorem B2n (H:Hp) (a b:Int):ev R 230 [.d (.vals 1 [.int .i64 a, .int .i64 b])] H=some (.d (.int .i64 (orV a b)),H):=by
 refine Bh (fn:=f230) rfl rfl ?_
 have w1:IntKind.i64.wrap (0+1)=1:=rfl
 have w2:IntKind.i64.wrap (1+1)=2:=rfl
 have w1':IntKind.i64.wrap 1=1:=rfl
 have w2':IntKind.i64.wrap 2=2:=rfl
 unfold orV
 by_cases c1:a=0
 ·subst c1
  by_cases c2:b=0
  ·subst c2
   have L: ∃e',Bg (Bp (ev R) R.glob (Be H) Bg Qs) [3,6,7,8] ⟨[(3, .d (.int .i64 0)),(6, .d (.vals 1 [.int .i64 0, .int .i64 0])),(7, .d (.int .i64 2)),(8, .d (.int .i64 0))],H⟩=some (.exit 0,⟨e',H⟩)∧e'.get 3= .d (.int .i64 0):=by
    rw[Bt]
    simp[Cm,-List.getD_eq_getElem?_getD,-List.map_map,Qs,Bok,Bol,w1,w2,w1',w2']
    rw[Bt]
    simp[Cm,-List.getD_eq_getElem?_getD,-List.map_map,Qs,Bok,Bol,w1,w2,w1',w2']
    rw[Bt]
    refine⟨?_, ?_, ?_⟩
    rotate_left
    ·simp[Cm,-List.getD_eq_getElem?_getD,-List.map_map,Qs,Bok,Bol,w1,w2,w1',w2']
     try rfl
    ·simp[Cm,-List.getD_eq_getElem?_getD,-List.map_map]
   obtain⟨e',he,h3⟩:=L
   simp[Cm,-List.getD_eq_getElem?_getD,-List.map_map,f230,he,h3]
  ·have L: ∃e',Bg (Bp (ev R) R.glob (Be H) Bg Qs) [3,6,7,8] ⟨[(3, .d (.int .i64 0)),(6, .d (.vals 1 [.int .i64 0, .int .i64 b])),(7, .d (.int .i64 2)),(8, .d (.int .i64 0))],H⟩=some (.ret,⟨e',H⟩)∧e'.get 2= .d (.int .i64 b):=by
    rw[Bt]
    simp[Cm,-List.getD_eq_getElem?_getD,-List.map_map,Qs,Bok,Bol,w1,w2,w1',w2',c2]
    rw[Bt]
    refine⟨?_, ?_, ?_⟩
    rotate_left
    ·simp[Cm,-List.getD_eq_getElem?_getD,-List.map_map,Qs,Bok,Bol,w1,w2,w1',w2',c2]
     try rfl
    ·simp[Cm,-List.getD_eq_getElem?_getD,-List.map_map]
   obtain⟨e',he,h3⟩:=L
   simp[Cm,-List.getD_eq_getElem?_getD,-List.map_map,f230,he,h3,c2]
 ·have L: ∃e',Bg (Bp (ev R) R.glob (Be H) Bg Qs) [3,6,7,8] ⟨[(3, .d (.int .i64 0)),(6, .d (.vals 1 [.int .i64 a, .int .i64 b])),(7, .d (.int .i64 2)),(8, .d (.int .i64 0))],H⟩=some (.ret,⟨e',H⟩)∧e'.get 2= .d (.int .i64 a):=by
   rw[Bt]
   refine⟨?_, ?_, ?_⟩
   rotate_left
   ·simp[Cm,-List.getD_eq_getElem?_getD,-List.map_map,Qs,Bok,Bol,w1,w2,w1',w2',c1]
    try rfl
   ·simp[Cm,-List.getD_eq_getElem?_getD,-List.map_map]
  obtain⟨e',he,h3⟩:=L
  simp[Cm,-List.getD_eq_getElem?_getD,-List.map_map,f230,he,h3,c1]
theorem Bn3 (H:Hp) (a b:Ev.Obj):C8 (Bu (Bu H a) b) (Be H)=H:=by simp[C8,Bu,Be]
theorem B2i (H:Hp) (x y:Bq) (a b:Int):ev R 175 [.d (.agg [.str x, .int .i64 a]), .d (.agg [.str y, .int .i64 b])] H=some (.d (.int .i64 (orV (Bgv a b) (Bgw x y))),H):=by
 refine Bh (fn:=f175) rfl rfl ?_
 have p1:=Bb (cl:=ev R) fun H=>B2o H a b
 have p2:=Bb (cl:=ev R) fun H=>B2p H x y
 have p3:=Bb (cl:=ev R) fun H=>B2n H (Bgv a b) (Bgw x y)
 simp[Cm,-List.getD_eq_getElem?_getD,-List.map_map,f175,Cg,Dw,Cz,Bfp,Bfq,p1,p2,p3,Bn3]
def Lx (x y:Bq) (a b:Int):Bool:=decide (a<b) || (decide (a=b) &&Op.bytesLess x y)
theorem Brw (H:Hp) (x y:Bq) (a b:Int):ev R 159 [.d (.agg [.str x, .int .i64 a]), .d (.agg [.str y, .int .i64 b])] H=some (.d (.bool (Lx x y a b)),H):=by
 refine Bh (fn:=f159) rfl rfl ?_
 unfold Lx
 by_cases c1:a<b
 ·simp[Cm,-List.getD_eq_getElem?_getD,-List.map_map,f159,Cg,Dw,Cz,Bfp,Bfq,c1,Bn3]
 ·by_cases c2:a=b
  ·simp[Cm,-List.getD_eq_getElem?_getD,-List.map_map,f159,Cg,Dw,Cz,Bfp,Bfq,c1,c2,Bn3]
  ·simp[Cm,-List.getD_eq_getElem?_getD,-List.map_map,f159,Cg,Dw,Cz,Bfp,Bfq,c1,c2,Bn3]
theorem Bhw (x y:Bq) (a b:Int):decide (orV (Bgv a b) (Bgw x y)≥0)= !Lx x y a b:=by
 unfold orV Bgv Bgw Lx
 by_cases c1:a<b
 ·simp[c1]
 ·by_cases c2:b<a
  ·have: ¬a=b:=by omega
   simp[c1,c2,this]
  ·have:a=b:=by omega
   cases h:Op.bytesLess x y with
   |true=>simp[c1,c2,this]
   |false=>
    by_cases c3:x=y
    ·simp[c1,c2,this,c3]
    ·simp[c1,c2,this,c3]
theorem B2r (H:Hp) (t x:Bq) (n:Int):ev R 234 [.d (.agg [.str t, .int .i64 n]), .d (.rptr [.str x])] H=some (.d (.bool (decide (t=x))),H):=by
 refine Bh (fn:=f234) rfl rfl ?_
 have ld:Dw (Bu H (.row 0 2 [.d (.agg [.str t, .int .i64 n])])) (Be H) 0 0 0 1=some [.d (.str t)]:=by simp[Dw,C9,V.cells,D.cells]
 simp[Cm,-List.getD_eq_getElem?_getD,-List.map_map,f234,ld]
def Lc (xs:List Sc) (x:Bq) (i:Nat):Bool:=decide ((xs.getD i ([],0)).1=x)
theorem Bzb (n0:Nat) (xs:List Sc) (hx:xs.length≤9223372036854775807) (x:Bq) (H:Hp): ∀ (n i:Nat) (e:Env),i+n=xs.length→e.get 0= .d (Dj xs)→e.get 1= .d (.fn (.func 234) [.rptr [.str x]])→e.get 7= .d (.int .i64 xs.length)→e.get 8= .d (.int .i64 i)→
  ∃e',Bg (Bp (ev R) R.glob n0 Bg Yv) [0,1,7,8] ⟨e,H⟩=some ((match Fy (Lc xs x) n i with|some _=> .ret|none=> .exit 0),⟨e',H⟩)∧(∀j,Fy (Lc xs x) n i=some j→e'.get 4= .d (.int .i64 j))
 |0,i,e,h1,g0,g1,g7,g8=>by
  have c: ¬ (i:Int)< (xs.length:Int):=by omega
  have c': ¬i<xs.length:=by omega
  rw[Bt]
  simp only[Fy]
  refine⟨?_, ?_, ?_⟩
  rotate_left
  ·simp[Cm,-List.getD_eq_getElem?_getD,-List.map_map,Yv,g0,g1,g7,g8,Dj,c,c']
   try rfl
  ·intro j h;simp at h
 |n+1,i,e,h1,g0,g1,g7,g8=>by
  have c: (i:Int)< (xs.length:Int):=by omega
  have c':i<xs.length:=by omega
  have ga:=Qj xs i c'
  have p:=Bb (cl:=ev R) fun H=>B2r H (xs.getD i ([],0)).1 x (xs.getD i ([],0)).2
  have hp:Lc xs x i=decide ((xs.getD i ([],0)).1=x):=rfl
  have w1:IntKind.i64.wrap ((i:Int)+1)=((i+1:Nat):Int):=by rw[IntWalk.i64_in _ (by omega)];rfl
  have ih:=Bzb n0 xs hx x H n (i+1)
  simp only[Fy]
  rw[hp]
  generalize(xs.getD i ([],0))=y at*
  rw[Bt]
  generalize Bg (Bp (ev R) R.glob n0 Bg Yv) [0,1,7,8]=F at ih⊢
  by_cases hb:y.1=x
  ·simp only[hb,decide_true,if_true] at p⊢
   refine⟨?_, ?_, ?_⟩
   rotate_left
   ·simp[Cm,-List.getD_eq_getElem?_getD,-List.map_map,Yv,g0,g1,g7,g8,Dj,c,c',ga,hb,p]
    try rfl
   ·intro j hj
    simp only[Option.some.injEq] at hj
    subst hj
    simp[Cm,-List.getD_eq_getElem?_getD,-List.map_map]
  ·simp only[hb,decide_false,Bool.false_eq_true,if_false] at p⊢
   generalize Fy (Lc xs x) n (i+1)=S at*
   simp[Cm,-List.getD_eq_getElem?_getD,-List.map_map,Yv,g0,g1,g7,g8,Dj,c,c',ga,hb,p,w1]
   refine ih _ (by omega) ?_ ?_ ?_ ?_<;> (first|rfl|exact g7)
def Bly (xs:List Sc) (x:Bq):Int:=match Fy (Lc xs x) xs.length 0 with|some j=>j|none=> -1
theorem B2q (H:Hp) (xs:List Sc) (hx:xs.length≤9223372036854775807) (x:Bq):ev R 233 [.d (Dj xs), .d (.fn (.func 234) [.rptr [.str x]])] H=some (.d (.int .i64 (Bly xs x)),H):=by
 refine Bh (fn:=f233) rfl rfl ?_
 obtain⟨e',he,h4⟩:=Bzb (Be H) xs hx x H xs.length 0 [(0, .d (Dj xs)),(1, .d (.fn (.func 234) [.rptr [.str x]])),(7, .d (.int .i64 xs.length)),(8, .d (.int .i64 0))] (by omega) rfl rfl rfl rfl
 unfold Bly
 simp only[Dj] at he
 cases hr:Fy (Lc xs x) xs.length 0 with
 |some j=>
  have h4:=h4 j hr
  simp only[hr] at he
  simp[Cm,-List.getD_eq_getElem?_getD,-List.map_map,f233,Dj,he,h4]
 |none=>
  simp only[hr] at he
  simp[Cm,-List.getD_eq_getElem?_getD,-List.map_map,f233,Dj,he]
theorem B2j (H:Hp) (xs:List Sc) (hx:xs.length≤9223372036854775807) (x:Bq):ev R 176 [.d (Dj xs), .d (.str x)] H=some (.d (.int .i64 (Bly xs x)),H):=by
 refine Bh (fn:=f176) rfl rfl ?_
 have p:=Bb (cl:=ev R) fun H=>B2q H xs hx x
 have uno: ∀a:D,[a].getD 0 .nilp=a:=fun _=>rfl
 simp only[Dj] at p
 simp[Cm,-List.getD_eq_getElem?_getD,-List.map_map,f176,Dj,uno,p]
theorem Bns (xs:List Sc) (i:Nat) (hi:i<xs.length):decide (¬Bly xs (xs.getD i ([],0)).1=(i:Int))=Fp (Lc xs (xs.getD i ([],0)).1) i 0:=by
 have anyT: ∀ (p:Nat→Bool) (n k:Nat),Fp p n k=true↔∃j,k≤j∧j<k+n∧p j=true:=by
  intro p n
  induction n with
  |zero=>intro k;simp[Fp];intro j h1 h2;omega
  |succ n ih=>
   intro k
   simp only[Fp,Bool.or_eq_true,ih (k+1)]
   constructor
   ·rintro(h| ⟨j,h1,h2,h3⟩)
    ·exact⟨k,Nat.le_refl _,by omega,h⟩
    ·exact⟨j,by omega,by omega,h3⟩
   ·rintro⟨j,h1,h2,h3⟩
    by_cases e:j=k
    ·subst e;exact .inl h3
    ·exact .inr ⟨j,by omega,by omega,h3⟩
 have self:Lc xs (xs.getD i ([],0)).1 i=true:=by simp[Lc]
 generalize(xs.getD i ([],0)).1=x at*
 unfold Bly
 cases hr:Fy (Lc xs x) xs.length 0 with
 |none=>
  have:=Ur hr i (by omega) (by omega)
  rw[self] at this;simp at this
 |some j=>
  obtain⟨h1,h2,h3,h4⟩:=Ri hr
  have hji:j≤i:=by
   refine Nat.le_of_not_lt fun h=> ?_
   have:=h4 i (by omega) h
   rw[self] at this;simp at this
  simp only
  cases hb:Fp (Lc xs x) i 0 with
  |true=>
   obtain⟨k,k1,k2,k3⟩:=(anyT _ _ _).1 hb
   have hk: ¬k<j:=fun h=>by
    have:=h4 k (by omega) h
    rw[k3] at this;simp at this
   simp;omega
  |false=>
   have: ¬j<i:=fun h=>by
    have:=(anyT (Lc xs x) i 0).2 ⟨j,by omega,by omega,h3⟩
    rw[hb] at this;simp at this
   simp;omega
theorem Bpe (xs:List Sc) (hx:xs.length≤1000000):Bc (ev R) 29 [.d (Dj xs), .d (Dj xs)]=some (.d (.bool true)):=Bb fun H=>by
 refine Bh (fn:=f29) rfl rfl ?_
 obtain⟨o,e',X',he,rfl,rfl⟩:=(Di (F:=Bp (ev R) R.glob (Be H) Bg Bm6) (lv:=[0,1,5]) xs.length
  (fun i e X=>X=H∧e.get 0= .d (Dj xs)∧e.get 1= .d (Dj xs)∧e.get 5= .d (.int .i64 i))
  (fun o e X=>o= .exit 0∧X=H)
  (by
   rintro e X ⟨rfl,g0,g1,g5⟩
   simp(maxSteps:=1000000) [Ca,-List.getD_eq_getElem?_getD,-List.map_map,Bm6,g0,g1,g5])
  (by
   rintro i e X hi ⟨rfl,g0,g1,g5⟩
   have c: (i:Int)< (xs.length:Int):=by omega
   have c0: (0:Int)≤(i:Int):=by omega
   have g:=Qj xs i hi
   have w1:IntKind.i64.wrap ((i:Int)+1)=((i+1:Nat):Int):=by rw[IntWalk.i64_in _ (by omega)];rfl
   generalize xs.getD i ([],0)=x at*
   obtain⟨t,n⟩:=x
   simp[evA,-List.getD_eq_getElem?_getD,-List.map_map,Bm6,g0,g1,g5,c,c0,g,hi,w1,Jv,Bcx,Ye,Wh])
  xs.length 0 [(0, .d (Dj xs)),(1, .d (Dj xs)),(5, .d (.int .i64 0))] H (by omega) ⟨rfl,rfl,rfl,rfl⟩).out
 simp(maxSteps:=1000000) [Ca,-List.getD_eq_getElem?_getD,-List.map_map,f29,he]
theorem Bpf (xs:List Pr) (hx:xs.length≤1000000):Bc (ev R) 30 [.d (Fw xs), .d (Fw xs)]=some (.d (.bool true)):=Bb fun H=>by
 refine Bh (fn:=f30) rfl rfl ?_
 obtain⟨o,e',X',he,rfl,rfl⟩:=(Di (F:=Bp (ev R) R.glob (Be H) Bg Bm7) (lv:=[0,1,5]) xs.length
  (fun i e X=>X=H∧e.get 0= .d (Fw xs)∧e.get 1= .d (Fw xs)∧e.get 5= .d (.int .i64 i))
  (fun o e X=>o= .exit 0∧X=H)
  (by
   rintro e X ⟨rfl,g0,g1,g5⟩
   simp(maxSteps:=1000000) [Ca,-List.getD_eq_getElem?_getD,-List.map_map,Bm7,g0,g1,g5])
  (by
   rintro i e X hi ⟨rfl,g0,g1,g5⟩
   have c: (i:Int)< (xs.length:Int):=by omega
   have c0: (0:Int)≤(i:Int):=by omega
   have g:=Xw xs i hi
   have w1:IntKind.i64.wrap ((i:Int)+1)=((i+1:Nat):Int):=by rw[IntWalk.i64_in _ (by omega)];rfl
   generalize xs.getD i ([],[])=x at*
   obtain⟨t,n⟩:=x
   simp[evA,-List.getD_eq_getElem?_getD,-List.map_map,Bm7,g0,g1,g5,c,c0,g,hi,w1,Jv,Bcx,Ye,Wh])
  xs.length 0 [(0, .d (Fw xs)),(1, .d (Fw xs)),(5, .d (.int .i64 0))] H (by omega) ⟨rfl,rfl,rfl,rfl⟩).out
 simp(maxSteps:=1000000) [Ca,-List.getD_eq_getElem?_getD,-List.map_map,f30,he]
theorem Bo6 (e:En) (h1:e.list.length≤1000000) (h2:e.scores.length≤1000000) (h3:e.fields.length≤1000000):Bc (ev R) 10 [.d (F3 e), .d (F3 e)]=some (.d (.bool true)):=Bb fun H=>by
 refine Bh (fn:=f10) rfl rfl ?_
 have p1:=Bpd e.list (by omega)
 have p2:=Bpe e.scores h2
 have p3:=Bpf e.fields h3
 simp[Ch,-List.getD_eq_getElem?_getD,-List.map_map,f10,p1,p2,p3]
end Go.Proofs.YtpajcoanfkeibaaGreatDoor.Code

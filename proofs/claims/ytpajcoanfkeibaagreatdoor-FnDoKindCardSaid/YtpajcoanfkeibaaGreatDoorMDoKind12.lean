/- Lemmas (several texts in one). -/
import Derived.Test.YtpajcoanfkeibaaGreatDoorMDoKind5
import Derived.Test.YtpajcoanfkeibaaGreatDoorMDoKind6
import Derived.Test.YtpajcoanfkeibaaGreatDoorMDoKind11
set_option maxRecDepth 100000
set_option linter.unusedSimpArgs false
set_option linter.unusedVariables false
set_option maxHeartbeats 2000000
open List renaming getD_eq_getElem?_getD → Cda, map_map → Cdb
namespace Go.Proofs.YtpajcoanfkeibaaGreatDoor.Code
open Go Go.Ev Go.Proofs
section
variable (H:Hp) (a b c d:Ev.Obj)
theorem Bfw:Cc (Bp (Bp H a) b) (Bc H)=some a:=by rw[Da _ (by rw[Cf];omega),Co]
theorem Bfx:Cc (Bp (Bp H a) b) (Bc H+1)=some b:=by rw[←Cf H a,Co]
end
theorem M3 (xs:List Sc) (i:Nat) (hi:i<xs.length): (xs.map Kh).getD i .nilp=Kh (xs.getD i ([],0)):=by
 simp[Cda,hi]
theorem Xz (xs:List Pr) (i:Nat) (hi:i<xs.length): (xs.map Kz).getD i .nilp=Kz (xs.getD i ([],[])):=by
 simp[Cda,hi]
structure Small (e:En):Prop where
 list:e.list.length≤1048576
 scores:e.scores.length≤1048576
 fields:e.fields.length≤1048576
theorem Bsa (H:Hp) (xs:List Br) (hx:xs.length≤1000000):ev R 73 [.d (Bf xs)] H=some (.slc (Bc H) 0 0 xs.length,ap H [.row 0 1 ((xs.map D.str).map V.d)]):=by
 refine Bh (fn:=f73) rfl rfl ?_
 have r:xs.length*16≤Ct:=by unfold Ct;omega
 simp[Cg,-Cda,-Cdb,f73,Bf,r,U7]
theorem Bdm (xs:List Br) (hx:xs.length≤1000000):F9 (ev R) 73 [.d (Bf xs)]=some (.d (Bf xs)):=by
 refine Jh fun H=> ⟨_,_,Bsa H xs hx, ?_,Ll H _⟩
 simp[Cg,-Cda,-Cdb,Bf]
theorem Uy (xs:List Br) (hx:xs.length≤1000000):Be (ev R) 73 [.d (Bf xs)]=none:=by
 cases h:Be (ev R) 73 [.d (Bf xs)] with
 |none=>rfl
 |some v=>
  have h1:=Dr h []
  rw[Bsa [] xs hx] at h1
  simp[ap] at h1
theorem Bu (s:Br):Be (ev R) 164 [.d (.str s)]=some (.d (Qy (.mk 1 0 s [] []))):=Bb fun H=>by
 refine Bh (fn:=f164) rfl rfl ?_
 simp[Cg,-Cda,-Cdb,f164,Bf]
theorem Jf (n:Int):Be (ev R) 201 [.d (.int .i64 n)]=some (.d (Qy (.mk 2 n [] [] []))):=Bb fun H=>by
 refine Bh (fn:=f201) rfl rfl ?_
 simp[Cg,-Cda,-Cdb,f201,Bf]
theorem Ben (s:Br):Be (ev R) 200 [.d (.str s)]=some (.d (Qy (.mk 3 0 s [] []))):=Bb fun H=>by
 refine Bh (fn:=f200) rfl rfl ?_
 simp[Cg,-Cda,-Cdb,f200,Bf]
theorem Gh:Be (ev R) 199 []=some (.d (Qy (.mk 4 0 [] [] []))):=Bb fun H=>by
 refine Bh (fn:=f199) rfl rfl ?_
 simp[Cg,-Cda,-Cdb,f199,Bf]
theorem Xx (xs:List Br):Be (ev R) 211 [.d (Bf xs)]=some (.d (Qy (.mk 5 0 [] xs []))):=Bb fun H=>by
 refine Bh (fn:=f211) rfl rfl ?_
 simp[Cg,-Cda,-Cdb,f211,Bf]
def G5 (b:Bool):Re:= .mk 2 (if b then 1 else 0) [] [] []
theorem Beo (b:Bool):Be (ev R) 214 [.d (.bool b)]=some (.d (Qy (G5 b))):=Bb fun H=>by
 refine Bh (fn:=f214) rfl rfl ?_
 have a:=Jf 1
 have c:=Jf 0
 cases b<;>simp[Cg,-Cda,-Cdb,f214,a,c,G5]
theorem Bep (n:Int):Be (ev R) 255 [.d (.int .i64 n)]=some (.d (.bool (decide (-1000000000≤n) &&decide (n≤1000000000)))):=Bb fun H=>by
 refine Bh (fn:=f255) rfl rfl ?_
 have p:=Bb (cl:=ev R) fun H=>B3c H n (-1000000000) 1000000000
 simp[Cg,-Cda,-Cdb,f255,p]
def J2 (n f t:Int):Int×Int:=
 let f:=if f<0 then f+n else f
 let t:=if t<0 then t+n else t
 let f:=if f<0 then 0 else f
 let t:=if n≤t then n - 1 else t
 if t<f then(0,0) else(f,t+1)
theorem Bs6 (n f t:Int) (hn:0≤n∧n≤1000000) (hf: -1000000000≤f∧f≤1000000000) (ht: -1000000000≤t∧t≤1000000000):
  Be (ev R) 204 [.d (.int .i64 n), .d (.int .i64 f), .d (.int .i64 t)]=some (.tup [.d (.int .i64 (J2 n f t).1), .d (.int .i64 (J2 n f t).2)]):=Bb fun H=>by
 refine Bh (fn:=f204) rfl rfl ?_
 have w1:IntKind.i64.wrap (f+n)=f+n:=IntWalk.i64_in _ (by omega)
 have w2:IntKind.i64.wrap (t+n)=t+n:=IntWalk.i64_in _ (by omega)
 have w3:IntKind.i64.wrap (n - 1)=n - 1:=IntWalk.i64_in _ (by omega)
 have w4:IntKind.i64.wrap (t+1)=t+1:=IntWalk.i64_in _ (by omega)
 have w5:IntKind.i64.wrap (t+n+1)=t+n+1:=IntWalk.i64_in _ (by omega)
 have w6:IntKind.i64.wrap n=n:=IntWalk.i64_in _ (by omega)
 unfold J2
 by_cases a:f<0<;>by_cases b:t<0
 ·by_cases c:f+n<0<;>by_cases d:n≤t+n
  ·by_cases k:n - 1<0<;>first| (exfalso;omega) | (simp[Cg,-Cda,-Cdb,f204,a,b,c,d,k,w1,w2,w3,w4,w5,w6])
  ·by_cases k:t+n<0<;>first| (exfalso;omega) | (simp[Cg,-Cda,-Cdb,f204,a,b,c,d,k,w1,w2,w3,w4,w5,w6])
  ·by_cases k:n - 1<f+n<;>first| (exfalso;omega) | (simp[Cg,-Cda,-Cdb,f204,a,b,c,d,k,w1,w2,w3,w4,w5,w6])
  ·by_cases k:t+n<f+n<;>first| (exfalso;omega) | (simp[Cg,-Cda,-Cdb,f204,a,b,c,d,k,w1,w2,w3,w4,w5,w6])
 ·by_cases c:f+n<0<;>by_cases d:n≤t
  ·by_cases k:n - 1<0<;>first| (exfalso;omega) | (simp[Cg,-Cda,-Cdb,f204,a,b,c,d,k,w1,w2,w3,w4,w5,w6])
  ·by_cases k:t<0<;>first| (exfalso;omega) | (simp[Cg,-Cda,-Cdb,f204,a,b,c,d,k,w1,w2,w3,w4,w5,w6])
  ·by_cases k:n - 1<f+n<;>first| (exfalso;omega) | (simp[Cg,-Cda,-Cdb,f204,a,b,c,d,k,w1,w2,w3,w4,w5,w6])
  ·by_cases k:t<f+n<;>first| (exfalso;omega) | (simp[Cg,-Cda,-Cdb,f204,a,b,c,d,k,w1,w2,w3,w4,w5,w6])
 ·by_cases c:f<0<;>by_cases d:n≤t+n
  ·by_cases k:n - 1<0<;>first| (exfalso;omega) | (simp[Cg,-Cda,-Cdb,f204,a,b,c,d,k,w1,w2,w3,w4,w5,w6])
  ·by_cases k:t+n<0<;>first| (exfalso;omega) | (simp[Cg,-Cda,-Cdb,f204,a,b,c,d,k,w1,w2,w3,w4,w5,w6])
  ·by_cases k:n - 1<f<;>first| (exfalso;omega) | (simp[Cg,-Cda,-Cdb,f204,a,b,c,d,k,w1,w2,w3,w4,w5,w6])
  ·by_cases k:t+n<f<;>first| (exfalso;omega) | (simp[Cg,-Cda,-Cdb,f204,a,b,c,d,k,w1,w2,w3,w4,w5,w6])
 ·by_cases c:f<0<;>by_cases d:n≤t
  ·by_cases k:n - 1<0<;>first| (exfalso;omega) | (simp[Cg,-Cda,-Cdb,f204,a,b,c,d,k,w1,w2,w3,w4,w5,w6])
  ·by_cases k:t<0<;>first| (exfalso;omega) | (simp[Cg,-Cda,-Cdb,f204,a,b,c,d,k,w1,w2,w3,w4,w5,w6])
  ·by_cases k:n - 1<f<;>first| (exfalso;omega) | (simp[Cg,-Cda,-Cdb,f204,a,b,c,d,k,w1,w2,w3,w4,w5,w6])
  ·by_cases k:t<f<;>first| (exfalso;omega) | (simp[Cg,-Cda,-Cdb,f204,a,b,c,d,k,w1,w2,w3,w4,w5,w6])
theorem Bzs (H:Hp) (n:Int):ev R 261 [.d (.int .i64 n)] H=some (.d (.bool false),H):=by
 refine Bh (fn:=f261) rfl rfl ?_
 simp[Cm,-Cda,-Cdb,f261]
theorem Bzt (H:Hp) (s:Br):ev R 262 [.d (.str s)] H=some (.d (.bool false),H):=by
 refine Bh (fn:=f262) rfl rfl ?_
 simp[Cm,-Cda,-Cdb,f262]
def Bg6 (a b:Int):Int:=if a<b then -1 else if b<a then 1 else 0
def Bg7 (x y:Br):Int:=if Op.bytesLess x y=true then -1 else if(!(Op.bytesLess x y||decide (x=y)))=true then 1 else 0
theorem B24 (H:Hp) (a b:Int):ev R 231 [.d (.int .i64 a), .d (.int .i64 b)] H=some (.d (.int .i64 (Bg6 a b)),H):=by
 refine Bh (fn:=f231) rfl rfl ?_
 have p1:=Bb (cl:=ev R) fun H=>Bzs H a
 have p2:=Bb (cl:=ev R) fun H=>Bzs H b
 unfold Bg6
 by_cases c1:a<b
 ·simp[Cm,-Cda,-Cdb,f231,p1,p2,c1]
 ·by_cases c2:b<a
  ·simp[Cm,-Cda,-Cdb,f231,p1,p2,c1,c2]
  ·simp[Cm,-Cda,-Cdb,f231,p1,p2,c1,c2]
theorem B25 (H:Hp) (x y:Br):ev R 232 [.d (.str x), .d (.str y)] H=some (.d (.int .i64 (Bg7 x y)),H):=by
 refine Bh (fn:=f232) rfl rfl ?_
 have p1:=Bb (cl:=ev R) fun H=>Bzt H x
 have p2:=Bb (cl:=ev R) fun H=>Bzt H y
 unfold Bg7
 cases c1:Op.bytesLess x y with
 |true=>simp[Cm,-Cda,-Cdb,f232,p1,p2,c1]
 |false=>
  by_cases c2:x=y
  ·subst c2
   simp[Cm,-Cda,-Cdb,f232,p1,c1]
  ·simp[Cm,-Cda,-Cdb,f232,p1,p2,c1,c2]
def orV (a b:Int):Int:=if a=0 then b else a
theorem Bou (a b:D): [a,b].getD 0 .nilp=a:=rfl
theorem Bov (a b:D): [a,b].getD 1 .nilp=b:=rfl
theorem B23 (H:Hp) (a b:Int):ev R 230 [.d (.vals 1 [.int .i64 a, .int .i64 b])] H=some (.d (.int .i64 (orV a b)),H):=by
 refine Bh (fn:=f230) rfl rfl ?_
 have w1:IntKind.i64.wrap (0+1)=1:=rfl
 have w2:IntKind.i64.wrap (1+1)=2:=rfl
 have w1':IntKind.i64.wrap 1=1:=rfl
 have w2':IntKind.i64.wrap 2=2:=rfl
 unfold orV
 by_cases c1:a=0
 ·subst c1
  by_cases c2:b=0
  ·subst c2
   have L: ∃e',Bg (Bq (ev R) R.glob (Bc H) Bg Qh) [3,6,7,8] ⟨[(3, .d (.int .i64 0)),(6, .d (.vals 1 [.int .i64 0, .int .i64 0])),(7, .d (.int .i64 2)),(8, .d (.int .i64 0))],H⟩=some (.exit 0,⟨e',H⟩)∧e'.get 3= .d (.int .i64 0):=by
    rw[Bv]
    simp[Cm,-Cda,-Cdb,Qh,Bou,Bov,w1,w2,w1',w2']
    rw[Bv]
    simp[Cm,-Cda,-Cdb,Qh,Bou,Bov,w1,w2,w1',w2']
    rw[Bv]
    refine⟨?_, ?_, ?_⟩
    rotate_left
    ·simp[Cm,-Cda,-Cdb,Qh,Bou,Bov,w1,w2,w1',w2']
     try rfl
    ·simp[Cm,-Cda,-Cdb]
   obtain⟨e',he,h3⟩:=L
   simp[Cm,-Cda,-Cdb,f230,he,h3]
  ·have L: ∃e',Bg (Bq (ev R) R.glob (Bc H) Bg Qh) [3,6,7,8] ⟨[(3, .d (.int .i64 0)),(6, .d (.vals 1 [.int .i64 0, .int .i64 b])),(7, .d (.int .i64 2)),(8, .d (.int .i64 0))],H⟩=some (.ret,⟨e',H⟩)∧e'.get 2= .d (.int .i64 b):=by
    rw[Bv]
    simp[Cm,-Cda,-Cdb,Qh,Bou,Bov,w1,w2,w1',w2',c2]
    rw[Bv]
    refine⟨?_, ?_, ?_⟩
    rotate_left
    ·simp[Cm,-Cda,-Cdb,Qh,Bou,Bov,w1,w2,w1',w2',c2]
     try rfl
    ·simp[Cm,-Cda,-Cdb]
   obtain⟨e',he,h3⟩:=L
   simp[Cm,-Cda,-Cdb,f230,he,h3,c2]
 ·have L: ∃e',Bg (Bq (ev R) R.glob (Bc H) Bg Qh) [3,6,7,8] ⟨[(3, .d (.int .i64 0)),(6, .d (.vals 1 [.int .i64 a, .int .i64 b])),(7, .d (.int .i64 2)),(8, .d (.int .i64 0))],H⟩=some (.ret,⟨e',H⟩)∧e'.get 2= .d (.int .i64 a):=by
   rw[Bv]
   refine⟨?_, ?_, ?_⟩
   rotate_left
   ·simp[Cm,-Cda,-Cdb,Qh,Bou,Bov,w1,w2,w1',w2',c1]
    try rfl
   ·simp[Cm,-Cda,-Cdb]
  obtain⟨e',he,h3⟩:=L
  simp[Cm,-Cda,-Cdb,f230,he,h3,c1]
theorem Bod (H:Hp) (a b:Ev.Obj):Cx (Bp (Bp H a) b) (Bc H)=H:=by simp[Cx,Bp,Bc]
theorem B2z (H:Hp) (x y:Br) (a b:Int):ev R 175 [.d (.agg [.str x, .int .i64 a]), .d (.agg [.str y, .int .i64 b])] H=some (.d (.int .i64 (orV (Bg6 a b) (Bg7 x y))),H):=by
 refine Bh (fn:=f175) rfl rfl ?_
 have p1:=Bb (cl:=ev R) fun H=>B24 H a b
 have p2:=Bb (cl:=ev R) fun H=>B25 H x y
 have p3:=Bb (cl:=ev R) fun H=>B23 H (Bg6 a b) (Bg7 x y)
 simp[Cm,-Cda,-Cdb,f175,Cf,Dq,C8,Bfw,Bfx,p1,p2,p3,Bod]
def Lj (x y:Br) (a b:Int):Bool:=decide (a<b) || (decide (a=b) &&Op.bytesLess x y)
theorem Br8 (H:Hp) (x y:Br) (a b:Int):ev R 159 [.d (.agg [.str x, .int .i64 a]), .d (.agg [.str y, .int .i64 b])] H=some (.d (.bool (Lj x y a b)),H):=by
 refine Bh (fn:=f159) rfl rfl ?_
 unfold Lj
 by_cases c1:a<b
 ·simp[Cm,-Cda,-Cdb,f159,Cf,Dq,C8,Bfw,Bfx,c1,Bod]
 ·by_cases c2:a=b
  ·simp[Cm,-Cda,-Cdb,f159,Cf,Dq,C8,Bfw,Bfx,c1,c2,Bod]
  ·simp[Cm,-Cda,-Cdb,f159,Cf,Dq,C8,Bfw,Bfx,c1,c2,Bod]
theorem Bh8 (x y:Br) (a b:Int):decide (orV (Bg6 a b) (Bg7 x y)≥0)= !Lj x y a b:=by
 unfold orV Bg6 Bg7 Lj
 by_cases c1:a<b
 ·simp[c1]
 ·by_cases c2:b<a
  ·have: ¬a=b:=by omega
   simp[c1,c2,this]
  ·have:a=b:=by omega
   cases h:Op.bytesLess x y with
   |true=>simp[c1,c2,this]
   |false=>
    by_cases c3:x=y
    ·simp[c1,c2,this,c3]
    ·simp[c1,c2,this,c3]
theorem B27 (H:Hp) (t x:Br) (n:Int):ev R 234 [.d (.agg [.str t, .int .i64 n]), .d (.rptr [.str x])] H=some (.d (.bool (decide (t=x))),H):=by
 refine Bh (fn:=f234) rfl rfl ?_
 have ld:Dq (Bp H (.row 0 2 [.d (.agg [.str t, .int .i64 n])])) (Bc H) 0 0 0 1=some [.d (.str t)]:=by simp[Dq,Cy,V.cells,D.cells]
 simp[Cm,-Cda,-Cdb,f234,ld]
def K3 (xs:List Sc) (x:Br) (i:Nat):Bool:=decide ((xs.getD i ([],0)).1=x)
theorem Bz0 (n0:Nat) (xs:List Sc) (hx:xs.length≤9223372036854775807) (x:Br) (H:Hp): ∀ (n i:Nat) (e:Env),i+n=xs.length→e.get 0= .d (De xs)→e.get 1= .d (.fn (.func 234) [.rptr [.str x]])→e.get 7= .d (.int .i64 xs.length)→e.get 8= .d (.int .i64 i)→
  ∃e',Bg (Bq (ev R) R.glob n0 Bg Yw) [0,1,7,8] ⟨e,H⟩=some ((match Fv (K3 xs x) n i with|some _=> .ret|none=> .exit 0),⟨e',H⟩)∧(∀j,Fv (K3 xs x) n i=some j→e'.get 4= .d (.int .i64 j))
 |0,i,e,h1,g0,g1,g7,g8=>by
  have c: ¬ (i:Int)< (xs.length:Int):=by omega
  have c': ¬i<xs.length:=by omega
  rw[Bv]
  simp only[Fv]
  refine⟨?_, ?_, ?_⟩
  rotate_left
  ·simp[Cm,-Cda,-Cdb,Yw,g0,g1,g7,g8,De,c,c']
   try rfl
  ·intro j h;simp at h
 |n+1,i,e,h1,g0,g1,g7,g8=>by
  have c: (i:Int)< (xs.length:Int):=by omega
  have c':i<xs.length:=by omega
  have ga:=P7 xs i c'
  have p:=Bb (cl:=ev R) fun H=>B27 H (xs.getD i ([],0)).1 x (xs.getD i ([],0)).2
  have hp:K3 xs x i=decide ((xs.getD i ([],0)).1=x):=rfl
  have w1:IntKind.i64.wrap ((i:Int)+1)=((i+1:Nat):Int):=by rw[IntWalk.i64_in _ (by omega)];rfl
  have ih:=Bz0 n0 xs hx x H n (i+1)
  simp only[Fv]
  rw[hp]
  generalize(xs.getD i ([],0))=y at*
  rw[Bv]
  generalize Bg (Bq (ev R) R.glob n0 Bg Yw) [0,1,7,8]=F at ih⊢
  by_cases hb:y.1=x
  ·simp only[hb,decide_true,if_true] at p⊢
   refine⟨?_, ?_, ?_⟩
   rotate_left
   ·simp[Cm,-Cda,-Cdb,Yw,g0,g1,g7,g8,De,c,c',ga,hb,p]
    try rfl
   ·intro j hj
    simp only[Option.some.injEq] at hj
    subst hj
    simp[Cm,-Cda,-Cdb]
  ·simp only[hb,decide_false,Bool.false_eq_true,if_false] at p⊢
   generalize Fv (K3 xs x) n (i+1)=S at*
   simp[Cm,-Cda,-Cdb,Yw,g0,g1,g7,g8,De,c,c',ga,hb,p,w1]
   refine ih _ (by omega) ?_ ?_ ?_ ?_<;> (first|rfl|exact g7)
def Bl5 (xs:List Sc) (x:Br):Int:=match Fv (K3 xs x) xs.length 0 with|some j=>j|none=> -1
theorem B26 (H:Hp) (xs:List Sc) (hx:xs.length≤9223372036854775807) (x:Br):ev R 233 [.d (De xs), .d (.fn (.func 234) [.rptr [.str x]])] H=some (.d (.int .i64 (Bl5 xs x)),H):=by
 refine Bh (fn:=f233) rfl rfl ?_
 obtain⟨e',he,h4⟩:=Bz0 (Bc H) xs hx x H xs.length 0 [(0, .d (De xs)),(1, .d (.fn (.func 234) [.rptr [.str x]])),(7, .d (.int .i64 xs.length)),(8, .d (.int .i64 0))] (by omega) rfl rfl rfl rfl
 unfold Bl5
 simp only[De] at he
 cases hr:Fv (K3 xs x) xs.length 0 with
 |some j=>
  have h4:=h4 j hr
  simp only[hr] at he
  simp[Cm,-Cda,-Cdb,f233,De,he,h4]
 |none=>
  simp only[hr] at he
  simp[Cm,-Cda,-Cdb,f233,De,he]
theorem B20 (H:Hp) (xs:List Sc) (hx:xs.length≤9223372036854775807) (x:Br):ev R 176 [.d (De xs), .d (.str x)] H=some (.d (.int .i64 (Bl5 xs x)),H):=by
 refine Bh (fn:=f176) rfl rfl ?_
 have p:=Bb (cl:=ev R) fun H=>B26 H xs hx x
 have uno: ∀a:D,[a].getD 0 .nilp=a:=fun _=>rfl
 simp only[De] at p
 simp[Cm,-Cda,-Cdb,f176,De,uno,p]
theorem Bn0 (xs:List Sc) (i:Nat) (hi:i<xs.length):decide (¬Bl5 xs (xs.getD i ([],0)).1=(i:Int))=D9 (K3 xs (xs.getD i ([],0)).1) i 0:=by
 have anyT: ∀ (p:Nat→Bool) (n k:Nat),D9 p n k=true↔∃j,k≤j∧j<k+n∧p j=true:=by
  intro p n
  induction n with
  |zero=>intro k;simp[D9];intro j h1 h2;omega
  |succ n ih=>
   intro k
   simp only[D9,Bool.or_eq_true,ih (k+1)]
   constructor
   ·rintro(h| ⟨j,h1,h2,h3⟩)
    ·exact⟨k,Nat.le_refl _,by omega,h⟩
    ·exact⟨j,by omega,by omega,h3⟩
   ·rintro⟨j,h1,h2,h3⟩
    by_cases e:j=k
    ·subst e;exact .inl h3
    ·exact .inr ⟨j,by omega,by omega,h3⟩
 have self:K3 xs (xs.getD i ([],0)).1 i=true:=by simp[K3]
 generalize(xs.getD i ([],0)).1=x at*
 unfold Bl5
 cases hr:Fv (K3 xs x) xs.length 0 with
 |none=>
  have:=Um hr i (by omega) (by omega)
  rw[self] at this;simp at this
 |some j=>
  obtain⟨h1,h2,h3,h4⟩:=Q3 hr
  have hji:j≤i:=by
   refine Nat.le_of_not_lt fun h=> ?_
   have:=h4 i (by omega) h
   rw[self] at this;simp at this
  simp only
  cases hb:D9 (K3 xs x) i 0 with
  |true=>
   obtain⟨k,k1,k2,k3⟩:=(anyT _ _ _).1 hb
   have hk: ¬k<j:=fun h=>by
    have:=h4 k (by omega) h
    rw[k3] at this;simp at this
   simp;omega
  |false=>
   have: ¬j<i:=fun h=>by
    have:=(anyT (K3 xs x) i 0).2 ⟨j,by omega,by omega,h3⟩
    rw[hb] at this;simp at this
   simp;omega
theorem Bpp (xs:List Sc) (hx:xs.length≤1000000):Be (ev R) 29 [.d (De xs), .d (De xs)]=some (.d (.bool true)):=Bb fun H=>by
 refine Bh (fn:=f29) rfl rfl ?_
 obtain⟨o,e',X',he,rfl,rfl⟩:=(C9 (F:=Bq (ev R) R.glob (Bc H) Bg Bnc) (lv:=[0,1,5]) xs.length
  (fun i e X=>X=H∧e.get 0= .d (De xs)∧e.get 1= .d (De xs)∧e.get 5= .d (.int .i64 i))
  (fun o e X=>o= .exit 0∧X=H)
  (by
   rintro e X ⟨rfl,g0,g1,g5⟩
   simp(maxSteps:=1000000) [Ci,-Cda,-Cdb,Bnc,g0,g1,g5])
  (by
   rintro i e X hi ⟨rfl,g0,g1,g5⟩
   have c: (i:Int)< (xs.length:Int):=by omega
   have c0: (0:Int)≤(i:Int):=by omega
   have g:=P7 xs i hi
   have w1:IntKind.i64.wrap ((i:Int)+1)=((i+1:Nat):Int):=by rw[IntWalk.i64_in _ (by omega)];rfl
   generalize xs.getD i ([],0)=x at*
   obtain⟨t,n⟩:=x
   simp[evA,-Cda,-Cdb,Bnc,g0,g1,g5,c,c0,g,hi,w1,Jj,Bc0,Yh,Wd])
  xs.length 0 [(0, .d (De xs)),(1, .d (De xs)),(5, .d (.int .i64 0))] H (by omega) ⟨rfl,rfl,rfl,rfl⟩).out
 simp(maxSteps:=1000000) [Ci,-Cda,-Cdb,f29,he]
theorem Bpq (xs:List Pr) (hx:xs.length≤1000000):Be (ev R) 30 [.d (D7 xs), .d (D7 xs)]=some (.d (.bool true)):=Bb fun H=>by
 refine Bh (fn:=f30) rfl rfl ?_
 obtain⟨o,e',X',he,rfl,rfl⟩:=(C9 (F:=Bq (ev R) R.glob (Bc H) Bg Bnd) (lv:=[0,1,5]) xs.length
  (fun i e X=>X=H∧e.get 0= .d (D7 xs)∧e.get 1= .d (D7 xs)∧e.get 5= .d (.int .i64 i))
  (fun o e X=>o= .exit 0∧X=H)
  (by
   rintro e X ⟨rfl,g0,g1,g5⟩
   simp(maxSteps:=1000000) [Ci,-Cda,-Cdb,Bnd,g0,g1,g5])
  (by
   rintro i e X hi ⟨rfl,g0,g1,g5⟩
   have c: (i:Int)< (xs.length:Int):=by omega
   have c0: (0:Int)≤(i:Int):=by omega
   have g:=Xy xs i hi
   have w1:IntKind.i64.wrap ((i:Int)+1)=((i+1:Nat):Int):=by rw[IntWalk.i64_in _ (by omega)];rfl
   generalize xs.getD i ([],[])=x at*
   obtain⟨t,n⟩:=x
   simp[evA,-Cda,-Cdb,Bnd,g0,g1,g5,c,c0,g,hi,w1,Jj,Bc0,Yh,Wd])
  xs.length 0 [(0, .d (D7 xs)),(1, .d (D7 xs)),(5, .d (.int .i64 0))] H (by omega) ⟨rfl,rfl,rfl,rfl⟩).out
 simp(maxSteps:=1000000) [Ci,-Cda,-Cdb,f30,he]
theorem Bem (e:En) (h1:e.list.length≤1000000) (h2:e.scores.length≤1000000) (h3:e.fields.length≤1000000):Be (ev R) 10 [.d (Jn e), .d (Jn e)]=some (.d (.bool true)):=Bb fun H=>by
 refine Bh (fn:=f10) rfl rfl ?_
 have p1:=Bpo e.list (by omega)
 have p2:=Bpp e.scores h2
 have p3:=Bpq e.fields h3
 simp[Cg,-Cda,-Cdb,f10,p1,p2,p3]
theorem Bpi (b:Ba) (hl:b.ents.length≤1000000) (h: ∀e∈b.ents,e.list.length≤1000000∧e.scores.length≤1000000∧e.fields.length≤1000000):Be (ev R) 12 [.d (Df b), .d (Df b)]=some (.d (.bool true)):=Bb fun H=>by
 refine Bh (fn:=f12) rfl rfl ?_
 obtain⟨o,e',X',he,rfl,ht⟩:=(C9 (F:=Bq (ev R) R.glob (Bc H) Bg Bnb) (lv:=[2,3,5]) b.ents.length
  (fun i e X=>X=ap H [.row 0 2 [.d (Df b)], .row 0 2 [.d (Df b)]]∧e.get 2= .ptr (Bc H) 0 0 0∧e.get 3= .ptr (Bc H+1) 0 0 0∧e.get 5= .d (.int .i64 i))
  (fun o e X=>o= .exit 0∧Cx X (Bc H)=H)
  (by
   rintro e X ⟨rfl,g2,g3,g5⟩
   simp[Cg,-Cda,-Cdb,Bnb,g2,g3,g5])
  (by
   rintro i e X hi ⟨rfl,g2,g3,g5⟩
   have c: (i:Int)< (b.ents.length:Int):=by omega
   have c0: (0:Int)≤(i:Int):=by omega
   have g:=Gt b.ents i hi
   have w1:IntKind.i64.wrap ((i:Int)+1)=((i+1:Nat):Int):=by rw[IntWalk.i64_in _ (by omega)];rfl
   have hh:=h _ (Jc hi:b.ents.getD i default∈b.ents)
   have p:=Bem (b.ents.getD i default) hh.1 hh.2.1 hh.2.2
   generalize b.ents.getD i default=x at*
   simp[Cg,-Cda,-Cdb,Bnb,g2,g3,g5,c,c0,g,hi,w1,p])
  b.ents.length 0 [(2, .ptr (Bc H) 0 0 0),(3, .ptr (Bc H+1) 0 0 0),(5, .d (.int .i64 0))] (ap H [.row 0 2 [.d (Df b)], .row 0 2 [.d (Df b)]]) (by omega) ⟨rfl,rfl,rfl,rfl⟩).out
 simp[Cg,-Cda,-Cdb,f12,he,ht]
end Go.Proofs.YtpajcoanfkeibaaGreatDoor.Code

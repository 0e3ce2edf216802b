/- Lemmas (several texts in one). -/
import Derived.Test.YtedlandcnpjghaaGreatDoorMRecord7
import Derived.Test.YtedlandcnpjghaaGreatDoorMRecord10
import Derived.Test.YtedlandcnpjghaaGreatDoorMRecord11
import Derived.Test.YtedlandcnpjghaaGreatDoorMRecord13
import Derived.Lib.ItoaMem
set_option maxRecDepth 100000
set_option linter.unusedSimpArgs false
set_option linter.unusedVariables false
namespace Go.Proofs.YtedlandcnpjghaaGreatDoor.Code
open Go Go.Ev Go.Proofs
def two (H:Hp) (s:Bl) (k:Nat) (sh bd:Bool) (g:Nat) (ts:List Bl):Hp:=Bt (Bt H (wr s k sh bd)) (Jc g ts)
theorem Lu (H:Hp) (s:Bl) (k:Nat) (sh bd:Bool) (g:Nat) (ts:List Bl):Ci (two H s k sh bd g ts) (Bc H)=some (wr s k sh bd):=by
 unfold two
 rw[D7 _ (by rw[Cf];omega),Dr]
theorem Yh (H:Hp) (s:Bl) (k k':Nat) (sh bd sh' bd':Bool) (g:Nat) (ts:List Bl):Bv (two H s k sh bd g ts) (Bc H) (wr s k' sh' bd')=two H s k' sh' bd' g ts:=by
 unfold two
 rw[Lm (by rw[Cf];omega),Qr]
theorem Ba8 (H:Hp) (s:Bl) (k:Nat) (sh bd:Bool):Bc (Bt H (wr s k sh bd))=Bc H+1:=Cf _ _
def R7 (H:Hp) (s:Bl) (ts:List Bl) (p:Res (List Bl)) (o:Option (Out×St)):Prop:=
 ∃e' g k sh bd ys,o=some (.exit 0,⟨e',two H s k sh bd g ys⟩)∧e'.get 4= .ptr (Bc H) 0 0 0∧e'.get 6= .slc (Bc H+1) g 0 ys.length∧k≤s.length∧
  (match p with| .ok xs r=>ys=ts++xs∧r=s.drop k∧sh=false∧bd=false| .short=>sh=true∧bd=false| .bad=>sh=false∧bd=true)
theorem Blq (n0:Nat) (s:Bl) (H:Hp) (k:Nat) (sh bd:Bool) (hb: (sh||bd)=true) (g:Nat) (ts:List Bl) (N i:Int) (e:Env) (h0:e.get 0= .d (.str s)) (h4:e.get 4= .ptr (Bc H) 0 0 0) (h5:e.get 5= .d (.int .i64 N)) (h6:e.get 6= .slc (Bc H+1) g 0 ts.length) (h7:e.get 7= .d (.int .i64 i)):
  ∃e',Bg (Bp (ev R) R.glob n0 Bg Qq) [0,4,5,6,7] ⟨e,two H s k sh bd g ts⟩=some (.exit 0,⟨e',two H s k sh bd g ts⟩)∧e'.get 4= .ptr (Bc H) 0 0 0∧e'.get 6= .slc (Bc H+1) g 0 ts.length:=by
 obtain⟨a0,a1,a2,a3⟩:=Kz (Lu H s k sh bd g ts)
 rw[Bw]
 refine⟨?_, ?_, ?_, ?_⟩
 rotate_left
 ·by_cases c:i<N
  ·cases sh with
   |true=>
    simp[Ck,-List.getD_eq_getElem?_getD,-List.map_map,Qq,h0,h4,h5,h6,h7,a0,a1,a2,a3,c]
    try rfl
   |false=>
    simp only[Bool.false_or] at hb
    subst hb
    simp[Ck,-List.getD_eq_getElem?_getD,-List.map_map,Qq,h0,h4,h5,h6,h7,a0,a1,a2,a3,c]
    try rfl
  ·simp[Ck,-List.getD_eq_getElem?_getD,-List.map_map,Qq,h0,h4,h5,h6,h7,a0,a1,a2,a3,c]
   try rfl
 ·simp[Ck,-List.getD_eq_getElem?_getD,-List.map_map,h4]
 ·simp[Ck,-List.getD_eq_getElem?_getD,-List.map_map,h6]
theorem B1b (n0:Nat) (s:Bl) (H:Hp) (hs:s.length≤1000000000) (hn0:n0≤Bc H) (N:Int) (hN:N≤8): ∀ (m i g k:Nat) (ts:List Bl) (e:Env),(i:Int)+m=N→ts.length+m≤8→k≤s.length→e.get 0= .d (.str s)→e.get 4= .ptr (Bc H) 0 0 0→e.get 5= .d (.int .i64 N)→e.get 6= .slc (Bc H+1) g 0 ts.length→e.get 7= .d (.int .i64 i)→
  R7 H s ts (Ld m (s.drop k)) (Bg (Bp (ev R) R.glob n0 Bg Qq) [0,4,5,6,7] ⟨e,two H s k false false g ts⟩)
 |0,i,g,k,ts,e,hi,hl,hk,h0,h4,h5,h6,h7=>by
  have c: ¬ (i:Int)<N:=by omega
  obtain⟨a0,a1,a2,a3⟩:=Kz (Lu H s k false false g ts)
  rw[Bw]
  unfold R7
  refine⟨?_,g,k,false,false,ts, ?_, ?_, ?_,hk,by simp[Ld]⟩
  rotate_left
  ·skip
   simp[Ck,-List.getD_eq_getElem?_getD,-List.map_map,Qq,h0,h4,h5,h6,h7,c,a0,a1,a2,a3]
   try rfl
  ·simp[Ck,-List.getD_eq_getElem?_getD,-List.map_map,h4]
  ·simp[Ck,-List.getD_eq_getElem?_getD,-List.map_map,h6]
 |m+1,i,g,k,ts,e,hi,hl,hk,h0,h4,h5,h6,h7=>by
  have c: (i:Int)<N:=by omega
  obtain⟨a0,a1,a2,a3⟩:=Kz (Lu H s k false false g ts)
  obtain⟨n,k1,sh,bd,q53,kl,say⟩:=B05 (two H s k false false g ts) (Bc H) s k 36 36 0 40 rfl (by omega) (by omega) (Lu H s k false false g ts) hk hs
  rw[Yh] at q53
  obtain⟨b0,b1,b2,b3⟩:=Kz (Lu H s k1 sh bd g ts)
  simp only[Ld,Z6]
  cases hp:Jv 36 0 40 (s.drop k) with
  |short=>
   rw[hp] at say
   obtain⟨rfl,rfl⟩:=say
   simp only[Res.bind]
   rw[Bw]
   unfold R7
   refine⟨?_,g,k1,true,false,ts, ?_, ?_, ?_,kl,rfl,rfl⟩
   rotate_left
   ·skip
    simp[Ck,-List.getD_eq_getElem?_getD,-List.map_map,Qq,h0,h4,h5,h6,h7,c,a0,a1,a2,a3,q53,b0,b1,b2,b3]
    try rfl
   ·simp[Ck,-List.getD_eq_getElem?_getD,-List.map_map,h4]
   ·simp[Ck,-List.getD_eq_getElem?_getD,-List.map_map,h6]
  |bad=>
   rw[hp] at say
   obtain⟨rfl,rfl⟩:=say
   simp only[Res.bind]
   rw[Bw]
   unfold R7
   refine⟨?_,g,k1,false,true,ts, ?_, ?_, ?_,kl,rfl,rfl⟩
   rotate_left
   ·skip
    simp[Ck,-List.getD_eq_getElem?_getD,-List.map_map,Qq,h0,h4,h5,h6,h7,c,a0,a1,a2,a3,q53,b0,b1,b2,b3]
    try rfl
   ·simp[Ck,-List.getD_eq_getElem?_getD,-List.map_map,h4]
   ·simp[Ck,-List.getD_eq_getElem?_getD,-List.map_map,h6]
  |ok z Jy=>
   rw[hp] at say
   obtain⟨rfl,rfl,rfl,rfl⟩:=say
   obtain⟨j,rfl,jl,jh,_⟩:=Brw 36 0 40 (by omega) (by omega) _ _ _ hp
   simp only[Res.bind,Int.toNat_natCast,X3]
   have w1:IntKind.i64.wrap ((s.length:Int) - (k1:Int))=(s.length:Int) - (k1:Int):=IntWalk.i64_in _ (by omega)
   have dl: (s.drop k1).length=s.length - k1:=by simp
   by_cases short: (s.drop k1).length<j
   ·have a4: (s.length:Int) - (k1:Int)< (j:Int):=by omega
    have st:=Zh (Lu H s k1 false false g ts) true
    rw[Yh] at st
    rw[if_pos short]
    simp only[Res.bind]
    rw[Bw]
    unfold R7
    refine⟨?_,g,k1,true,false,ts, ?_, ?_, ?_,kl,rfl,rfl⟩
    rotate_left
    ·skip
     simp[Ck,-List.getD_eq_getElem?_getD,-List.map_map,Qq,h0,h4,h5,h6,h7,c,a0,a1,a2,a3,q53,b0,b1,b2,b3,w1,a4,st]
     try rfl
    ·simp[Ck,-List.getD_eq_getElem?_getD,-List.map_map,h4]
    ·simp[Ck,-List.getD_eq_getElem?_getD,-List.map_map,h6]
   ·have a4: ¬ (s.length:Int) - (k1:Int)< (j:Int):=by omega
    rw[if_neg short]
    simp only[Res.bind]
    have w2:IntKind.i64.wrap ((k1:Int)+(j:Int))=(k1:Int)+(j:Int):=IntWalk.i64_in _ (by omega)
    have w3:IntKind.i64.wrap ((i:Int)+1)=((i+1:Nat):Int):=by rw[IntWalk.i64_in _ (by omega)];rfl
    have t1: ((k1:Int)+(j:Int)).toNat=k1+j:=by omega
    have p1: (0:Int)≤(k1:Int)+(j:Int):=by omega
    have p2: (k1:Int)+(j:Int)≤(s.length:Int):=by omega
    have p3: (k1:Int)≤(k1:Int)+(j:Int):=by omega
    have p4:k1≤k1+j:=by omega
    have cut: (s.take (k1+j)).drop k1=(s.drop k1).take j:=by
     rw[List.drop_take];congr 1;omega
    have dd: (s.drop k1).drop j=s.drop (k1+j):=by rw[List.drop_drop]
    rw[dd]
    have r1:Ct (two H s k1 false false g ts) (Bc H+1) g=some (1,(ts.map D.str).map V.d):=by
     unfold two
     exact Ti (Ba8 H s k1 false false).symm
    have r2:Bv (two H s k1 false false g ts) (Bc H+1) (.row (g+1) 1 ((ts.map D.str).map V.d++[.d (.str ((s.drop k1).take j))]))=two H s k1 false false (g+1) (ts++[(s.drop k1).take j]):=by
     unfold two
     exact Bir (Ba8 H s k1 false false).symm _
    obtain⟨x,hx⟩: ∃x,(s.drop k1).take j=x:=⟨_,rfl⟩
    rw[hx] at cut r2⊢
    have rm: (ts.length+1)*16≤Cx:=by unfold Cx;omega
    have lx: (ts++[x]).length=ts.length+1:=by simp
    obtain⟨d0,d1,d2,d3⟩:=Kz (Lu H s k1 false false (g+1) (ts++[x]))
    have st:=Us (Lu H s k1 false false (g+1) (ts++[x])) (k1+j) ((k1:Int)+(j:Int)) (by omega)
    rw[Yh] at st
    have k2l:k1+j≤s.length:=by omega
    obtain⟨k13,s13,d13,Kn⟩: ∃k' s' d',Da s (k1+j) false false 13=(k',s',d'):=⟨_,_,_,rfl⟩
    have Bhf:k13≤s.length:=by have:=Sd (s:=s) (sh:=false) (bd:=false) (b:=13) k2l;rw[Kn] at this;exact this
    have q13:=Buy (two H s (k1+j) false false (g+1) (ts++[x])) (Bc H) s (k1+j) false false 13 13 rfl (Lu ..) k2l (by omega)
    rw[Kn,Yh] at q13
    obtain⟨k10,s10,d10,e10⟩: ∃k' s' d',Da s k13 s13 d13 10=(k',s',d'):=⟨_,_,_,rfl⟩
    have l10:k10≤s.length:=by have:=Sd (s:=s) (sh:=s13) (bd:=d13) (b:=10) Bhf;rw[e10] at this;exact this
    have q10:=Buy (two H s k13 s13 d13 (g+1) (ts++[x])) (Bc H) s k13 s13 d13 10 10 rfl (Lu ..) Bhf (by omega)
    rw[e10,Yh] at q10
    have say2: (s10=false∧d10=false∧Sz x (s.drop (k1+j))= .ok x (s.drop k10))∨(s10=true∧d10=false∧Sz x (s.drop (k1+j))= .short)∨(s10=false∧d10=true∧Sz x (s.drop (k1+j))= .bad):=by
     have gd: ∀o,(s.drop (k1+j)).getD o 0=s.getD (k1+j+o) 0:=fun o=>by simp[List.getD_eq_getElem?_getD]
     have ld: (s.drop (k1+j)).length=s.length - (k1+j):=by simp
     have g0:=gd 0
     have g1:=gd 1
     rcases Bnw x (s.drop (k1+j)) with⟨f1,f2⟩ | ⟨c1,t',f1,f3,f2⟩ | ⟨f1,f2⟩ | ⟨c1,t',f1,f3,f2⟩ | ⟨t',f1,f2⟩
     ·rw[f1] at ld
      simp only[List.length_nil] at ld
      have:Da s (k1+j) false false 13=(k1+j,true,false):=by simp[Da];omega
      rw[this] at Kn;cases Kn
      have:Da s (k1+j) true false 10=(k1+j,true,false):=by simp[Da]
      rw[this] at e10;cases e10
      exact .inr (.inl ⟨rfl,rfl,f2⟩)
     ·rw[f1] at ld g0
      simp only[List.length_cons,List.getD_cons_zero,Nat.add_zero] at ld g0
      have nl: ¬k1+j=s.length:=by omega
      have ne: ¬s.getD (k1+j) 0=13:=by rw[←g0];exact f3
      have:Da s (k1+j) false false 13=(k1+j,false,true):=by simp only[Da];rw[if_neg (by simp),if_neg nl,if_neg ne]
      rw[this] at Kn;cases Kn
      have:Da s (k1+j) false true 10=(k1+j,false,true):=by simp[Da]
      rw[this] at e10;cases e10
      exact .inr (.inr ⟨rfl,rfl,f2⟩)
     ·rw[f1] at ld g0
      simp only[List.length_cons,List.length_nil,List.getD_cons_zero,Nat.add_zero] at ld g0
      have nl: ¬k1+j=s.length:=by omega
      have:Da s (k1+j) false false 13=(k1+j+1,false,false):=by simp only[Da];rw[if_neg (by simp),if_neg nl,if_pos g0.symm]
      rw[this] at Kn;cases Kn
      have:Da s (k1+j+1) false false 10=(k1+j+1,true,false):=by simp only[Da];rw[if_neg (by simp),if_pos (by omega)]
      rw[this] at e10;cases e10
      exact .inr (.inl ⟨rfl,rfl,f2⟩)
     ·rw[f1] at ld g0 g1
      simp only[List.length_cons,List.getD_cons_zero,List.getD_cons_succ,Nat.add_zero] at ld g0 g1
      have nl: ¬k1+j=s.length:=by omega
      have:Da s (k1+j) false false 13=(k1+j+1,false,false):=by simp only[Da];rw[if_neg (by simp),if_neg nl,if_pos g0.symm]
      rw[this] at Kn;cases Kn
      have ne: ¬s.getD (k1+j+1) 0=10:=by rw[←g1];exact f3
      have:Da s (k1+j+1) false false 10=(k1+j+1,false,true):=by simp only[Da];rw[if_neg (by simp),if_neg (by omega),if_neg ne]
      rw[this] at e10;cases e10
      exact .inr (.inr ⟨rfl,rfl,f2⟩)
     ·have dd2:s.drop (k1+j+2)=t':=by
       have: (s.drop (k1+j)).drop 2=s.drop (k1+j+2):=by rw[List.drop_drop]
       rw[←this,f1];rfl
      rw[f1] at ld g0 g1
      simp only[List.length_cons,List.getD_cons_zero,List.getD_cons_succ,Nat.add_zero] at ld g0 g1
      have nl: ¬k1+j=s.length:=by omega
      have:Da s (k1+j) false false 13=(k1+j+1,false,false):=by simp only[Da];rw[if_neg (by simp),if_neg nl,if_pos g0.symm]
      rw[this] at Kn;cases Kn
      have:Da s (k1+j+1) false false 10=(k1+j+1+1,false,false):=by simp only[Da];rw[if_neg (by simp),if_neg (by omega),if_pos g1.symm]
      rw[this] at e10;cases e10
      refine .inl ⟨rfl,rfl, ?_⟩
      rw[f2,←dd2]
    have ih:=B1b n0 s H hs hn0 N hN m (i+1) (g+1) k10 (ts++[x])
    have stop:=fun hb=>Blq n0 s H k10 s10 d10 hb (g+1) (ts++[x]) N ((i+1:Nat):Int)
    rw[lx] at ih stop
    rw[Bw]
    generalize Bg (Bp (ev R) R.glob n0 Bg Qq) [0,4,5,6,7]=F at ih stop⊢
    have key: ∀e,e.get 0= .d (.str s)→e.get 4= .ptr (Bc H) 0 0 0→e.get 5= .d (.int .i64 N)→e.get 6= .slc (Bc H+1) (g+1) 0 (ts.length+1)→e.get 7= .d (.int .i64 ((i+1:Nat):Int))→R7 H s ts ((Sz x (s.drop (k1+j))).bind fun x r=> (Ld m r).bind fun xs r'=> .ok (x::xs) r') (F ⟨e,two H s k10 s10 d10 (g+1) (ts++[x])⟩):=by
     intro e g0 g4 g5 g6 g7
     rcases say2 with⟨rfl,rfl,f2⟩ | ⟨rfl,rfl,f2⟩ | ⟨rfl,rfl,f2⟩
     ·rw[f2]
      simp only[Res.bind]
      have h:=ih e (by omega) (by omega) l10 g0 g4 g5 g6 g7
      cases hq:Ld m (s.drop k10) with
      |short=>rw[hq] at h;exact h
      |bad=>rw[hq] at h;exact h
      |ok xs r'=>
       rw[hq] at h
       obtain⟨e',g',k',sh',bd',ys,o1,o2,o3,o4,o5,o6⟩:=h
       exact⟨e',g',k',sh',bd',ys,o1,o2,o3,o4,by rw[o5];simp,o6⟩
     ·rw[f2]
      obtain⟨e',he,q4,q6⟩:=stop rfl e g0 g4 g5 g6 g7
      exact⟨e',g+1,k10,true,false,ts++[x],he,q4,by rw[lx];exact q6,l10,rfl,rfl⟩
     ·rw[f2]
      obtain⟨e',he,q4,q6⟩:=stop rfl e g0 g4 g5 g6 g7
      exact⟨e',g+1,k10,false,true,ts++[x],he,q4,by rw[lx];exact q6,l10,rfl,rfl⟩
    show R7 H s ts ((Sz x (s.drop (k1+j))).bind fun x r=> (Ld m r).bind fun xs r'=>Res.ok (x::xs) r') _
    generalize((Sz x (s.drop (k1+j))).bind fun x r=> (Ld m r).bind fun xs r'=>Res.ok (x::xs) r')=PP at key⊢
    clear ih stop say2
    simp[Ck,-List.getD_eq_getElem?_getD,-List.map_map,Qq,h0,h4,h5,h6,h7,c,a0,a1,a2,a3,q53,b0,b1,b2,b3,w1,w2,w3,a4,t1,p1,p2,p3,p4,cut,r1,r2,rm,R6,d0,d1,d2,d3,st,q13,q10,De,kl]
    refine key _ ?_ ?_ ?_ ?_ ?_<;>rfl
theorem Btq (H:Hp) (s:Bl) (k:Nat) (sh bd:Bool) (g:Nat) (ts:List Bl):Du (two H s k sh bd g ts) (Bc H)=H:=by
 simp[two,Du,Bt,Bc]
theorem Bzn (H:Hp) (s:Bl) (k:Nat) (sh bd:Bool) (g:Nat) (ts:List Bl):Wx (Bc H) (two H s k sh bd g ts) (.slc (Bc H+1) g 0 ts.length)=some (.d (Bf ts)):=by
 have hr:Ct (two H s k sh bd g ts) (Bc H+1) g=some (1,(ts.map D.str).map V.d):=by
  unfold two
  exact Ti (Ba8 H s k sh bd).symm
 have h:=Sm (n:=Bc H) (d:=7) (i:=0) (k:=ts.length) (by omega) hr (by simp) (ys:=ts.map D.str) (by
  rw[List.drop_zero,List.take_of_length_le (by simp)];exact Wi _)
 show(if Bc H+1<Bc H then _ else(match fz (Bc H) Qd _ (.slc (Bc H+1) g 0 ts.length) with|some x=>some (V.d x) |none=>none))=_
 rw[if_neg (by omega),show Qd=7+1 from rfl,h]
theorem B0z (H:Hp) (s:Bl) (hs:s.length≤1000000000):ev R 19 [.d (.str s)] H=some (.tup [.d (Bf (Lh s)), .d (.int .i64 (Kb s))],H):=by
 refine Bo (fn:=f19) rfl rfl ?_
 obtain⟨n,k1,sh,bd,q53,kl,say⟩:=B05 (Bt H (wr s 0 false false)) (Bc H) s 0 42 42 1 8 rfl (by omega) (by omega) (Dr _ _) (by omega) hs
 rw[Qr] at q53
 rw[List.drop_zero] at say
 have e0:Bt (Bt H (wr s k1 sh bd)) (.row 0 1 [])=two H s k1 sh bd 0 []:=rfl
 have ew:Obj.row 0 4 [.d (.agg [.str s, .int .i64 0, .bool false, .bool false])]=wr s 0 false false:=rfl
 have hl1:=Ba8 H s k1 sh bd
 have L:R7 H s [] (Lp s) (Bg (Bp (ev R) R.glob (Bc H) Bg Qq) [0,4,5,6,7] ⟨[(0, .d (.str s)),(4, .ptr (Bc H) 0 0 0),(5, .d (.int .i64 n)),(6, .slc (Bc H+1) 0 0 0),(7, .d (.int .i64 0))],two H s k1 sh bd 0 []⟩):=by
  unfold Lp
  cases hp:Jv 42 1 8 s with
  |short=>
   rw[hp] at say
   obtain⟨rfl,rfl⟩:=say
   obtain⟨e',he,g4,g6⟩:=Blq (Bc H) s H k1 true false rfl 0 [] n 0 [(0, .d (.str s)),(4, .ptr (Bc H) 0 0 0),(5, .d (.int .i64 n)),(6, .slc (Bc H+1) 0 0 0),(7, .d (.int .i64 0))] rfl rfl rfl rfl rfl
   exact⟨e',0,k1,true,false,[],he,g4,g6,kl,rfl,rfl⟩
  |bad=>
   rw[hp] at say
   obtain⟨rfl,rfl⟩:=say
   obtain⟨e',he,g4,g6⟩:=Blq (Bc H) s H k1 false true rfl 0 [] n 0 [(0, .d (.str s)),(4, .ptr (Bc H) 0 0 0),(5, .d (.int .i64 n)),(6, .slc (Bc H+1) 0 0 0),(7, .d (.int .i64 0))] rfl rfl rfl rfl rfl
   exact⟨e',0,k1,false,true,[],he,g4,g6,kl,rfl,rfl⟩
  |ok z Jy=>
   obtain⟨N,rfl,nl,nh,rl⟩:=Brw 42 1 8 (by omega) (by omega) s Jy z hp
   rw[hp] at say
   obtain⟨rfl,rfl,rfl,rfl⟩:=say
   simp only[Res.bind,Int.toNat_natCast]
   exact B1b (Bc H) s H hs (Nat.le_refl _) N nh N 0 0 k1 [] _ (by omega) (by simp;omega) kl rfl rfl rfl rfl rfl
 obtain⟨e',g,k,s2,b2,ys,he,g4,g6,kl2,out⟩:=L
 obtain⟨a0,a1,a2,a3⟩:=Kz (Lu H s k s2 b2 g ys)
 have tk:=Btq H s k s2 b2 g ys
 have fzr:=Bzn H s k s2 b2 g ys
 unfold Lh Kb
 cases hq:Lp s with
 |short=>
  rw[hq] at out
  obtain⟨rfl,rfl⟩:=out
  simp[Ck,-List.getD_eq_getElem?_getD,-List.map_map,f19,Nl,Yg,ew,q53,e0,hl1,he,g4,g6,a0,a1,a2,a3,tk]
 |bad=>
  rw[hq] at out
  obtain⟨rfl,rfl⟩:=out
  simp[Ck,-List.getD_eq_getElem?_getD,-List.map_map,f19,Nl,Yg,ew,q53,e0,hl1,he,g4,g6,a0,a1,a2,a3,tk]
 |ok xs r=>
  rw[hq] at out
  obtain⟨rfl,rfl,rfl,rfl⟩:=out
  have q: ((s.length:Int) - ((s.drop k).length:Int))=(k:Int):=by simp;omega
  simp[Ck,-List.getD_eq_getElem?_getD,-List.map_map,f19,Nl,Yg,ew,q53,e0,hl1,he,g4,g6,a0,a1,a2,a3,tk,fzr]
  omega
theorem Bbe (a:Bl): (Qn a).length≤2*a.length+6:=by
 have:=Mw a.length
 simp only[Qn,List.length_cons,List.length_append,List.length_nil]
 omega
theorem Bdl: ∀ (xs:List Bl),(∀x∈xs,x.length≤40)→(L6 xs).length≤86*xs.length
 | [],_=>by simp[L6]
 |a::xs,h=>by
  have h1:=Bbe a
  have h2:=Bdl xs fun x hx=>h x (by simp[hx])
  have h3:=h a (by simp)
  simp only[L6,List.length_append,List.length_cons]
  omega
theorem B3q (H:Hp) (a:Bl) (ha:a.length≤1000000):ev R 38 [.d (.str a)] H=some (.d (.str (Qn a)),H):=by
 refine Bo (fn:=f38) rfl rfl ?_
 have q:Be (ev R) 29 [.d (.int .i64 a.length)]=some (.d (.str (C9 a.length))):=Bb fun H=>Bns a.length H (by omega)
 have dl:=Mw a.length
 have l1:1+(C9 a.length).length≤Bu:=by unfold Bu;omega
 have l2: (C9 a.length).length+1≤Bu:=by unfold Bu;omega
 have l3: (C9 a.length).length+1+2≤Bu:=by unfold Bu;omega
 have l4: (C9 a.length).length+2+1≤Bu:=by unfold Bu;omega
 have l5: (C9 a.length).length+1+2+a.length≤Bu:=by unfold Bu;omega
 have l6: (C9 a.length).length+2+1+a.length≤Bu:=by unfold Bu;omega
 have l7: (C9 a.length).length+1+2+a.length+2≤Bu:=by unfold Bu;omega
 have l8: (C9 a.length).length+2+1+a.length+2≤Bu:=by unfold Bu;omega
 have l9: (C9 a.length).length+(a.length+1+1)+1≤Bu:=by unfold Bu;omega
 have la: (C9 a.length).length+(a.length+2)+1≤Bu:=by unfold Bu;omega
 have lb: (C9 a.length).length+(a.length+1+1)+1+2≤Bu:=by unfold Bu;omega
 have lc: (C9 a.length).length+(a.length+2)+1+2≤Bu:=by unfold Bu;omega
 unfold Qn
 simp[Ck,-List.getD_eq_getElem?_getD,-List.map_map,f38,q,l1,l2,l3,l4,l5,l6,l7,l8,l9,la,lb,lc]
theorem B1e (n0:Nat) (xs:List Bl) (hx:xs.length≤1000) (hs: ∀x∈xs,x.length≤40) (H:Hp): ∀ (n i:Nat) (out:Bl) (e:Env),i+n=xs.length→out.length+86*n≤1000000→e.get 0= .d (Bf xs)→e.get 3= .d (.str out)→e.get 4= .d (.int .i64 i)→
  ∃e',Bg (Bp (ev R) R.glob n0 Bg Bgx) [0,3,4] ⟨e,H⟩=some (.exit 0,⟨e',H⟩)∧e'.get 3= .d (.str (out++L6 (xs.drop i)))
 |0,i,out,e,hi,hl,h0,h3,h4=>by
  have c: ¬ (i:Int)< (xs.length:Int):=by omega
  have c': ¬i<xs.length:=by omega
  rw[List.drop_of_length_le (by omega),L6,List.append_nil,Bw]
  refine⟨?_, ?_, ?_⟩
  rotate_left
  ·simp[Ck,-List.getD_eq_getElem?_getD,-List.map_map,Bgx,h0,h3,h4,Bf,c,c']
   try rfl
  ·simp[Ck,-List.getD_eq_getElem?_getD,-List.map_map,h3]
 |n+1,i,out,e,hi,hl,h0,h3,h4=>by
  have c':i<xs.length:=by omega
  have c: (i:Int)< (xs.length:Int):=by omega
  have g:=Dt xs i c'
  have w1:IntKind.i64.wrap ((i:Int)+1)=((i+1:Nat):Int):=by rw[IntWalk.i64_in _ (by omega)];rfl
  have hd:xs.drop i=xs.getD i []::xs.drop (i+1):=by
   rw[List.getD_eq_getElem?_getD,List.getElem?_eq_getElem c']
   exact List.drop_eq_getElem_cons c'
  have hm: (xs.getD i []).length≤40:=by
   rw[List.getD_eq_getElem?_getD,List.getElem?_eq_getElem c']
   exact hs _ (List.getElem_mem c')
  obtain⟨x,hx'⟩: ∃x,xs.getD i []=x:=⟨_,rfl⟩
  rw[hx'] at g hd hm
  have bl:=Bbe x
  have q:Be (ev R) 38 [.d (.str x)]=some (.d (.str (Qn x))):=Bb fun H=>B3q H x (by omega)
  have l1:out.length+(Qn x).length≤Bu:=by unfold Bu;omega
  have ih:=B1e n0 xs hx hs H n (i+1) (out++Qn x)
  simp only[List.append_assoc] at ih
  rw[hd,L6]
  generalize Qn x=b at q l1 ih bl⊢
  rw[Bw]
  generalize Bg (Bp (ev R) R.glob n0 Bg Bgx) [0,3,4]=F at ih⊢
  simp[Ck,-List.getD_eq_getElem?_getD,-List.map_map,Bgx,h0,h3,h4,Bf,c,c',g,w1,q,l1]
  refine ih _ (by omega) (by rw[List.length_append];omega) ?_ ?_ ?_<;>rfl
theorem B03 (H:Hp) (xs:List Bl) (hx:xs.length≤1000) (hs: ∀x∈xs,x.length≤40):ev R 28 [.d (Bf xs)] H=some (.d (.str (Cj xs)),H):=by
 refine Bo (fn:=f28) rfl rfl ?_
 have q:Be (ev R) 29 [.d (.int .i64 xs.length)]=some (.d (.str (C9 xs.length))):=Bb fun H=>Bns xs.length H (by omega)
 have dl:=Mw xs.length
 obtain⟨e',he,h3⟩:=B1e (Bc H) xs hx hs H xs.length 0 (42:: (C9 xs.length++[13,10])) [(0, .d (Bf xs)),(3, .d (.str (42:: (C9 xs.length++[13,10])))),(4, .d (.int .i64 0))] (by omega) (by simp;omega) rfl rfl rfl
 have e1:42:: (C9 xs.length++[13,10])++L6 (xs.drop 0)=Cj xs:=by simp[Cj]
 rw[e1] at h3
 have l1:1+(C9 xs.length).length≤Bu:=by unfold Bu;omega
 have l2: (C9 xs.length).length+1≤Bu:=by unfold Bu;omega
 have l3: (C9 xs.length).length+1+2≤Bu:=by unfold Bu;omega
 simp[Ck,-List.getD_eq_getElem?_getD,-List.map_map,f28,Bf,q,l1,l2,l3,he,h3]
def Bfw (xs:List Bl):Bl:=if Jq xs=true then Cj xs else[]
theorem Bse (xs:List Bl): (Bfw xs).length≤800:=by
 unfold Bfw
 split
 ·rename_i h
  obtain⟨h1,h2,h3⟩:=(J6 xs).1 h
  have b:=Bdl xs h1
  have d:=Mw xs.length
  simp only[Cj,List.length_cons,List.length_append]
  omega
 ·simp
theorem Bqv (n:Nat):Lib.decDigits n=C9 n:=by
 induction n using Nat.strongRecOn with
 |_ n ih=>
  rw[Lib.decDigits,C9]
  split
  ·rfl
  ·rw[ih (n / 10) (by omega)]
theorem Bvg (n:Nat) (h:n≤9223372036854775807):Be (ev R) 24 [.d (.int .i64 n)]=some (.d (.str (C9 n))):=Bb fun H=>by
 have:=B01 H (n:Int) (by omega)
 rwa[Lib.itoa_nonneg,Bqv] at this
theorem Byt (H:Hp) (xs:List Bl) (hx:xs.length≤9223372036854775807):ev R 26 [.d (Bf xs), .d (.int .i64 8)] H=some (.d (.bool ((Dy (Ka xs) xs.length 0).isNone&&decide (xs.length≤8))),H):=by
 refine Bo (fn:=f26) rfl rfl ?_
 obtain⟨e',he,h1,h2⟩:=B1c (Bc H) xs hx 8 H xs.length 0 [(0, .d (Bf xs)),(1, .d (.int .i64 8)),(7, .d (Bf xs)),(8, .d (.int .i64 xs.length)),(9, .d (.int .i64 0))] (by omega) rfl rfl rfl rfl rfl
 cases hr:Dy (Ka xs) xs.length 0 with
 |some j=>
  simp only[hr] at he
  simp[Ck,-List.getD_eq_getElem?_getD,-List.map_map,f26,he,h1 j hr,hr]
 |none=>
  simp only[hr] at he
  obtain⟨h3,h4⟩:=h2 hr
  have q:decide ((xs.length:Int)≤8)=decide (xs.length≤8):=decide_eq_decide.2 (by omega)
  simp[Ck,-List.getD_eq_getElem?_getD,-List.map_map,f26,he,h3,h4,hr,Bf,q]
theorem B0x (H:Hp) (xs:List Bl) (hx:xs.length≤9223372036854775807):ev R 15 [.d (Bf xs)] H=some (.d (.bool (Jq xs)),H):=by
 refine Bo (fn:=f15) rfl rfl ?_
 have p:=Bb (cl:=ev R) fun H=>Byt H xs hx
 unfold Jq
 by_cases c:0<xs.length
 ·have c': (0:Int)< (xs.length:Int):=by omega
  have c2:1≤xs.length:=by omega
  simp only[Bf] at p
  generalize((Dy (Ka xs) xs.length 0).isNone)=b at p⊢
  cases b
  ·simp[Ck,-List.getD_eq_getElem?_getD,-List.map_map,f15,Bf,p,c,c',c2]
  ·simp[Ck,-List.getD_eq_getElem?_getD,-List.map_map,f15,Bf,p,c,c',c2]
 ·have c': ¬ (0:Int)< (xs.length:Int):=by omega
  have c2: ¬1≤xs.length:=by omega
  have c3:xs=[]:=List.eq_nil_of_length_eq_zero (by omega)
  subst c3
  simp[Ck,-List.getD_eq_getElem?_getD,-List.map_map,f15,Bf,Dy]
theorem B3m (H:Hp) (a:Bl) (ha:a.length≤1000000):ev R 25 [.d (.str a)] H=some (.d (.str (Qn a)),H):=by
 refine Bo (fn:=f25) rfl rfl ?_
 have q:=Bvg a.length (by omega)
 have dl:=Mw a.length
 have l1:1+(C9 a.length).length≤Bu:=by unfold Bu;omega
 have l2: (C9 a.length).length+1≤Bu:=by unfold Bu;omega
 have l3: (C9 a.length).length+1+2≤Bu:=by unfold Bu;omega
 have l4: (C9 a.length).length+2+1≤Bu:=by unfold Bu;omega
 have l5: (C9 a.length).length+1+2+a.length≤Bu:=by unfold Bu;omega
 have l6: (C9 a.length).length+2+1+a.length≤Bu:=by unfold Bu;omega
 have l7: (C9 a.length).length+1+2+a.length+2≤Bu:=by unfold Bu;omega
 have l8: (C9 a.length).length+2+1+a.length+2≤Bu:=by unfold Bu;omega
 have l9: (C9 a.length).length+(a.length+1+1)+1≤Bu:=by unfold Bu;omega
 have la: (C9 a.length).length+(a.length+2)+1≤Bu:=by unfold Bu;omega
 have lb: (C9 a.length).length+(a.length+1+1)+1+2≤Bu:=by unfold Bu;omega
 have lc: (C9 a.length).length+(a.length+2)+1+2≤Bu:=by unfold Bu;omega
 unfold Qn
 simp[Ck,-List.getD_eq_getElem?_getD,-List.map_map,f25,q,l1,l2,l3,l4,l5,l6,l7,l8,l9,la,lb,lc]
theorem Bhf (n0:Nat) (xs:List Bl) (hx:xs.length≤1000) (hs: ∀x∈xs,x.length≤40) (H:Hp): ∀ (n i:Nat) (out:Bl) (e:Env),i+n=xs.length→out.length+86*n≤1000000→e.get 3= .d (.str out)→e.get 14= .d (Bf xs)→e.get 15= .d (.int .i64 xs.length)→e.get 16= .d (.int .i64 i)→
  ∃e',Bg (Bp (ev R) R.glob n0 Bg Bgv) [3,14,15,16] ⟨e,H⟩=some (.exit 0,⟨e',H⟩)∧e'.get 3= .d (.str (out++L6 (xs.drop i)))
 |0,i,out,e,hi,hl,h3,h14,h15,h16=>by
  have c: ¬ (i:Int)< (xs.length:Int):=by omega
  have c': ¬i<xs.length:=by omega
  rw[List.drop_of_length_le (by omega),L6,List.append_nil,Bw]
  refine⟨?_, ?_, ?_⟩
  rotate_left
  ·simp[Ck,-List.getD_eq_getElem?_getD,-List.map_map,Bgv,h3,h14,h15,h16,Bf,c,c']
   try rfl
  ·simp[Ck,-List.getD_eq_getElem?_getD,-List.map_map,h3]
 |n+1,i,out,e,hi,hl,h3,h14,h15,h16=>by
  have c':i<xs.length:=by omega
  have c: (i:Int)< (xs.length:Int):=by omega
  have g:=Dt xs i c'
  have w1:IntKind.i64.wrap ((i:Int)+1)=((i+1:Nat):Int):=by rw[IntWalk.i64_in _ (by omega)];rfl
  have hd:xs.drop i=xs.getD i []::xs.drop (i+1):=by
   rw[List.getD_eq_getElem?_getD,List.getElem?_eq_getElem c']
   exact List.drop_eq_getElem_cons c'
  have hm: (xs.getD i []).length≤40:=by
   rw[List.getD_eq_getElem?_getD,List.getElem?_eq_getElem c']
   exact hs _ (List.getElem_mem c')
  obtain⟨x,hx'⟩: ∃x,xs.getD i []=x:=⟨_,rfl⟩
  rw[hx'] at g hd hm
  have bl:=Bbe x
  have q:Be (ev R) 25 [.d (.str x)]=some (.d (.str (Qn x))):=Bb fun H=>B3m H x (by omega)
  have l1:out.length+(Qn x).length≤Bu:=by unfold Bu;omega
  have ih:=Bhf n0 xs hx hs H n (i+1) (out++Qn x)
  simp only[List.append_assoc] at ih
  rw[hd,L6]
  generalize Qn x=b at q l1 ih bl⊢
  rw[Bw]
  generalize Bg (Bp (ev R) R.glob n0 Bg Bgv) [3,14,15,16]=F at ih⊢
  simp[Ck,-List.getD_eq_getElem?_getD,-List.map_map,Bgv,h3,h14,h15,h16,Bf,c,c',g,w1,q,l1]
  refine ih _ (by omega) (by rw[List.length_append];omega) ?_ ?_ ?_ ?_<;>rfl
theorem Kn (H:Hp) (xs:List Bl) (hx:xs.length≤9223372036854775807):ev R 13 [.d (Bf xs)] H=some (.d (.str (Bfw xs)),H):=by
 refine Bo (fn:=f13) rfl rfl ?_
 have q:=Bb (cl:=ev R) fun H=>B0x H xs hx
 unfold Bfw
 cases hok:Jq xs with
 |false=>
  rw[hok] at q
  simp[Ck,-List.getD_eq_getElem?_getD,-List.map_map,f13,q]
 |true=>
  rw[hok] at q
  obtain⟨h1,h2,h3⟩:=(J6 xs).1 hok
  have q2:=Bvg xs.length (by omega)
  have dl:=Mw xs.length
  obtain⟨e',he,g3⟩:=Bhf (Bc H) xs (by omega) h1 H xs.length 0 (42:: (C9 xs.length++[13,10])) [(3, .d (.str (42:: (C9 xs.length++[13,10])))),(14, .d (Bf xs)),(15, .d (.int .i64 xs.length)),(16, .d (.int .i64 0))] (by omega) (by simp;omega) rfl rfl rfl rfl
  have e1:42:: (C9 xs.length++[13,10])++L6 (xs.drop 0)=Cj xs:=by simp[Cj]
  rw[e1] at g3
  have l1:1+(C9 xs.length).length≤Bu:=by unfold Bu;omega
  have l2: (C9 xs.length).length+1≤Bu:=by unfold Bu;omega
  have l3: (C9 xs.length).length+1+2≤Bu:=by unfold Bu;omega
  simp[Ck,-List.getD_eq_getElem?_getD,-List.map_map,f13,Bf,q,q2,l1,l2,l3,he,g3]
end Go.Proofs.YtedlandcnpjghaaGreatDoor.Code

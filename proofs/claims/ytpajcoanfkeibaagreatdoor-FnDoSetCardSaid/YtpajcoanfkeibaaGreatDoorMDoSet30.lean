/- Lemmas (several texts in one). -/
import Derived.Test.YtpajcoanfkeibaaGreatDoorMDoSet6
import Derived.Test.YtpajcoanfkeibaaGreatDoorMDoSet21
import Derived.Test.YtpajcoanfkeibaaGreatDoorMDoSet29
set_option maxRecDepth 100000
set_option maxHeartbeats 2000000
set_option linter.unusedSimpArgs false
set_option linter.unusedVariables false
namespace Go.Proofs.YtpajcoanfkeibaaGreatDoor.Code
open Go Go.Ev Go.Proofs
def Xy (b:Ba):Ba×Re:=(b,Cu b.ents.length)
def Y2 (b:Ba):Ba×Re:=(⟨b.now,[]⟩,Sk)
def Bih (b:Ba) (p:Bq):Ba×Re:=(b,Jr (Bi9 b p))
def Bij (b:Ba) (k:Bq):Ba×Re:=(b,Lg (Bi8 (Bz b k).kind.toNat))
def Bs3 (b:Ba) (k:Bq):Ba×Re:=(b,if(Bz b k).kind=0 then Cu (-2) else if(Bz b k).till=0 then Cu (-1) else Cu ((Bz b k).till - b.now))
def Ni (e:En) (n:Int):En:=⟨e.key,n,e.kind,e.text,e.list,e.scores,e.fields⟩
def Sd (e:En) (k:Bq):En:=⟨k,e.till,e.kind,e.text,e.list,e.scores,e.fields⟩
def Ra (b:Ba) (k:Bq):Ba×Re:=Fs b (Ni (Bz b k) 0) (Ji (!decide ((Bz b k).till=0)))
def Uo (b:Ba) (k m:Bq):Ba×Re:=if(Bz b k).kind=0 then(b,Dp [110,111,110,101]) else Fs (Co b k) (Sd (Bz b k) m) Sk
def Y5 (b:Ba) (k:Bq) (n:Int):Ba×Re:=if(Bz b k).kind=0 then(b,Cu 0) else if n≤b.now then(Co b k,Cu 1) else Fs b (Ni (Bz b k) n) (Cu 1)
def Um (b:Ba) (k y:Bq):Ba×Re:=if(Fb y).2=true∧(Fb y).1≤1000000 then Y5 b k (b.now+(Fb y).1) else(b,Dp [110,117,109,98,101,114])
def Pg (b:Ba) (k y:Bq):Ba×Re:=if(Fb y).2=true∧(Fb y).1≤2000000 then Y5 b k (Fb y).1 else(b,Dp [110,117,109,98,101,114])
def Xg (ks:List Bq) (i:Nat) (s:Ba×Nat):Ba×Nat:=(Co s.1 (ks.getD i []),s.2+(if Fh s.1.ents (ks.getD i [])=true then 1 else 0))
def Bci (b:Ba) (ks:List Bq):Ba×Nat:=(List.range' 0 ks.length).foldl (fun s i=>Xg ks i s) (b,0)
def Bfi (ks:List Bq) (i:Nat) (s:Ba×Nat):Ba×Nat:=(s.1,s.2+(if Fh s.1.ents (ks.getD i [])=true then 1 else 0))
def Blm (b:Ba) (ks:List Bq):Ba×Nat:=(List.range' 0 ks.length).foldl (fun s i=>Bfi ks i s) (b,0)
def Bpm (b:Ba) (ks:List Bq):Ba×Re:=((Bci b ks).1,Cu (Bci b ks).2)
def Ul (b:Ba) (ks:List Bq):Ba×Re:=((Blm b ks).1,Cu (Blm b ks).2)
theorem Pi {b:Ba} (h:BaG b) (t:Bq):0≤(Bz b t).kind∧(Bz b t).kind≤5:=by
 rcases Bnn h t with a|a
 ·have:=(Bff a).kind;omega
 ·rw[a];simp
theorem Bf5 (b:Ba) (hb:BaG b):Bc (ev R) 171 [.d (Db b), .d (Bf [[68,66,83,73,90,69]])]=some (Bo (Xy b)):=Bb fun H=>by
 refine Bh (fn:=f171) rfl rfl ?_
 have p2:=Js b.ents.length
 obtain⟨now,ents⟩:=b
 simp(maxSteps:=1000000) [Ca,-List.getD_eq_getElem?_getD,-List.map_map,f171,Xy,p2,Bo,Cu]
theorem Bh8 (b:Ba) (hb:BaG b):Bc (ev R) 171 [.d (Db b), .d (Bf [[70,76,85,83,72]])]=some (Bo (Y2 b)):=Bb fun H=>by
 refine Bh (fn:=f171) rfl rfl ?_
 simp(maxSteps:=1000000) [Ca,-List.getD_eq_getElem?_getD,-List.map_map,f171,Y2,Bo,Sk,F6]
theorem Ble (b:Ba) (p:Bq) (hb:BaG b) (hp:p.length≤40):Bc (ev R) 171 [.d (Db b), .d (Bf [[75,69,89,83],p])]=some (Bo (Bih b p)):=Bb fun H=>by
 refine Bh (fn:=f171) rfl rfl ?_
 have p1:=B6e b p hb.sm hb.fit (by omega)
 have p2:=Xv (Bi9 b p)
 unfold Bih
 generalize Bi9 b p=ZV at*
 simp(maxSteps:=1000000) [Ca,-List.getD_eq_getElem?_getD,-List.map_map,f171,p1,p2,Bo,Jr]
theorem Blf (b:Ba) (k:Bq) (hb:BaG b) (hk:k.length≤40):Bc (ev R) 171 [.d (Db b), .d (Bf ([[84,89,80,69],k]))]=some (Bo (Bij b k)):=Bb fun H=>by
 refine Bh (fn:=f171) rfl rfl ?_
 have p1:=Jd b k hb.sm
 have kq:=Pi hb k
 have nq:=hb.now
 have q:=Dv hb (t:=k) (by omega)
 unfold Bij
 have eN:=Bv [110,117,109,98,101,114]
 have eL:=Bv [108,111,110,103]
 have eP:=Bv [112,108,97,99,101]
 have eO:=Bv [110,111,110,101]
 have no:=Gp
 generalize Bz b k=e at*
 obtain⟨key,till,kind,text,list,scores,fields⟩:=e
 obtain⟨q1,q2,q3,q4,q5,q6,q7,q8,q9,q10⟩:=q
 dsimp only[Ni,Sd,Ji] at*
 have p2:=B6f kind kq
 have p3:=Bee (Bi8 kind.toNat)
 generalize Bi8 kind.toNat=T at*
 simp(maxSteps:=1000000) [Ca,-List.getD_eq_getElem?_getD,-List.map_map,f171,p1,eN,eL,eP,eO,no,Bo,p2,p3,Lg]
theorem Bpa (b:Ba) (k:Bq) (hb:BaG b) (hk:k.length≤40):Bc (ev R) 171 [.d (Db b), .d (Bf ([[84,84,76],k]))]=some (Bo (Bs3 b k)):=Bb fun H=>by
 refine Bh (fn:=f171) rfl rfl ?_
 have p1:=Jd b k hb.sm
 have kq:=Pi hb k
 have nq:=hb.now
 have q:=Dv hb (t:=k) (by omega)
 unfold Bs3
 have eN:=Bv [110,117,109,98,101,114]
 have eL:=Bv [108,111,110,103]
 have eP:=Bv [112,108,97,99,101]
 have eO:=Bv [110,111,110,101]
 have no:=Gp
 generalize Bz b k=e at*
 obtain⟨key,till,kind,text,list,scores,fields⟩:=e
 obtain⟨q1,q2,q3,q4,q5,q6,q7,q8,q9,q10⟩:=q
 dsimp only[Ni,Sd,Ji] at*
 have i1:=Js (-2)
 have i2:=Js (-1)
 have i3:=Js (till - b.now)
 have w:IntKind.i64.wrap (till - b.now)=till - b.now:=IntWalk.i64_in _ (by omega)
 by_cases a:kind=0
 ·simp(maxSteps:=1000000) [Ca,-List.getD_eq_getElem?_getD,-List.map_map,f171,p1,eN,eL,eP,eO,no,Bo,i1,eq_true a,Cu]
 ·by_cases c:till=0
  ·simp(maxSteps:=1000000) [Ca,-List.getD_eq_getElem?_getD,-List.map_map,f171,p1,eN,eL,eP,eO,no,Bo,i2,eq_false a,eq_true c,Cu]
  ·simp(maxSteps:=1000000) [Ca,-List.getD_eq_getElem?_getD,-List.map_map,f171,p1,eN,eL,eP,eO,no,Bo,i3,eq_false a,eq_false c,w,Cu]
theorem Bde (b:Ba) (k:Bq) (hb:BaG b) (hk:k.length≤40):Bc (ev R) 171 [.d (Db b), .d (Bf ([[80,69,82,83,73,83,84],k]))]=some (Bo (Ra b k)):=Bb fun H=>by
 refine Bh (fn:=f171) rfl rfl ?_
 have p1:=Jd b k hb.sm
 have kq:=Pi hb k
 have nq:=hb.now
 have q:=Dv hb (t:=k) (by omega)
 unfold Ra
 have eN:=Bv [110,117,109,98,101,114]
 have eL:=Bv [108,111,110,103]
 have eP:=Bv [112,108,97,99,101]
 have eO:=Bv [110,111,110,101]
 have no:=Gp
 generalize Bz b k=e at*
 obtain⟨key,till,kind,text,list,scores,fields⟩:=e
 obtain⟨q1,q2,q3,q4,q5,q6,q7,q8,q9,q10⟩:=q
 dsimp only[Ni,Sd,Ji] at*
 have q:EnQ ⟨key,0,kind,text,list,scores,fields⟩:=⟨q1,q2,q3,q4,q5,q6,q7,q8,by simp,q10⟩
 have p2:=Bef (!decide (till=0))
 unfold Ji at p2
 generalize hz: (!decide (till=0))=Z at*
 have p3:=K6 b _ (Re.mk 2 (if Z=true then 1 else 0) [] [] []) hb.sm q.sm q.fit
 generalize Fs b _ _=P at*
 by_cases a:till=0
 ·subst a
  simp at hz
  subst hz
  simp only[Bool.false_eq_true,if_false] at p2 p3
  simp(maxSteps:=1000000) [Ca,-List.getD_eq_getElem?_getD,-List.map_map,f171,p1,eN,eL,eP,eO,no,Bo,p2,p3]
 ·simp[a] at hz
  subst hz
  simp only[if_true] at p2 p3
  simp(maxSteps:=1000000) [Ca,-List.getD_eq_getElem?_getD,-List.map_map,f171,p1,eN,eL,eP,eO,no,Bo,p2,p3,eq_false a]
theorem Bf8 (b:Ba) (k:Bq) (m:Bq) (hb:BaG b) (hk:k.length≤40) (hm:m.length≤40):Bc (ev R) 171 [.d (Db b), .d (Bf ([[82,69,78,65,77,69],k,m]))]=some (Bo (Uo b k m)):=Bb fun H=>by
 have pd:=Bph b k hb.sm
 have hd:=Ti hb k
 refine Bh (fn:=f171) rfl rfl ?_
 have p1:=Jd b k hb.sm
 have kq:=Pi hb k
 have nq:=hb.now
 have q:=Dv hb (t:=k) (by omega)
 unfold Uo
 have eN:=Bv [110,117,109,98,101,114]
 have eL:=Bv [108,111,110,103]
 have eP:=Bv [112,108,97,99,101]
 have eO:=Bv [110,111,110,101]
 have no:=Gp
 generalize Bz b k=e at*
 obtain⟨key,till,kind,text,list,scores,fields⟩:=e
 obtain⟨q1,q2,q3,q4,q5,q6,q7,q8,q9,q10⟩:=q
 dsimp only[Ni,Sd,Ji] at*
 generalize Co b k=B at*
 have q:EnQ ⟨m,till,kind,text,list,scores,fields⟩:=⟨by dsimp only;omega,q2,q3,q4,q5,q6,q7,q8,q9,q10⟩
 have p3:=K6 B _ Sk hd.sm q.sm q.fit
 generalize Fs B _ Sk=P at*
 unfold Sk at p3
 by_cases a:kind=0
 ·simp(maxSteps:=1000000) [Ca,-List.getD_eq_getElem?_getD,-List.map_map,f171,p1,eN,eL,eP,eO,no,Bo,eq_true a,Dp]
 ·simp(maxSteps:=1000000) [Ca,-List.getD_eq_getElem?_getD,-List.map_map,f171,p1,eN,eL,eP,eO,no,Bo,eq_false a,pd,p3]
theorem Bf7 (b:Ba) (k:Bq) (y:Bq) (hb:BaG b) (hk:k.length≤40) (hy:y.length≤40):Bc (ev R) 171 [.d (Db b), .d (Bf ([[69,88,80,73,82,69],k,y]))]=some (Bo (Um b k y)):=Bb fun H=>by
 have pd:=Bph b k hb.sm
 refine Bh (fn:=f171) rfl rfl ?_
 have p1:=Jd b k hb.sm
 have kq:=Pi hb k
 have nq:=hb.now
 have q:=Dv hb (t:=k) (by omega)
 unfold Um Y5
 have eN:=Bv [110,117,109,98,101,114]
 have eL:=Bv [108,111,110,103]
 have eP:=Bv [112,108,97,99,101]
 have eO:=Bv [110,111,110,101]
 have no:=Gp
 generalize Bz b k=e at*
 obtain⟨key,till,kind,text,list,scores,fields⟩:=e
 obtain⟨q1,q2,q3,q4,q5,q6,q7,q8,q9,q10⟩:=q
 dsimp only[Ni,Sd,Ji] at*
 have i0:=Jq y
 have pi0:=Ml y (by omega)
 generalize Fb y=I0 at*
 obtain⟨n0,o0⟩:=I0
 dsimp only at*
 generalize Co b k=B at*
 have j0:=Js 0
 have j1:=Js 1
 cases o0
 ·simp(maxSteps:=1000000) [Ca,-List.getD_eq_getElem?_getD,-List.map_map,f171,p1,eN,eL,eP,eO,no,Bo,pi0,Dp]
 by_cases a:n0≤1000000
 rotate_left
 ·have a1:1000000<n0:=by omega
  have a2: (1000000:Int)<n0:=by omega
  simp(maxSteps:=1000000) [Ca,-List.getD_eq_getElem?_getD,-List.map_map,f171,p1,eN,eL,eP,eO,no,Bo,pi0,eq_false a,a1,a2,Dp]
 have a1: ¬1000000<n0:=by omega
 have a2: ¬ (2000000:Int)<n0:=by omega
 have w:IntKind.i64.wrap (b.now+n0)=b.now+n0:=IntWalk.i64_in _ (by omega)
 skip
 ·by_cases c:kind=0
  ·simp(maxSteps:=1000000) [Ca,-List.getD_eq_getElem?_getD,-List.map_map,f171,p1,eN,eL,eP,eO,no,Bo,pi0,eq_true a,a1,a2,w,eq_true c,j0,Cu,a1]
  by_cases d: (b.now+n0)≤b.now
  ·simp(maxSteps:=1000000) [Ca,-List.getD_eq_getElem?_getD,-List.map_map,f171,p1,eN,eL,eP,eO,no,Bo,pi0,eq_true a,a1,a2,w,eq_false c,eq_true d,pd,j1,Cu,a1]
  have q:EnQ ⟨key,(b.now+n0),kind,text,list,scores,fields⟩:=⟨q1,q2,q3,q4,q5,q6,q7,q8,by dsimp only;omega,q10⟩
  have p3:=K6 b _ (Cu 1) hb.sm q.sm q.fit
  generalize Fs b _ (Cu 1)=P at*
  unfold Cu at p3
  simp(maxSteps:=1000000) [Ca,-List.getD_eq_getElem?_getD,-List.map_map,f171,p1,eN,eL,eP,eO,no,Bo,pi0,eq_true a,a1,a2,w,eq_false c,eq_false d,j1,p3,a1]
theorem Bcd (b:Ba) (k:Bq) (y:Bq) (hb:BaG b) (hk:k.length≤40) (hy:y.length≤40):Bc (ev R) 171 [.d (Db b), .d (Bf ([[69,88,80,73,82,69,65,84],k,y]))]=some (Bo (Pg b k y)):=Bb fun H=>by
 have pd:=Bph b k hb.sm
 refine Bh (fn:=f171) rfl rfl ?_
 have p1:=Jd b k hb.sm
 have kq:=Pi hb k
 have nq:=hb.now
 have q:=Dv hb (t:=k) (by omega)
 unfold Pg Y5
 have eN:=Bv [110,117,109,98,101,114]
 have eL:=Bv [108,111,110,103]
 have eP:=Bv [112,108,97,99,101]
 have eO:=Bv [110,111,110,101]
 have no:=Gp
 generalize Bz b k=e at*
 obtain⟨key,till,kind,text,list,scores,fields⟩:=e
 obtain⟨q1,q2,q3,q4,q5,q6,q7,q8,q9,q10⟩:=q
 dsimp only[Ni,Sd,Ji] at*
 have i0:=Jq y
 have pi0:=Ml y (by omega)
 generalize Fb y=I0 at*
 obtain⟨n0,o0⟩:=I0
 dsimp only at*
 generalize Co b k=B at*
 have j0:=Js 0
 have j1:=Js 1
 cases o0
 ·simp(maxSteps:=1000000) [Ca,-List.getD_eq_getElem?_getD,-List.map_map,f171,p1,eN,eL,eP,eO,no,Bo,pi0,Dp]
 by_cases a:n0≤2000000
 rotate_left
 ·have a1:2000000<n0:=by omega
  have a2: (1000000:Int)<n0:=by omega
  simp(maxSteps:=1000000) [Ca,-List.getD_eq_getElem?_getD,-List.map_map,f171,p1,eN,eL,eP,eO,no,Bo,pi0,eq_false a,a1,a2,Dp]
 have a1: ¬2000000<n0:=by omega
 have a2: ¬ (2000000:Int)<n0:=by omega
 have w:IntKind.i64.wrap (b.now+n0)=b.now+n0:=IntWalk.i64_in _ (by omega)
 by_cases e1: (1000000:Int)<n0
 all_goals
  by_cases c:kind=0
  ·simp(maxSteps:=1000000) [Ca,-List.getD_eq_getElem?_getD,-List.map_map,f171,p1,eN,eL,eP,eO,no,Bo,pi0,eq_true a,a1,a2,w,eq_true c,j0,Cu,e1]
  by_cases d:n0≤b.now
  ·simp(maxSteps:=1000000) [Ca,-List.getD_eq_getElem?_getD,-List.map_map,f171,p1,eN,eL,eP,eO,no,Bo,pi0,eq_true a,a1,a2,w,eq_false c,eq_true d,pd,j1,Cu,e1]
  have q:EnQ ⟨key,n0,kind,text,list,scores,fields⟩:=⟨q1,q2,q3,q4,q5,q6,q7,q8,by dsimp only;omega,q10⟩
  have p3:=K6 b _ (Cu 1) hb.sm q.sm q.fit
  generalize Fs b _ (Cu 1)=P at*
  unfold Cu at p3
  simp(maxSteps:=1000000) [Ca,-List.getD_eq_getElem?_getD,-List.map_map,f171,p1,eN,eL,eP,eO,no,Bo,pi0,eq_true a,a1,a2,w,eq_false c,eq_false d,j1,p3,e1]
theorem Boi (ks:List Bq) (i:Nat) (s:Ba×Nat) (h:BaG s.1):BaG (Xg ks i s).1:=Ti h _
theorem Bow (H:Hp) (A B C:Ev.Obj) (b:Ba) (ks:List Bq) (hb:BaG b) (hk:ks.length≤1000):
  Gives (fun o e X=>o= .exit 1∧X=ap H [A,B,C, .row 0 2 [.d (Db (Bci b ks).1)]]∧e.get 4= .ptr (Be H+1) 0 0 0∧e.get 5= .ptr (Be H+2) 0 0 0∧e.get 6= .d (.int .i64 (Bci b ks).2)∧e.get 7= .ptr (Be H+3) 0 0 0)
   (Bg (Bp (ev R) R.glob (Be H) Bg Po) [1,4,5,6,7,8] ⟨[(1, .d (Bf ([68,69,76]::ks))),(4, .ptr (Be H+1) 0 0 0),(5, .ptr (Be H+2) 0 0 0),(6, .d (.int .i64 0)),(7, .ptr (Be H+3) 0 0 0),(8, .d (.int .i64 1))],ap H [A,B,C, .row 0 2 [.d (Db b)]]⟩):=by
 refine Xr (F:=Bp (ev R) R.glob (Be H) Bg Po) (lv:=[1,4,5,6,7,8]) (Xg ks) ks.length
  (fun i s e X=>BaG s.1∧s.2≤i∧X=ap H [A,B,C, .row 0 2 [.d (Db s.1)]]∧e.get 1= .d (Bf ([68,69,76]::ks))∧e.get 4= .ptr (Be H+1) 0 0 0∧e.get 5= .ptr (Be H+2) 0 0 0∧e.get 6= .d (.int .i64 s.2)∧e.get 7= .ptr (Be H+3) 0 0 0∧e.get 8= .d (.int .i64 ((i:Int)+1)))
  (fun s o e X=>o= .exit 1∧X=ap H [A,B,C, .row 0 2 [.d (Db s.1)]]∧e.get 4= .ptr (Be H+1) 0 0 0∧e.get 5= .ptr (Be H+2) 0 0 0∧e.get 6= .d (.int .i64 s.2)∧e.get 7= .ptr (Be H+3) 0 0 0)
  ?_ ?_ ks.length 0 (b,0) _ _ (by omega) ⟨hb,by simp,rfl,rfl,rfl,rfl,rfl,rfl,rfl⟩
 ·rintro⟨B1,n⟩ e X ⟨hg,hn,rfl,g1,g4,g5,g6,g7,g8⟩
  dsimp only at*
  simp(maxSteps:=1000000) [Ca,-List.getD_eq_getElem?_getD,-List.map_map,Po,g1,g4,g5,g6,g7,g8]
 ·rintro i ⟨B1,n⟩ e X hi ⟨hg,hn,rfl,g1,g4,g5,g6,g7,g8⟩
  dsimp only at*
  have c: (i:Int)< (ks.length:Int):=by omega
  have c0: (0:Int)≤(i:Int)+1:=by omega
  have c1: (i:Int)+1< (ks.length:Int)+1:=by omega
  have c2: ((i:Int)+1).toNat=i+1:=by omega
  have c3: (0:Int)< (ks.length:Int)+1:=by omega
  have g:=Dt ks i hi
  have gg: ∀x:D,(x::ks.map D.str).getD (i+1) .nilp= .str (ks.getD i []):=fun x=>by rw[←g];rfl
  have w1:IntKind.i64.wrap ((i:Int)+1+1)=(i:Int)+1+1:=IntWalk.i64_in _ (by omega)
  have w2:IntKind.i64.wrap ((n:Int)+1)=(n:Int)+1:=IntWalk.i64_in _ (by omega)
  have p1:=Bpc B1 (ks.getD i []) hg.sm.len
  have p2:=Bph B1 (ks.getD i []) hg.sm
  have hs:=Ti hg (ks.getD i [])
  unfold Xg
  generalize ks.getD i []=k at*
  generalize Co B1 k=B2 at*
  have n1:n+1≤i+1:=by omega
  have n2:n≤i+1:=by omega
  cases hh:Fh B1.ents k with
  |false=>
   rw[hh] at p1
   simp(maxSteps:=1000000) [Ca,-List.getD_eq_getElem?_getD,-List.map_map,Po,g1,g4,g5,g6,g7,g8,c,c0,c1,c2,c3,hi,g,gg,w1,w2,p1,p2,hs,hg,n2,hh]
  |true=>
   rw[hh] at p1
   simp(maxSteps:=1000000) [Ca,-List.getD_eq_getElem?_getD,-List.map_map,Po,g1,g4,g5,g6,g7,g8,c,c0,c1,c2,c3,hi,g,gg,w1,w2,p1,p2,hs,hg,n1,hh]
theorem Bo9 (b:Ba) (ks:List Bq) (hb:BaG b) (hk:ks.length≤1000):Bc (ev R) 171 [.d (Db b), .d (Bf ([68,69,76]::ks))]=some (Bo (Bpm b ks)):=Bb fun H=>by
 refine Bh (fn:=f171) rfl rfl ?_
 have lp:=fun A B C=> (Bow H A B C b ks hb hk).out
 unfold Bpm
 generalize Bci b ks=S at*
 obtain⟨B1,n⟩:=S
 dsimp only at*
 have p2:=Js n
 have c3: (0:Int)< (ks.length:Int)+1:=by omega
 obtain⟨o,e',X',he,rfl,rfl,g4,g5,g6,g7⟩:=lp (.row 0 2 [.d (Db b)]) (.row 0 2 [.agg [.d (.int .i64 0), .nils 7]]) (.row 0 5 [.agg [.d (.int .i64 0), .d (.int .i64 0), .d (.str []), .nils 1, .nils 5]])
 simp only[Bf,List.map_cons] at he
 simp(maxSteps:=1000000) [Ca,-List.getD_eq_getElem?_getD,-List.map_map,f171,p2,he,c3,g4,g5,g6,g7,Bo,Cu]
theorem Bft (H:Hp) (A B C:Ev.Obj) (b:Ba) (ks:List Bq) (hb:BaG b) (hk:ks.length≤1000):
  Gives (fun o e X=>o= .exit 1∧X=ap H [A,B,C, .row 0 2 [.d (Db (Blm b ks).1)]]∧e.get 4= .ptr (Be H+1) 0 0 0∧e.get 5= .ptr (Be H+2) 0 0 0∧e.get 6= .d (.int .i64 (Blm b ks).2)∧e.get 7= .ptr (Be H+3) 0 0 0)
   (Bg (Bp (ev R) R.glob (Be H) Bg Po) [1,4,5,6,7,8] ⟨[(1, .d (Bf ([69,88,73,83,84,83]::ks))),(4, .ptr (Be H+1) 0 0 0),(5, .ptr (Be H+2) 0 0 0),(6, .d (.int .i64 0)),(7, .ptr (Be H+3) 0 0 0),(8, .d (.int .i64 1))],ap H [A,B,C, .row 0 2 [.d (Db b)]]⟩):=by
 refine Xr (F:=Bp (ev R) R.glob (Be H) Bg Po) (lv:=[1,4,5,6,7,8]) (Bfi ks) ks.length
  (fun i s e X=>BaG s.1∧s.2≤i∧X=ap H [A,B,C, .row 0 2 [.d (Db s.1)]]∧e.get 1= .d (Bf ([69,88,73,83,84,83]::ks))∧e.get 4= .ptr (Be H+1) 0 0 0∧e.get 5= .ptr (Be H+2) 0 0 0∧e.get 6= .d (.int .i64 s.2)∧e.get 7= .ptr (Be H+3) 0 0 0∧e.get 8= .d (.int .i64 ((i:Int)+1)))
  (fun s o e X=>o= .exit 1∧X=ap H [A,B,C, .row 0 2 [.d (Db s.1)]]∧e.get 4= .ptr (Be H+1) 0 0 0∧e.get 5= .ptr (Be H+2) 0 0 0∧e.get 6= .d (.int .i64 s.2)∧e.get 7= .ptr (Be H+3) 0 0 0)
  ?_ ?_ ks.length 0 (b,0) _ _ (by omega) ⟨hb,by simp,rfl,rfl,rfl,rfl,rfl,rfl,rfl⟩
 ·rintro⟨B1,n⟩ e X ⟨hg,hn,rfl,g1,g4,g5,g6,g7,g8⟩
  dsimp only at*
  simp(maxSteps:=1000000) [Ca,-List.getD_eq_getElem?_getD,-List.map_map,Po,g1,g4,g5,g6,g7,g8]
 ·rintro i ⟨B1,n⟩ e X hi ⟨hg,hn,rfl,g1,g4,g5,g6,g7,g8⟩
  dsimp only at*
  have c: (i:Int)< (ks.length:Int):=by omega
  have c0: (0:Int)≤(i:Int)+1:=by omega
  have c1: (i:Int)+1< (ks.length:Int)+1:=by omega
  have c2: ((i:Int)+1).toNat=i+1:=by omega
  have c3: (0:Int)< (ks.length:Int)+1:=by omega
  have g:=Dt ks i hi
  have gg: ∀x:D,(x::ks.map D.str).getD (i+1) .nilp= .str (ks.getD i []):=fun x=>by rw[←g];rfl
  have w1:IntKind.i64.wrap ((i:Int)+1+1)=(i:Int)+1+1:=IntWalk.i64_in _ (by omega)
  have w2:IntKind.i64.wrap ((n:Int)+1)=(n:Int)+1:=IntWalk.i64_in _ (by omega)
  have p1:=Bpc B1 (ks.getD i []) hg.sm.len
  have p2:=Bph B1 (ks.getD i []) hg.sm
  have hs:=Ti hg (ks.getD i [])
  unfold Bfi
  generalize ks.getD i []=k at*
  generalize Co B1 k=B2 at*
  have n1:n+1≤i+1:=by omega
  have n2:n≤i+1:=by omega
  cases hh:Fh B1.ents k with
  |false=>
   rw[hh] at p1
   simp(maxSteps:=1000000) [Ca,-List.getD_eq_getElem?_getD,-List.map_map,Po,g1,g4,g5,g6,g7,g8,c,c0,c1,c2,c3,hi,g,gg,w1,w2,p1,p2,hs,hg,n2,hh]
  |true=>
   rw[hh] at p1
   simp(maxSteps:=1000000) [Ca,-List.getD_eq_getElem?_getD,-List.map_map,Po,g1,g4,g5,g6,g7,g8,c,c0,c1,c2,c3,hi,g,gg,w1,w2,p1,p2,hs,hg,n1,hh]
theorem Bf6 (b:Ba) (ks:List Bq) (hb:BaG b) (hk:ks.length≤1000):Bc (ev R) 171 [.d (Db b), .d (Bf ([69,88,73,83,84,83]::ks))]=some (Bo (Ul b ks)):=Bb fun H=>by
 refine Bh (fn:=f171) rfl rfl ?_
 have lp:=fun A B C=> (Bft H A B C b ks hb hk).out
 unfold Ul
 generalize Blm b ks=S at*
 obtain⟨B1,n⟩:=S
 dsimp only at*
 have p2:=Js n
 have c3: (0:Int)< (ks.length:Int)+1:=by omega
 obtain⟨o,e',X',he,rfl,rfl,g4,g5,g6,g7⟩:=lp (.row 0 2 [.d (Db b)]) (.row 0 2 [.agg [.d (.int .i64 0), .nils 7]]) (.row 0 5 [.agg [.d (.int .i64 0), .d (.int .i64 0), .d (.str []), .nils 1, .nils 5]])
 simp only[Bf,List.map_cons] at he
 simp(maxSteps:=1000000) [Ca,-List.getD_eq_getElem?_getD,-List.map_map,f171,p2,he,c3,g4,g5,g6,g7,Bo,Cu]
end Go.Proofs.YtpajcoanfkeibaaGreatDoor.Code

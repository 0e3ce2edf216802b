/- Lemmas (several texts in one). -/
import Derived.Test.YtpajcoanfkeibaaGreatDoorMDoRename6
import Derived.Test.YtpajcoanfkeibaaGreatDoorMDoRename21
import Derived.Test.YtpajcoanfkeibaaGreatDoorMDoRename29
set_option maxRecDepth 100000
set_option maxHeartbeats 2000000
set_option linter.unusedSimpArgs false
set_option linter.unusedVariables false
namespace Go.Proofs.YtpajcoanfkeibaaGreatDoor.Code
open Go Go.Ev Go.Proofs
def Xr (b:Ba):Ba×Re:=(b,Ct b.ents.length)
def Yx (b:Ba):Ba×Re:=(⟨b.now,[]⟩,R7)
def Bh1 (b:Ba) (p:Bq):Ba×Re:=(b,Jh (Bis b p))
def Bh3 (b:Ba) (k:Bq):Ba×Re:=(b,K6 (Bir (Bw b k).kind.toNat))
def Bsk (b:Ba) (k:Bq):Ba×Re:=(b,if(Bw b k).kind=0 then Ct (-2) else if(Bw b k).till=0 then Ct (-1) else Ct ((Bw b k).till - b.now))
def M4 (e:En) (n:Int):En:=⟨e.key,n,e.kind,e.text,e.list,e.scores,e.fields⟩
def R4 (e:En) (k:Bq):En:=⟨k,e.till,e.kind,e.text,e.list,e.scores,e.fields⟩
def Q3 (b:Ba) (k:Bq):Ba×Re:=Fb b (M4 (Bw b k) 0) (G9 (!decide ((Bw b k).till=0)))
def Ud (b:Ba) (k m:Bq):Ba×Re:=if(Bw b k).kind=0 then(b,Dh [110,111,110,101]) else Fb (Cb b k) (R4 (Bw b k) m) R7
def Y0 (b:Ba) (k:Bq) (n:Int):Ba×Re:=if(Bw b k).kind=0 then(b,Ct 0) else if n≤b.now then(Cb b k,Ct 1) else Fb b (M4 (Bw b k) n) (Ct 1)
def Ub (b:Ba) (k y:Bq):Ba×Re:=if(Dx y).2=true∧(Dx y).1≤1000000 then Y0 b k (b.now+(Dx y).1) else(b,Dh [110,117,109,98,101,114])
def N8 (b:Ba) (k y:Bq):Ba×Re:=if(Dx y).2=true∧(Dx y).1≤2000000 then Y0 b k (Dx y).1 else(b,Dh [110,117,109,98,101,114])
def Xa (ks:List Bq) (i:Nat) (s:Ba×Nat):Ba×Nat:=(Cb s.1 (ks.getD i []),s.2+(if Fg s.1.ents (ks.getD i [])=true then 1 else 0))
def Bca (b:Ba) (ks:List Bq):Ba×Nat:=(List.range' 0 ks.length).foldl (fun s i=>Xa ks i s) (b,0)
def Be2 (ks:List Bq) (i:Nat) (s:Ba×Nat):Ba×Nat:=(s.1,s.2+(if Fg s.1.ents (ks.getD i [])=true then 1 else 0))
def Bk1 (b:Ba) (ks:List Bq):Ba×Nat:=(List.range' 0 ks.length).foldl (fun s i=>Be2 ks i s) (b,0)
def Bo6 (b:Ba) (ks:List Bq):Ba×Re:=((Bca b ks).1,Ct (Bca b ks).2)
def Ua (b:Ba) (ks:List Bq):Ba×Re:=((Bk1 b ks).1,Ct (Bk1 b ks).2)
theorem Pb {b:Ba} (h:BaG b) (t:Bq):0≤(Bw b t).kind∧(Bw b t).kind≤5:=by
 rcases Bm3 h t with a|a
 ·have:=(Bez a).kind;omega
 ·rw[a];simp
theorem Bfq (b:Ba) (hb:BaG b):Be (ev R) 171 [.d (Df b), .d (Bf [[68,66,83,73,90,69]])]=some (Bl (Xr b)):=Bb fun H=>by
 refine Bh (fn:=f171) rfl rfl ?_
 have p2:=Ji b.ents.length
 obtain⟨now,ents⟩:=b
 simp(maxSteps:=1000000) [Ce,-List.getD_eq_getElem?_getD,-List.map_map,f171,Xr,p2,Bl,Ct]
theorem Bht (b:Ba) (hb:BaG b):Be (ev R) 171 [.d (Df b), .d (Bf [[70,76,85,83,72]])]=some (Bl (Yx b)):=Bb fun H=>by
 refine Bh (fn:=f171) rfl rfl ?_
 simp(maxSteps:=1000000) [Ce,-List.getD_eq_getElem?_getD,-List.map_map,f171,Yx,Bl,R7,Fx]
theorem Bku (b:Ba) (p:Bq) (hb:BaG b) (hp:p.length≤40):Be (ev R) 171 [.d (Df b), .d (Bf [[75,69,89,83],p])]=some (Bl (Bh1 b p)):=Bb fun H=>by
 refine Bh (fn:=f171) rfl rfl ?_
 have p1:=B45 b p hb.sm hb.fit (by omega)
 have p2:=Xo (Bis b p)
 unfold Bh1
 generalize Bis b p=ZV at*
 simp(maxSteps:=1000000) [Ce,-List.getD_eq_getElem?_getD,-List.map_map,f171,p1,p2,Bl,Jh]
theorem Bkv (b:Ba) (k:Bq) (hb:BaG b) (hk:k.length≤40):Be (ev R) 171 [.d (Df b), .d (Bf ([[84,89,80,69],k]))]=some (Bl (Bh3 b k)):=Bb fun H=>by
 refine Bh (fn:=f171) rfl rfl ?_
 have p1:=Gz b k hb.sm
 have kq:=Pb hb k
 have nq:=hb.now
 have q:=Dm hb (t:=k) (by omega)
 unfold Bh3
 have eN:=Bv [110,117,109,98,101,114]
 have eL:=Bv [108,111,110,103]
 have eP:=Bv [112,108,97,99,101]
 have eO:=Bv [110,111,110,101]
 have no:=Gm
 generalize Bw b k=e at*
 obtain⟨key,till,kind,text,list,scores,fields⟩:=e
 obtain⟨q1,q2,q3,q4,q5,q6,q7,q8,q9,q10⟩:=q
 dsimp only[M4,R4,G9] at*
 have p2:=B46 kind kq
 have p3:=Bd0 (Bir kind.toNat)
 generalize Bir kind.toNat=T at*
 simp(maxSteps:=1000000) [Ce,-List.getD_eq_getElem?_getD,-List.map_map,f171,p1,eN,eL,eP,eO,no,Bl,p2,p3,K6]
theorem Bou (b:Ba) (k:Bq) (hb:BaG b) (hk:k.length≤40):Be (ev R) 171 [.d (Df b), .d (Bf ([[84,84,76],k]))]=some (Bl (Bsk b k)):=Bb fun H=>by
 refine Bh (fn:=f171) rfl rfl ?_
 have p1:=Gz b k hb.sm
 have kq:=Pb hb k
 have nq:=hb.now
 have q:=Dm hb (t:=k) (by omega)
 unfold Bsk
 have eN:=Bv [110,117,109,98,101,114]
 have eL:=Bv [108,111,110,103]
 have eP:=Bv [112,108,97,99,101]
 have eO:=Bv [110,111,110,101]
 have no:=Gm
 generalize Bw b k=e at*
 obtain⟨key,till,kind,text,list,scores,fields⟩:=e
 obtain⟨q1,q2,q3,q4,q5,q6,q7,q8,q9,q10⟩:=q
 dsimp only[M4,R4,G9] at*
 have i1:=Ji (-2)
 have i2:=Ji (-1)
 have i3:=Ji (till - b.now)
 have w:IntKind.i64.wrap (till - b.now)=till - b.now:=IntWalk.i64_in _ (by omega)
 by_cases a:kind=0
 ·simp(maxSteps:=1000000) [Ce,-List.getD_eq_getElem?_getD,-List.map_map,f171,p1,eN,eL,eP,eO,no,Bl,i1,eq_true a,Ct]
 ·by_cases c:till=0
  ·simp(maxSteps:=1000000) [Ce,-List.getD_eq_getElem?_getD,-List.map_map,f171,p1,eN,eL,eP,eO,no,Bl,i2,eq_false a,eq_true c,Ct]
  ·simp(maxSteps:=1000000) [Ce,-List.getD_eq_getElem?_getD,-List.map_map,f171,p1,eN,eL,eP,eO,no,Bl,i3,eq_false a,eq_false c,w,Ct]
theorem Bc3 (b:Ba) (k:Bq) (hb:BaG b) (hk:k.length≤40):Be (ev R) 171 [.d (Df b), .d (Bf ([[80,69,82,83,73,83,84],k]))]=some (Bl (Q3 b k)):=Bb fun H=>by
 refine Bh (fn:=f171) rfl rfl ?_
 have p1:=Gz b k hb.sm
 have kq:=Pb hb k
 have nq:=hb.now
 have q:=Dm hb (t:=k) (by omega)
 unfold Q3
 have eN:=Bv [110,117,109,98,101,114]
 have eL:=Bv [108,111,110,103]
 have eP:=Bv [112,108,97,99,101]
 have eO:=Bv [110,111,110,101]
 have no:=Gm
 generalize Bw b k=e at*
 obtain⟨key,till,kind,text,list,scores,fields⟩:=e
 obtain⟨q1,q2,q3,q4,q5,q6,q7,q8,q9,q10⟩:=q
 dsimp only[M4,R4,G9] at*
 have q:EnQ ⟨key,0,kind,text,list,scores,fields⟩:=⟨q1,q2,q3,q4,q5,q6,q7,q8,by simp,q10⟩
 have p2:=Bd1 (!decide (till=0))
 unfold G9 at p2
 generalize hz: (!decide (till=0))=Z at*
 have p3:=Kt b _ (Re.mk 2 (if Z=true then 1 else 0) [] [] []) hb.sm q.sm q.fit
 generalize Fb b _ _=P at*
 by_cases a:till=0
 ·subst a
  simp at hz
  subst hz
  simp only[Bool.false_eq_true,if_false] at p2 p3
  simp(maxSteps:=1000000) [Ce,-List.getD_eq_getElem?_getD,-List.map_map,f171,p1,eN,eL,eP,eO,no,Bl,p2,p3]
 ·simp[a] at hz
  subst hz
  simp only[if_true] at p2 p3
  simp(maxSteps:=1000000) [Ce,-List.getD_eq_getElem?_getD,-List.map_map,f171,p1,eN,eL,eP,eO,no,Bl,p2,p3,eq_false a]
theorem Bft (b:Ba) (k:Bq) (m:Bq) (hb:BaG b) (hk:k.length≤40) (hm:m.length≤40):Be (ev R) 171 [.d (Df b), .d (Bf ([[82,69,78,65,77,69],k,m]))]=some (Bl (Ud b k m)):=Bb fun H=>by
 have pd:=Bo1 b k hb.sm
 have hd:=Sy hb k
 refine Bh (fn:=f171) rfl rfl ?_
 have p1:=Gz b k hb.sm
 have kq:=Pb hb k
 have nq:=hb.now
 have q:=Dm hb (t:=k) (by omega)
 unfold Ud
 have eN:=Bv [110,117,109,98,101,114]
 have eL:=Bv [108,111,110,103]
 have eP:=Bv [112,108,97,99,101]
 have eO:=Bv [110,111,110,101]
 have no:=Gm
 generalize Bw b k=e at*
 obtain⟨key,till,kind,text,list,scores,fields⟩:=e
 obtain⟨q1,q2,q3,q4,q5,q6,q7,q8,q9,q10⟩:=q
 dsimp only[M4,R4,G9] at*
 generalize Cb b k=B at*
 have q:EnQ ⟨m,till,kind,text,list,scores,fields⟩:=⟨by dsimp only;omega,q2,q3,q4,q5,q6,q7,q8,q9,q10⟩
 have p3:=Kt B _ R7 hd.sm q.sm q.fit
 generalize Fb B _ R7=P at*
 unfold R7 at p3
 by_cases a:kind=0
 ·simp(maxSteps:=1000000) [Ce,-List.getD_eq_getElem?_getD,-List.map_map,f171,p1,eN,eL,eP,eO,no,Bl,eq_true a,Dh]
 ·simp(maxSteps:=1000000) [Ce,-List.getD_eq_getElem?_getD,-List.map_map,f171,p1,eN,eL,eP,eO,no,Bl,eq_false a,pd,p3]
theorem Bfs (b:Ba) (k:Bq) (y:Bq) (hb:BaG b) (hk:k.length≤40) (hy:y.length≤40):Be (ev R) 171 [.d (Df b), .d (Bf ([[69,88,80,73,82,69],k,y]))]=some (Bl (Ub b k y)):=Bb fun H=>by
 have pd:=Bo1 b k hb.sm
 refine Bh (fn:=f171) rfl rfl ?_
 have p1:=Gz b k hb.sm
 have kq:=Pb hb k
 have nq:=hb.now
 have q:=Dm hb (t:=k) (by omega)
 unfold Ub Y0
 have eN:=Bv [110,117,109,98,101,114]
 have eL:=Bv [108,111,110,103]
 have eP:=Bv [112,108,97,99,101]
 have eO:=Bv [110,111,110,101]
 have no:=Gm
 generalize Bw b k=e at*
 obtain⟨key,till,kind,text,list,scores,fields⟩:=e
 obtain⟨q1,q2,q3,q4,q5,q6,q7,q8,q9,q10⟩:=q
 dsimp only[M4,R4,G9] at*
 have i0:=Jg y
 have pi0:=L6 y (by omega)
 generalize Dx y=I0 at*
 obtain⟨n0,o0⟩:=I0
 dsimp only at*
 generalize Cb b k=B at*
 have j0:=Ji 0
 have j1:=Ji 1
 cases o0
 ·simp(maxSteps:=1000000) [Ce,-List.getD_eq_getElem?_getD,-List.map_map,f171,p1,eN,eL,eP,eO,no,Bl,pi0,Dh]
 by_cases a:n0≤1000000
 rotate_left
 ·have a1:1000000<n0:=by omega
  have a2: (1000000:Int)<n0:=by omega
  simp(maxSteps:=1000000) [Ce,-List.getD_eq_getElem?_getD,-List.map_map,f171,p1,eN,eL,eP,eO,no,Bl,pi0,eq_false a,a1,a2,Dh]
 have a1: ¬1000000<n0:=by omega
 have a2: ¬ (2000000:Int)<n0:=by omega
 have w:IntKind.i64.wrap (b.now+n0)=b.now+n0:=IntWalk.i64_in _ (by omega)
 skip
 ·by_cases c:kind=0
  ·simp(maxSteps:=1000000) [Ce,-List.getD_eq_getElem?_getD,-List.map_map,f171,p1,eN,eL,eP,eO,no,Bl,pi0,eq_true a,a1,a2,w,eq_true c,j0,Ct,a1]
  by_cases d: (b.now+n0)≤b.now
  ·simp(maxSteps:=1000000) [Ce,-List.getD_eq_getElem?_getD,-List.map_map,f171,p1,eN,eL,eP,eO,no,Bl,pi0,eq_true a,a1,a2,w,eq_false c,eq_true d,pd,j1,Ct,a1]
  have q:EnQ ⟨key,(b.now+n0),kind,text,list,scores,fields⟩:=⟨q1,q2,q3,q4,q5,q6,q7,q8,by dsimp only;omega,q10⟩
  have p3:=Kt b _ (Ct 1) hb.sm q.sm q.fit
  generalize Fb b _ (Ct 1)=P at*
  unfold Ct at p3
  simp(maxSteps:=1000000) [Ce,-List.getD_eq_getElem?_getD,-List.map_map,f171,p1,eN,eL,eP,eO,no,Bl,pi0,eq_true a,a1,a2,w,eq_false c,eq_false d,j1,p3,a1]
theorem Bb4 (b:Ba) (k:Bq) (y:Bq) (hb:BaG b) (hk:k.length≤40) (hy:y.length≤40):Be (ev R) 171 [.d (Df b), .d (Bf ([[69,88,80,73,82,69,65,84],k,y]))]=some (Bl (N8 b k y)):=Bb fun H=>by
 have pd:=Bo1 b k hb.sm
 refine Bh (fn:=f171) rfl rfl ?_
 have p1:=Gz b k hb.sm
 have kq:=Pb hb k
 have nq:=hb.now
 have q:=Dm hb (t:=k) (by omega)
 unfold N8 Y0
 have eN:=Bv [110,117,109,98,101,114]
 have eL:=Bv [108,111,110,103]
 have eP:=Bv [112,108,97,99,101]
 have eO:=Bv [110,111,110,101]
 have no:=Gm
 generalize Bw b k=e at*
 obtain⟨key,till,kind,text,list,scores,fields⟩:=e
 obtain⟨q1,q2,q3,q4,q5,q6,q7,q8,q9,q10⟩:=q
 dsimp only[M4,R4,G9] at*
 have i0:=Jg y
 have pi0:=L6 y (by omega)
 generalize Dx y=I0 at*
 obtain⟨n0,o0⟩:=I0
 dsimp only at*
 generalize Cb b k=B at*
 have j0:=Ji 0
 have j1:=Ji 1
 cases o0
 ·simp(maxSteps:=1000000) [Ce,-List.getD_eq_getElem?_getD,-List.map_map,f171,p1,eN,eL,eP,eO,no,Bl,pi0,Dh]
 by_cases a:n0≤2000000
 rotate_left
 ·have a1:2000000<n0:=by omega
  have a2: (1000000:Int)<n0:=by omega
  simp(maxSteps:=1000000) [Ce,-List.getD_eq_getElem?_getD,-List.map_map,f171,p1,eN,eL,eP,eO,no,Bl,pi0,eq_false a,a1,a2,Dh]
 have a1: ¬2000000<n0:=by omega
 have a2: ¬ (2000000:Int)<n0:=by omega
 have w:IntKind.i64.wrap (b.now+n0)=b.now+n0:=IntWalk.i64_in _ (by omega)
 by_cases e1: (1000000:Int)<n0
 all_goals
  by_cases c:kind=0
  ·simp(maxSteps:=1000000) [Ce,-List.getD_eq_getElem?_getD,-List.map_map,f171,p1,eN,eL,eP,eO,no,Bl,pi0,eq_true a,a1,a2,w,eq_true c,j0,Ct,e1]
  by_cases d:n0≤b.now
  ·simp(maxSteps:=1000000) [Ce,-List.getD_eq_getElem?_getD,-List.map_map,f171,p1,eN,eL,eP,eO,no,Bl,pi0,eq_true a,a1,a2,w,eq_false c,eq_true d,pd,j1,Ct,e1]
  have q:EnQ ⟨key,n0,kind,text,list,scores,fields⟩:=⟨q1,q2,q3,q4,q5,q6,q7,q8,by dsimp only;omega,q10⟩
  have p3:=Kt b _ (Ct 1) hb.sm q.sm q.fit
  generalize Fb b _ (Ct 1)=P at*
  unfold Ct at p3
  simp(maxSteps:=1000000) [Ce,-List.getD_eq_getElem?_getD,-List.map_map,f171,p1,eN,eL,eP,eO,no,Bl,pi0,eq_true a,a1,a2,w,eq_false c,eq_false d,j1,p3,e1]
theorem Bn3 (ks:List Bq) (i:Nat) (s:Ba×Nat) (h:BaG s.1):BaG (Xa ks i s).1:=Sy h _
theorem Bog (H:Hp) (A B C:Ev.Obj) (b:Ba) (ks:List Bq) (hb:BaG b) (hk:ks.length≤1000):
  Gives (fun o e X=>o= .exit 1∧X=ap H [A,B,C, .row 0 2 [.d (Df (Bca b ks).1)]]∧e.get 4= .ptr (Bc H+1) 0 0 0∧e.get 5= .ptr (Bc H+2) 0 0 0∧e.get 6= .d (.int .i64 (Bca b ks).2)∧e.get 7= .ptr (Bc H+3) 0 0 0)
   (Bg (Bp (ev R) R.glob (Bc H) Bg Pf) [1,4,5,6,7,8] ⟨[(1, .d (Bf ([68,69,76]::ks))),(4, .ptr (Bc H+1) 0 0 0),(5, .ptr (Bc H+2) 0 0 0),(6, .d (.int .i64 0)),(7, .ptr (Bc H+3) 0 0 0),(8, .d (.int .i64 1))],ap H [A,B,C, .row 0 2 [.d (Df b)]]⟩):=by
 refine Xk (F:=Bp (ev R) R.glob (Bc H) Bg Pf) (lv:=[1,4,5,6,7,8]) (Xa ks) ks.length
  (fun i s e X=>BaG s.1∧s.2≤i∧X=ap H [A,B,C, .row 0 2 [.d (Df s.1)]]∧e.get 1= .d (Bf ([68,69,76]::ks))∧e.get 4= .ptr (Bc H+1) 0 0 0∧e.get 5= .ptr (Bc H+2) 0 0 0∧e.get 6= .d (.int .i64 s.2)∧e.get 7= .ptr (Bc H+3) 0 0 0∧e.get 8= .d (.int .i64 ((i:Int)+1)))
  (fun s o e X=>o= .exit 1∧X=ap H [A,B,C, .row 0 2 [.d (Df s.1)]]∧e.get 4= .ptr (Bc H+1) 0 0 0∧e.get 5= .ptr (Bc H+2) 0 0 0∧e.get 6= .d (.int .i64 s.2)∧e.get 7= .ptr (Bc H+3) 0 0 0)
  ?_ ?_ ks.length 0 (b,0) _ _ (by omega) ⟨hb,by simp,rfl,rfl,rfl,rfl,rfl,rfl,rfl⟩
 ·rintro⟨B1,n⟩ e X ⟨hg,hn,rfl,g1,g4,g5,g6,g7,g8⟩
  dsimp only at*
  simp(maxSteps:=1000000) [Ce,-List.getD_eq_getElem?_getD,-List.map_map,Pf,g1,g4,g5,g6,g7,g8]
 ·rintro i ⟨B1,n⟩ e X hi ⟨hg,hn,rfl,g1,g4,g5,g6,g7,g8⟩
  dsimp only at*
  have c: (i:Int)< (ks.length:Int):=by omega
  have c0: (0:Int)≤(i:Int)+1:=by omega
  have c1: (i:Int)+1< (ks.length:Int)+1:=by omega
  have c2: ((i:Int)+1).toNat=i+1:=by omega
  have c3: (0:Int)< (ks.length:Int)+1:=by omega
  have g:=Dj ks i hi
  have gg: ∀x:D,(x::ks.map D.str).getD (i+1) .nilp= .str (ks.getD i []):=fun x=>by rw[←g];rfl
  have w1:IntKind.i64.wrap ((i:Int)+1+1)=(i:Int)+1+1:=IntWalk.i64_in _ (by omega)
  have w2:IntKind.i64.wrap ((n:Int)+1)=(n:Int)+1:=IntWalk.i64_in _ (by omega)
  have p1:=Box B1 (ks.getD i []) hg.sm.len
  have p2:=Bo1 B1 (ks.getD i []) hg.sm
  have hs:=Sy hg (ks.getD i [])
  unfold Xa
  generalize ks.getD i []=k at*
  generalize Cb B1 k=B2 at*
  have n1:n+1≤i+1:=by omega
  have n2:n≤i+1:=by omega
  cases hh:Fg B1.ents k with
  |false=>
   rw[hh] at p1
   simp(maxSteps:=1000000) [Ce,-List.getD_eq_getElem?_getD,-List.map_map,Pf,g1,g4,g5,g6,g7,g8,c,c0,c1,c2,c3,hi,g,gg,w1,w2,p1,p2,hs,hg,n2,hh]
  |true=>
   rw[hh] at p1
   simp(maxSteps:=1000000) [Ce,-List.getD_eq_getElem?_getD,-List.map_map,Pf,g1,g4,g5,g6,g7,g8,c,c0,c1,c2,c3,hi,g,gg,w1,w2,p1,p2,hs,hg,n1,hh]
theorem Bot (b:Ba) (ks:List Bq) (hb:BaG b) (hk:ks.length≤1000):Be (ev R) 171 [.d (Df b), .d (Bf ([68,69,76]::ks))]=some (Bl (Bo6 b ks)):=Bb fun H=>by
 refine Bh (fn:=f171) rfl rfl ?_
 have lp:=fun A B C=> (Bog H A B C b ks hb hk).out
 unfold Bo6
 generalize Bca b ks=S at*
 obtain⟨B1,n⟩:=S
 dsimp only at*
 have p2:=Ji n
 have c3: (0:Int)< (ks.length:Int)+1:=by omega
 obtain⟨o,e',X',he,rfl,rfl,g4,g5,g6,g7⟩:=lp (.row 0 2 [.d (Df b)]) (.row 0 2 [.agg [.d (.int .i64 0), .nils 7]]) (.row 0 5 [.agg [.d (.int .i64 0), .d (.int .i64 0), .d (.str []), .nils 1, .nils 5]])
 simp only[Bf,List.map_cons] at he
 simp(maxSteps:=1000000) [Ce,-List.getD_eq_getElem?_getD,-List.map_map,f171,p2,he,c3,g4,g5,g6,g7,Bl,Ct]
theorem Bfd (H:Hp) (A B C:Ev.Obj) (b:Ba) (ks:List Bq) (hb:BaG b) (hk:ks.length≤1000):
  Gives (fun o e X=>o= .exit 1∧X=ap H [A,B,C, .row 0 2 [.d (Df (Bk1 b ks).1)]]∧e.get 4= .ptr (Bc H+1) 0 0 0∧e.get 5= .ptr (Bc H+2) 0 0 0∧e.get 6= .d (.int .i64 (Bk1 b ks).2)∧e.get 7= .ptr (Bc H+3) 0 0 0)
   (Bg (Bp (ev R) R.glob (Bc H) Bg Pf) [1,4,5,6,7,8] ⟨[(1, .d (Bf ([69,88,73,83,84,83]::ks))),(4, .ptr (Bc H+1) 0 0 0),(5, .ptr (Bc H+2) 0 0 0),(6, .d (.int .i64 0)),(7, .ptr (Bc H+3) 0 0 0),(8, .d (.int .i64 1))],ap H [A,B,C, .row 0 2 [.d (Df b)]]⟩):=by
 refine Xk (F:=Bp (ev R) R.glob (Bc H) Bg Pf) (lv:=[1,4,5,6,7,8]) (Be2 ks) ks.length
  (fun i s e X=>BaG s.1∧s.2≤i∧X=ap H [A,B,C, .row 0 2 [.d (Df s.1)]]∧e.get 1= .d (Bf ([69,88,73,83,84,83]::ks))∧e.get 4= .ptr (Bc H+1) 0 0 0∧e.get 5= .ptr (Bc H+2) 0 0 0∧e.get 6= .d (.int .i64 s.2)∧e.get 7= .ptr (Bc H+3) 0 0 0∧e.get 8= .d (.int .i64 ((i:Int)+1)))
  (fun s o e X=>o= .exit 1∧X=ap H [A,B,C, .row 0 2 [.d (Df s.1)]]∧e.get 4= .ptr (Bc H+1) 0 0 0∧e.get 5= .ptr (Bc H+2) 0 0 0∧e.get 6= .d (.int .i64 s.2)∧e.get 7= .ptr (Bc H+3) 0 0 0)
  ?_ ?_ ks.length 0 (b,0) _ _ (by omega) ⟨hb,by simp,rfl,rfl,rfl,rfl,rfl,rfl,rfl⟩
 ·rintro⟨B1,n⟩ e X ⟨hg,hn,rfl,g1,g4,g5,g6,g7,g8⟩
  dsimp only at*
  simp(maxSteps:=1000000) [Ce,-List.getD_eq_getElem?_getD,-List.map_map,Pf,g1,g4,g5,g6,g7,g8]
 ·rintro i ⟨B1,n⟩ e X hi ⟨hg,hn,rfl,g1,g4,g5,g6,g7,g8⟩
  dsimp only at*
  have c: (i:Int)< (ks.length:Int):=by omega
  have c0: (0:Int)≤(i:Int)+1:=by omega
  have c1: (i:Int)+1< (ks.length:Int)+1:=by omega
  have c2: ((i:Int)+1).toNat=i+1:=by omega
  have c3: (0:Int)< (ks.length:Int)+1:=by omega
  have g:=Dj ks i hi
  have gg: ∀x:D,(x::ks.map D.str).getD (i+1) .nilp= .str (ks.getD i []):=fun x=>by rw[←g];rfl
  have w1:IntKind.i64.wrap ((i:Int)+1+1)=(i:Int)+1+1:=IntWalk.i64_in _ (by omega)
  have w2:IntKind.i64.wrap ((n:Int)+1)=(n:Int)+1:=IntWalk.i64_in _ (by omega)
  have p1:=Box B1 (ks.getD i []) hg.sm.len
  have p2:=Bo1 B1 (ks.getD i []) hg.sm
  have hs:=Sy hg (ks.getD i [])
  unfold Be2
  generalize ks.getD i []=k at*
  generalize Cb B1 k=B2 at*
  have n1:n+1≤i+1:=by omega
  have n2:n≤i+1:=by omega
  cases hh:Fg B1.ents k with
  |false=>
   rw[hh] at p1
   simp(maxSteps:=1000000) [Ce,-List.getD_eq_getElem?_getD,-List.map_map,Pf,g1,g4,g5,g6,g7,g8,c,c0,c1,c2,c3,hi,g,gg,w1,w2,p1,p2,hs,hg,n2,hh]
  |true=>
   rw[hh] at p1
   simp(maxSteps:=1000000) [Ce,-List.getD_eq_getElem?_getD,-List.map_map,Pf,g1,g4,g5,g6,g7,g8,c,c0,c1,c2,c3,hi,g,gg,w1,w2,p1,p2,hs,hg,n1,hh]
theorem Bfr (b:Ba) (ks:List Bq) (hb:BaG b) (hk:ks.length≤1000):Be (ev R) 171 [.d (Df b), .d (Bf ([69,88,73,83,84,83]::ks))]=some (Bl (Ua b ks)):=Bb fun H=>by
 refine Bh (fn:=f171) rfl rfl ?_
 have lp:=fun A B C=> (Bfd H A B C b ks hb hk).out
 unfold Ua
 generalize Bk1 b ks=S at*
 obtain⟨B1,n⟩:=S
 dsimp only at*
 have p2:=Ji n
 have c3: (0:Int)< (ks.length:Int)+1:=by omega
 obtain⟨o,e',X',he,rfl,rfl,g4,g5,g6,g7⟩:=lp (.row 0 2 [.d (Df b)]) (.row 0 2 [.agg [.d (.int .i64 0), .nils 7]]) (.row 0 5 [.agg [.d (.int .i64 0), .d (.int .i64 0), .d (.str []), .nils 1, .nils 5]])
 simp only[Bf,List.map_cons] at he
 simp(maxSteps:=1000000) [Ce,-List.getD_eq_getElem?_getD,-List.map_map,f171,p2,he,c3,g4,g5,g6,g7,Bl,Ct]
end Go.Proofs.YtpajcoanfkeibaaGreatDoor.Code

/- Lemmas (several texts in one). -/
import Derived.Test.YtedlandcnpjghaaGreatDoorMRecord7
import Derived.Test.YtedlandcnpjghaaGreatDoorMRecord27
import Derived.Test.YtedlandcnpjghaaGreatDoorMRecord28
set_option maxRecDepth 100000
set_option maxHeartbeats 2000000
set_option linter.unusedSimpArgs false
set_option linter.unusedVariables false
namespace Go.Proofs.YtedlandcnpjghaaGreatDoor.Code
open Go Go.Ev Go.Proofs
def X6 (b:Ba):Ba×Re:=(b,Cv b.ents.length)
def Y4 (b:Ba):Ba×Re:=(⟨b.now,[]⟩,Rz)
def Bie (b:Ba) (p:Bl):Ba×Re:=(b,G9 (Bi6 b p))
def Bih (b:Ba) (k:Bl):Ba×Re:=(b,K5 (Bi5 (Ca b k).kind.toNat))
def Bsl (b:Ba) (k:Bl):Ba×Re:=(b,if(Ca b k).kind=0 then Cv (-2) else if(Ca b k).till=0 then Cv (-1) else Cv ((Ca b k).till - b.now))
def Nb (e:En) (n:Int):En:=⟨e.key,n,e.kind,e.text,e.list,e.scores,e.fields⟩
def Ru (e:En) (k:Bl):En:=⟨k,e.till,e.kind,e.text,e.list,e.scores,e.fields⟩
def Qt (b:Ba) (k:Bl):Ba×Re:=Ff b (Nb (Ca b k) 0) (Gy (!decide ((Ca b k).till=0)))
def Uk (b:Ba) (k m:Bl):Ba×Re:=if(Ca b k).kind=0 then(b,Dq [110,111,110,101]) else Ff (Jl b k) (Ru (Ca b k) m) Rz
def Y7 (b:Ba) (k:Bl) (n:Int):Ba×Re:=if(Ca b k).kind=0 then(b,Cv 0) else if n≤b.now then(Jl b k,Cv 1) else Ff b (Nb (Ca b k) n) (Cv 1)
def Ui (b:Ba) (k y:Bl):Ba×Re:=if(Dv y).2=true∧(Dv y).1≤1000000 then Y7 b k (b.now+(Dv y).1) else(b,Dq [110,117,109,98,101,114])
def Ny (b:Ba) (k y:Bl):Ba×Re:=if(Dv y).2=true∧(Dv y).1≤2000000 then Y7 b k (Dv y).1 else(b,Dq [110,117,109,98,101,114])
def Xi (ks:List Bl) (i:Nat) (s:Ba×Nat):Ba×Nat:=(Jl s.1 (ks.getD i []),s.2+(if Xv s.1.ents (ks.getD i [])=true then 1 else 0))
def Bcm (b:Ba) (ks:List Bl):Ba×Nat:=(List.range' 0 ks.length).foldl (fun s i=>Xi ks i s) (b,0)
def Bfg (ks:List Bl) (i:Nat) (s:Ba×Nat):Ba×Nat:=(s.1,s.2+(if Xv s.1.ents (ks.getD i [])=true then 1 else 0))
def Bk4 (b:Ba) (ks:List Bl):Ba×Nat:=(List.range' 0 ks.length).foldl (fun s i=>Bfg ks i s) (b,0)
def Bo0 (b:Ba) (ks:List Bl):Ba×Re:=((Bcm b ks).1,Cv (Bcm b ks).2)
def Uh (b:Ba) (ks:List Bl):Ba×Re:=((Bk4 b ks).1,Cv (Bk4 b ks).2)
theorem N7 {b:Ba} (h:BaG b) (t:Bl):0≤(Ca b t).kind∧(Ca b t).kind≤5:=by
 rcases Bm3 h t with a|a
 ·have:=(Bfd a).kind;omega
 ·rw[a];simp
theorem Bh4 (b:Ba) (hb:BaG b):Be (ev R) 65 [.d (D6 b), .d (Bf [[68,66,83,73,90,69]])]=some (Bj (X6 b)):=Bb fun H=>by
 refine Bo (fn:=f65) rfl rfl ?_
 have p2:=Lr b.ents.length
 obtain⟨now,ents⟩:=b
 simp(maxSteps:=1000000) [Cq,-List.getD_eq_getElem?_getD,-List.map_map,f65,X6,p2,Bj,Cv]
theorem Bkz (b:Ba) (hb:BaG b):Be (ev R) 65 [.d (D6 b), .d (Bf [[70,76,85,83,72]])]=some (Bj (Y4 b)):=Bb fun H=>by
 refine Bo (fn:=f65) rfl rfl ?_
 simp(maxSteps:=1000000) [Cq,-List.getD_eq_getElem?_getD,-List.map_map,f65,Y4,Bj,Rz,F9]
theorem Bot (b:Ba) (p:Bl) (hb:BaG b) (hp:p.length≤40):Be (ev R) 65 [.d (D6 b), .d (Bf [[75,69,89,83],p])]=some (Bj (Bie b p)):=Bb fun H=>by
 refine Bo (fn:=f65) rfl rfl ?_
 have p1:=B2j b p hb.sm hb.fit (by omega)
 have p2:=Bfv (Bi6 b p)
 unfold Bie
 generalize Bi6 b p=ZV at*
 simp(maxSteps:=1000000) [Cq,-List.getD_eq_getElem?_getD,-List.map_map,f65,p1,p2,Bj,G9]
theorem Bou (b:Ba) (k:Bl) (hb:BaG b) (hk:k.length≤40):Be (ev R) 65 [.d (D6 b), .d (Bf ([[84,89,80,69],k]))]=some (Bj (Bih b k)):=Bb fun H=>by
 refine Bo (fn:=f65) rfl rfl ?_
 have p1:=Gw b k hb.sm
 have kq:=N7 hb k
 have nq:=hb.now
 have q:=Dx hb (t:=k) (by omega)
 unfold Bih
 have eN:=Cc [110,117,109,98,101,114]
 have eL:=Cc [108,111,110,103]
 have eP:=Cc [112,108,97,99,101]
 have eO:=Cc [110,111,110,101]
 have no:=Kj
 generalize Ca b k=e at*
 obtain⟨key,till,kind,text,list,scores,fields⟩:=e
 obtain⟨q1,q2,q3,q4,q5,q6,q7,q8,q9,q10⟩:=q
 dsimp only[Nb,Ru,Gy] at*
 have p2:=B2k kind kq
 have p3:=Bow (Bi5 kind.toNat)
 generalize Bi5 kind.toNat=T at*
 simp(maxSteps:=1000000) [Cq,-List.getD_eq_getElem?_getD,-List.map_map,f65,p1,eN,eL,eP,eO,no,Bj,p2,p3,K5]
theorem Br7 (b:Ba) (k:Bl) (hb:BaG b) (hk:k.length≤40):Be (ev R) 65 [.d (D6 b), .d (Bf ([[84,84,76],k]))]=some (Bj (Bsl b k)):=Bb fun H=>by
 refine Bo (fn:=f65) rfl rfl ?_
 have p1:=Gw b k hb.sm
 have kq:=N7 hb k
 have nq:=hb.now
 have q:=Dx hb (t:=k) (by omega)
 unfold Bsl
 have eN:=Cc [110,117,109,98,101,114]
 have eL:=Cc [108,111,110,103]
 have eP:=Cc [112,108,97,99,101]
 have eO:=Cc [110,111,110,101]
 have no:=Kj
 generalize Ca b k=e at*
 obtain⟨key,till,kind,text,list,scores,fields⟩:=e
 obtain⟨q1,q2,q3,q4,q5,q6,q7,q8,q9,q10⟩:=q
 dsimp only[Nb,Ru,Gy] at*
 have i1:=Lr (-2)
 have i2:=Lr (-1)
 have i3:=Lr (till - b.now)
 have w:IntKind.i64.wrap (till - b.now)=till - b.now:=IntWalk.i64_in _ (by omega)
 by_cases a:kind=0
 ·simp(maxSteps:=1000000) [Cq,-List.getD_eq_getElem?_getD,-List.map_map,f65,p1,eN,eL,eP,eO,no,Bj,i1,eq_true a,Cv]
 ·by_cases c:till=0
  ·simp(maxSteps:=1000000) [Cq,-List.getD_eq_getElem?_getD,-List.map_map,f65,p1,eN,eL,eP,eO,no,Bj,i2,eq_false a,eq_true c,Cv]
  ·simp(maxSteps:=1000000) [Cq,-List.getD_eq_getElem?_getD,-List.map_map,f65,p1,eN,eL,eP,eO,no,Bj,i3,eq_false a,eq_false c,w,Cv]
theorem Bfu (b:Ba) (k:Bl) (hb:BaG b) (hk:k.length≤40):Be (ev R) 65 [.d (D6 b), .d (Bf ([[80,69,82,83,73,83,84],k]))]=some (Bj (Qt b k)):=Bb fun H=>by
 refine Bo (fn:=f65) rfl rfl ?_
 have p1:=Gw b k hb.sm
 have kq:=N7 hb k
 have nq:=hb.now
 have q:=Dx hb (t:=k) (by omega)
 unfold Qt
 have eN:=Cc [110,117,109,98,101,114]
 have eL:=Cc [108,111,110,103]
 have eP:=Cc [112,108,97,99,101]
 have eO:=Cc [110,111,110,101]
 have no:=Kj
 generalize Ca b k=e at*
 obtain⟨key,till,kind,text,list,scores,fields⟩:=e
 obtain⟨q1,q2,q3,q4,q5,q6,q7,q8,q9,q10⟩:=q
 dsimp only[Nb,Ru,Gy] at*
 have q:EnQ ⟨key,0,kind,text,list,scores,fields⟩:=⟨q1,q2,q3,q4,q5,q6,q7,q8,by simp,q10⟩
 have p2:=Box (!decide (till=0))
 unfold Gy at p2
 generalize hz: (!decide (till=0))=Z at*
 have p3:=Pj b _ (Re.mk 2 (if Z=true then 1 else 0) [] [] []) hb.sm q.sm q.fit
 generalize Ff b _ _=P at*
 by_cases a:till=0
 ·subst a
  simp at hz
  subst hz
  simp only[Bool.false_eq_true,if_false] at p2 p3
  simp(maxSteps:=1000000) [Cq,-List.getD_eq_getElem?_getD,-List.map_map,f65,p1,eN,eL,eP,eO,no,Bj,p2,p3]
 ·simp[a] at hz
  subst hz
  simp only[if_true] at p2 p3
  simp(maxSteps:=1000000) [Cq,-List.getD_eq_getElem?_getD,-List.map_map,f65,p1,eN,eL,eP,eO,no,Bj,p2,p3,eq_false a]
theorem Bh7 (b:Ba) (k:Bl) (m:Bl) (hb:BaG b) (hk:k.length≤40) (hm:m.length≤40):Be (ev R) 65 [.d (D6 b), .d (Bf ([[82,69,78,65,77,69],k,m]))]=some (Bj (Uk b k m)):=Bb fun H=>by
 have pd:=Bov b k hb.sm
 have hd:=Ta hb k
 refine Bo (fn:=f65) rfl rfl ?_
 have p1:=Gw b k hb.sm
 have kq:=N7 hb k
 have nq:=hb.now
 have q:=Dx hb (t:=k) (by omega)
 unfold Uk
 have eN:=Cc [110,117,109,98,101,114]
 have eL:=Cc [108,111,110,103]
 have eP:=Cc [112,108,97,99,101]
 have eO:=Cc [110,111,110,101]
 have no:=Kj
 generalize Ca b k=e at*
 obtain⟨key,till,kind,text,list,scores,fields⟩:=e
 obtain⟨q1,q2,q3,q4,q5,q6,q7,q8,q9,q10⟩:=q
 dsimp only[Nb,Ru,Gy] at*
 generalize Jl b k=B at*
 have q:EnQ ⟨m,till,kind,text,list,scores,fields⟩:=⟨by dsimp only;omega,q2,q3,q4,q5,q6,q7,q8,q9,q10⟩
 have p3:=Pj B _ Rz hd.sm q.sm q.fit
 generalize Ff B _ Rz=P at*
 unfold Rz at p3
 by_cases a:kind=0
 ·simp(maxSteps:=1000000) [Cq,-List.getD_eq_getElem?_getD,-List.map_map,f65,p1,eN,eL,eP,eO,no,Bj,eq_true a,Dq]
 ·simp(maxSteps:=1000000) [Cq,-List.getD_eq_getElem?_getD,-List.map_map,f65,p1,eN,eL,eP,eO,no,Bj,eq_false a,pd,p3]
theorem Bh6 (b:Ba) (k:Bl) (y:Bl) (hb:BaG b) (hk:k.length≤40) (hy:y.length≤40):Be (ev R) 65 [.d (D6 b), .d (Bf ([[69,88,80,73,82,69],k,y]))]=some (Bj (Ui b k y)):=Bb fun H=>by
 have pd:=Bov b k hb.sm
 refine Bo (fn:=f65) rfl rfl ?_
 have p1:=Gw b k hb.sm
 have kq:=N7 hb k
 have nq:=hb.now
 have q:=Dx hb (t:=k) (by omega)
 unfold Ui Y7
 have eN:=Cc [110,117,109,98,101,114]
 have eL:=Cc [108,111,110,103]
 have eP:=Cc [112,108,97,99,101]
 have eO:=Cc [110,111,110,101]
 have no:=Kj
 generalize Ca b k=e at*
 obtain⟨key,till,kind,text,list,scores,fields⟩:=e
 obtain⟨q1,q2,q3,q4,q5,q6,q7,q8,q9,q10⟩:=q
 dsimp only[Nb,Ru,Gy] at*
 have i0:=G8 y
 have pi0:=R3 y (by omega)
 generalize Dv y=I0 at*
 obtain⟨n0,o0⟩:=I0
 dsimp only at*
 generalize Jl b k=B at*
 have j0:=Lr 0
 have j1:=Lr 1
 cases o0
 ·simp(maxSteps:=1000000) [Cq,-List.getD_eq_getElem?_getD,-List.map_map,f65,p1,eN,eL,eP,eO,no,Bj,pi0,Dq]
 by_cases a:n0≤1000000
 rotate_left
 ·have a1:1000000<n0:=by omega
  have a2: (1000000:Int)<n0:=by omega
  simp(maxSteps:=1000000) [Cq,-List.getD_eq_getElem?_getD,-List.map_map,f65,p1,eN,eL,eP,eO,no,Bj,pi0,eq_false a,a1,a2,Dq]
 have a1: ¬1000000<n0:=by omega
 have a2: ¬ (2000000:Int)<n0:=by omega
 have w:IntKind.i64.wrap (b.now+n0)=b.now+n0:=IntWalk.i64_in _ (by omega)
 skip
 ·by_cases c:kind=0
  ·simp(maxSteps:=1000000) [Cq,-List.getD_eq_getElem?_getD,-List.map_map,f65,p1,eN,eL,eP,eO,no,Bj,pi0,eq_true a,a1,a2,w,eq_true c,j0,Cv,a1]
  by_cases d: (b.now+n0)≤b.now
  ·simp(maxSteps:=1000000) [Cq,-List.getD_eq_getElem?_getD,-List.map_map,f65,p1,eN,eL,eP,eO,no,Bj,pi0,eq_true a,a1,a2,w,eq_false c,eq_true d,pd,j1,Cv,a1]
  have q:EnQ ⟨key,(b.now+n0),kind,text,list,scores,fields⟩:=⟨q1,q2,q3,q4,q5,q6,q7,q8,by dsimp only;omega,q10⟩
  have p3:=Pj b _ (Cv 1) hb.sm q.sm q.fit
  generalize Ff b _ (Cv 1)=P at*
  unfold Cv at p3
  simp(maxSteps:=1000000) [Cq,-List.getD_eq_getElem?_getD,-List.map_map,f65,p1,eN,eL,eP,eO,no,Bj,pi0,eq_true a,a1,a2,w,eq_false c,eq_false d,j1,p3,a1]
theorem Bdc (b:Ba) (k:Bl) (y:Bl) (hb:BaG b) (hk:k.length≤40) (hy:y.length≤40):Be (ev R) 65 [.d (D6 b), .d (Bf ([[69,88,80,73,82,69,65,84],k,y]))]=some (Bj (Ny b k y)):=Bb fun H=>by
 have pd:=Bov b k hb.sm
 refine Bo (fn:=f65) rfl rfl ?_
 have p1:=Gw b k hb.sm
 have kq:=N7 hb k
 have nq:=hb.now
 have q:=Dx hb (t:=k) (by omega)
 unfold Ny Y7
 have eN:=Cc [110,117,109,98,101,114]
 have eL:=Cc [108,111,110,103]
 have eP:=Cc [112,108,97,99,101]
 have eO:=Cc [110,111,110,101]
 have no:=Kj
 generalize Ca b k=e at*
 obtain⟨key,till,kind,text,list,scores,fields⟩:=e
 obtain⟨q1,q2,q3,q4,q5,q6,q7,q8,q9,q10⟩:=q
 dsimp only[Nb,Ru,Gy] at*
 have i0:=G8 y
 have pi0:=R3 y (by omega)
 generalize Dv y=I0 at*
 obtain⟨n0,o0⟩:=I0
 dsimp only at*
 generalize Jl b k=B at*
 have j0:=Lr 0
 have j1:=Lr 1
 cases o0
 ·simp(maxSteps:=1000000) [Cq,-List.getD_eq_getElem?_getD,-List.map_map,f65,p1,eN,eL,eP,eO,no,Bj,pi0,Dq]
 by_cases a:n0≤2000000
 rotate_left
 ·have a1:2000000<n0:=by omega
  have a2: (1000000:Int)<n0:=by omega
  simp(maxSteps:=1000000) [Cq,-List.getD_eq_getElem?_getD,-List.map_map,f65,p1,eN,eL,eP,eO,no,Bj,pi0,eq_false a,a1,a2,Dq]
 have a1: ¬2000000<n0:=by omega
 have a2: ¬ (2000000:Int)<n0:=by omega
 have w:IntKind.i64.wrap (b.now+n0)=b.now+n0:=IntWalk.i64_in _ (by omega)
 by_cases e1: (1000000:Int)<n0
 all_goals
  by_cases c:kind=0
  ·simp(maxSteps:=1000000) [Cq,-List.getD_eq_getElem?_getD,-List.map_map,f65,p1,eN,eL,eP,eO,no,Bj,pi0,eq_true a,a1,a2,w,eq_true c,j0,Cv,e1]
  by_cases d:n0≤b.now
  ·simp(maxSteps:=1000000) [Cq,-List.getD_eq_getElem?_getD,-List.map_map,f65,p1,eN,eL,eP,eO,no,Bj,pi0,eq_true a,a1,a2,w,eq_false c,eq_true d,pd,j1,Cv,e1]
  have q:EnQ ⟨key,n0,kind,text,list,scores,fields⟩:=⟨q1,q2,q3,q4,q5,q6,q7,q8,by dsimp only;omega,q10⟩
  have p3:=Pj b _ (Cv 1) hb.sm q.sm q.fit
  generalize Ff b _ (Cv 1)=P at*
  unfold Cv at p3
  simp(maxSteps:=1000000) [Cq,-List.getD_eq_getElem?_getD,-List.map_map,f65,p1,eN,eL,eP,eO,no,Bj,pi0,eq_true a,a1,a2,w,eq_false c,eq_false d,j1,p3,e1]
theorem Bnq (ks:List Bl) (i:Nat) (s:Ba×Nat) (h:BaG s.1):BaG (Xi ks i s).1:=Ta h _
theorem Brs (H:Hp) (A B C:Ev.Obj) (b:Ba) (ks:List Bl) (hb:BaG b) (hk:ks.length≤1000):
  Gives (fun o e X=>o= .exit 1∧X=ap H [A,B,C, .row 0 2 [.d (D6 (Bcm b ks).1)]]∧e.get 4= .ptr (Bc H+1) 0 0 0∧e.get 5= .ptr (Bc H+2) 0 0 0∧e.get 6= .d (.int .i64 (Bcm b ks).2)∧e.get 7= .ptr (Bc H+3) 0 0 0)
   (Bg (Bp (ev R) R.glob (Bc H) Bg Sj) [1,4,5,6,7,8] ⟨[(1, .d (Bf ([68,69,76]::ks))),(4, .ptr (Bc H+1) 0 0 0),(5, .ptr (Bc H+2) 0 0 0),(6, .d (.int .i64 0)),(7, .ptr (Bc H+3) 0 0 0),(8, .d (.int .i64 1))],ap H [A,B,C, .row 0 2 [.d (D6 b)]]⟩):=by
 refine Xy (F:=Bp (ev R) R.glob (Bc H) Bg Sj) (lv:=[1,4,5,6,7,8]) (Xi ks) ks.length
  (fun i s e X=>BaG s.1∧s.2≤i∧X=ap H [A,B,C, .row 0 2 [.d (D6 s.1)]]∧e.get 1= .d (Bf ([68,69,76]::ks))∧e.get 4= .ptr (Bc H+1) 0 0 0∧e.get 5= .ptr (Bc H+2) 0 0 0∧e.get 6= .d (.int .i64 s.2)∧e.get 7= .ptr (Bc H+3) 0 0 0∧e.get 8= .d (.int .i64 ((i:Int)+1)))
  (fun s o e X=>o= .exit 1∧X=ap H [A,B,C, .row 0 2 [.d (D6 s.1)]]∧e.get 4= .ptr (Bc H+1) 0 0 0∧e.get 5= .ptr (Bc H+2) 0 0 0∧e.get 6= .d (.int .i64 s.2)∧e.get 7= .ptr (Bc H+3) 0 0 0)
  ?_ ?_ ks.length 0 (b,0) _ _ (by omega) ⟨hb,by simp,rfl,rfl,rfl,rfl,rfl,rfl,rfl⟩
 ·rintro⟨B1,n⟩ e X ⟨hg,hn,rfl,g1,g4,g5,g6,g7,g8⟩
  dsimp only at*
  simp(maxSteps:=1000000) [Cq,-List.getD_eq_getElem?_getD,-List.map_map,Sj,g1,g4,g5,g6,g7,g8]
 ·rintro i ⟨B1,n⟩ e X hi ⟨hg,hn,rfl,g1,g4,g5,g6,g7,g8⟩
  dsimp only at*
  have c: (i:Int)< (ks.length:Int):=by omega
  have c0: (0:Int)≤(i:Int)+1:=by omega
  have c1: (i:Int)+1< (ks.length:Int)+1:=by omega
  have c2: ((i:Int)+1).toNat=i+1:=by omega
  have c3: (0:Int)< (ks.length:Int)+1:=by omega
  have g:=Dt ks i hi
  have gg: ∀x:D,(x::ks.map D.str).getD (i+1) .nilp= .str (ks.getD i []):=fun x=>by rw[←g];rfl
  have w1:IntKind.i64.wrap ((i:Int)+1+1)=(i:Int)+1+1:=IntWalk.i64_in _ (by omega)
  have w2:IntKind.i64.wrap ((n:Int)+1)=(n:Int)+1:=IntWalk.i64_in _ (by omega)
  have p1:=Br8 B1 (ks.getD i []) hg.sm.len
  have p2:=Bov B1 (ks.getD i []) hg.sm
  have hs:=Ta hg (ks.getD i [])
  unfold Xi
  generalize ks.getD i []=k at*
  generalize Jl B1 k=B2 at*
  have n1:n+1≤i+1:=by omega
  have n2:n≤i+1:=by omega
  cases hh:Xv B1.ents k with
  |false=>
   rw[hh] at p1
   simp(maxSteps:=1000000) [Cq,-List.getD_eq_getElem?_getD,-List.map_map,Sj,g1,g4,g5,g6,g7,g8,c,c0,c1,c2,c3,hi,g,gg,w1,w2,p1,p2,hs,hg,n2,hh]
  |true=>
   rw[hh] at p1
   simp(maxSteps:=1000000) [Cq,-List.getD_eq_getElem?_getD,-List.map_map,Sj,g1,g4,g5,g6,g7,g8,c,c0,c1,c2,c3,hi,g,gg,w1,w2,p1,p2,hs,hg,n1,hh]
theorem Br6 (b:Ba) (ks:List Bl) (hb:BaG b) (hk:ks.length≤1000):Be (ev R) 65 [.d (D6 b), .d (Bf ([68,69,76]::ks))]=some (Bj (Bo0 b ks)):=Bb fun H=>by
 refine Bo (fn:=f65) rfl rfl ?_
 have lp:=fun A B C=> (Brs H A B C b ks hb hk).out
 unfold Bo0
 generalize Bcm b ks=S at*
 obtain⟨B1,n⟩:=S
 dsimp only at*
 have p2:=Lr n
 have c3: (0:Int)< (ks.length:Int)+1:=by omega
 obtain⟨o,e',X',he,rfl,rfl,g4,g5,g6,g7⟩:=lp (.row 0 2 [.d (D6 b)]) (.row 0 2 [.agg [.d (.int .i64 0), .nils 7]]) (.row 0 5 [.agg [.d (.int .i64 0), .d (.int .i64 0), .d (.str []), .nils 1, .nils 5]])
 simp only[Bf,List.map_cons] at he
 simp(maxSteps:=1000000) [Cq,-List.getD_eq_getElem?_getD,-List.map_map,f65,p2,he,c3,g4,g5,g6,g7,Bj,Cv]
theorem Bhg (H:Hp) (A B C:Ev.Obj) (b:Ba) (ks:List Bl) (hb:BaG b) (hk:ks.length≤1000):
  Gives (fun o e X=>o= .exit 1∧X=ap H [A,B,C, .row 0 2 [.d (D6 (Bk4 b ks).1)]]∧e.get 4= .ptr (Bc H+1) 0 0 0∧e.get 5= .ptr (Bc H+2) 0 0 0∧e.get 6= .d (.int .i64 (Bk4 b ks).2)∧e.get 7= .ptr (Bc H+3) 0 0 0)
   (Bg (Bp (ev R) R.glob (Bc H) Bg Sj) [1,4,5,6,7,8] ⟨[(1, .d (Bf ([69,88,73,83,84,83]::ks))),(4, .ptr (Bc H+1) 0 0 0),(5, .ptr (Bc H+2) 0 0 0),(6, .d (.int .i64 0)),(7, .ptr (Bc H+3) 0 0 0),(8, .d (.int .i64 1))],ap H [A,B,C, .row 0 2 [.d (D6 b)]]⟩):=by
 refine Xy (F:=Bp (ev R) R.glob (Bc H) Bg Sj) (lv:=[1,4,5,6,7,8]) (Bfg ks) ks.length
  (fun i s e X=>BaG s.1∧s.2≤i∧X=ap H [A,B,C, .row 0 2 [.d (D6 s.1)]]∧e.get 1= .d (Bf ([69,88,73,83,84,83]::ks))∧e.get 4= .ptr (Bc H+1) 0 0 0∧e.get 5= .ptr (Bc H+2) 0 0 0∧e.get 6= .d (.int .i64 s.2)∧e.get 7= .ptr (Bc H+3) 0 0 0∧e.get 8= .d (.int .i64 ((i:Int)+1)))
  (fun s o e X=>o= .exit 1∧X=ap H [A,B,C, .row 0 2 [.d (D6 s.1)]]∧e.get 4= .ptr (Bc H+1) 0 0 0∧e.get 5= .ptr (Bc H+2) 0 0 0∧e.get 6= .d (.int .i64 s.2)∧e.get 7= .ptr (Bc H+3) 0 0 0)
  ?_ ?_ ks.length 0 (b,0) _ _ (by omega) ⟨hb,by simp,rfl,rfl,rfl,rfl,rfl,rfl,rfl⟩
 ·rintro⟨B1,n⟩ e X ⟨hg,hn,rfl,g1,g4,g5,g6,g7,g8⟩
  dsimp only at*
  simp(maxSteps:=1000000) [Cq,-List.getD_eq_getElem?_getD,-List.map_map,Sj,g1,g4,g5,g6,g7,g8]
 ·rintro i ⟨B1,n⟩ e X hi ⟨hg,hn,rfl,g1,g4,g5,g6,g7,g8⟩
  dsimp only at*
  have c: (i:Int)< (ks.length:Int):=by omega
  have c0: (0:Int)≤(i:Int)+1:=by omega
  have c1: (i:Int)+1< (ks.length:Int)+1:=by omega
  have c2: ((i:Int)+1).toNat=i+1:=by omega
  have c3: (0:Int)< (ks.length:Int)+1:=by omega
  have g:=Dt ks i hi
  have gg: ∀x:D,(x::ks.map D.str).getD (i+1) .nilp= .str (ks.getD i []):=fun x=>by rw[←g];rfl
  have w1:IntKind.i64.wrap ((i:Int)+1+1)=(i:Int)+1+1:=IntWalk.i64_in _ (by omega)
  have w2:IntKind.i64.wrap ((n:Int)+1)=(n:Int)+1:=IntWalk.i64_in _ (by omega)
  have p1:=Br8 B1 (ks.getD i []) hg.sm.len
  have p2:=Bov B1 (ks.getD i []) hg.sm
  have hs:=Ta hg (ks.getD i [])
  unfold Bfg
  generalize ks.getD i []=k at*
  generalize Jl B1 k=B2 at*
  have n1:n+1≤i+1:=by omega
  have n2:n≤i+1:=by omega
  cases hh:Xv B1.ents k with
  |false=>
   rw[hh] at p1
   simp(maxSteps:=1000000) [Cq,-List.getD_eq_getElem?_getD,-List.map_map,Sj,g1,g4,g5,g6,g7,g8,c,c0,c1,c2,c3,hi,g,gg,w1,w2,p1,p2,hs,hg,n2,hh]
  |true=>
   rw[hh] at p1
   simp(maxSteps:=1000000) [Cq,-List.getD_eq_getElem?_getD,-List.map_map,Sj,g1,g4,g5,g6,g7,g8,c,c0,c1,c2,c3,hi,g,gg,w1,w2,p1,p2,hs,hg,n1,hh]
theorem Bh5 (b:Ba) (ks:List Bl) (hb:BaG b) (hk:ks.length≤1000):Be (ev R) 65 [.d (D6 b), .d (Bf ([69,88,73,83,84,83]::ks))]=some (Bj (Uh b ks)):=Bb fun H=>by
 refine Bo (fn:=f65) rfl rfl ?_
 have lp:=fun A B C=> (Bhg H A B C b ks hb hk).out
 unfold Uh
 generalize Bk4 b ks=S at*
 obtain⟨B1,n⟩:=S
 dsimp only at*
 have p2:=Lr n
 have c3: (0:Int)< (ks.length:Int)+1:=by omega
 obtain⟨o,e',X',he,rfl,rfl,g4,g5,g6,g7⟩:=lp (.row 0 2 [.d (D6 b)]) (.row 0 2 [.agg [.d (.int .i64 0), .nils 7]]) (.row 0 5 [.agg [.d (.int .i64 0), .d (.int .i64 0), .d (.str []), .nils 1, .nils 5]])
 simp only[Bf,List.map_cons] at he
 simp(maxSteps:=1000000) [Cq,-List.getD_eq_getElem?_getD,-List.map_map,f65,p2,he,c3,g4,g5,g6,g7,Bj,Cv]
end Go.Proofs.YtedlandcnpjghaaGreatDoor.Code

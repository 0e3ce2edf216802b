/- Lemmas (several texts in one). -/
import Derived.Test.YtjdmiodinhlchaaGreatMBasePut7
import Derived.Test.YtjdmiodinhlchaaGreatMBasePut27
set_option maxRecDepth 100000
set_option maxHeartbeats 2000000
set_option linter.unusedSimpArgs false
set_option linter.unusedVariables false
namespace Go.Proofs.YtjdmiodinhlchaaGreat.Code
open Go Go.Ev Go.Proofs
def Bb4 (b:Ba) (k:Bp):Ba×Re:=(b,Dc (Ca b k).scores.length)
def Bd0 (b:Ba) (k t:Bp):Ba×Re:=Fq b (Ct (Ca b k) (Ca b k).kind (Te (Ca b k).scores t).1) (Jb (Te (Ca b k).scores t).2)
def Xl (b:Ba) (k t:Bp):Ba×Re:=(b,if Je (Ca b k).scores t<0 then M5 else Dc ((Ca b k).scores.getD (Je (Ca b k).scores t).toNat ([],0)).2)
def Bb5 (b:Ba) (k t:Bp):Ba×Re:=(b,if Je (Ca b k).scores t<0 then M5 else Dc (Je (Ca b k).scores t))
def Bdz (b:Ba) (k n t:Bp):Ba×Re:=if(Fe n).2=true then(if(Jy (Ca b k).scores (t,(Fe n).1)).2.2=true then Fq b (Ct (Ca b k) 4 (Jy (Ca b k).scores (t,(Fe n).1)).1) (Jb (Jy (Ca b k).scores (t,(Fe n).1)).2.1) else(b,Du [108,111,110,103])) else(b,Du [110,117,109,98,101,114])
def U2 (xs:List Sc) (t:Bp) (n:Int):Int:=if Je xs t<0 then n else n+(xs.getD (Je xs t).toNat ([],0)).2
def Qo (b:Ba) (k n t:Bp):Ba×Re:=if(Fe n).2=true then(if(Jy (Ca b k).scores (t,U2 (Ca b k).scores t (Fe n).1)).2.2=true then Fq b (Ct (Ca b k) 4 (Jy (Ca b k).scores (t,U2 (Ca b k).scores t (Fe n).1)).1) (Dc (U2 (Ca b k).scores t (Fe n).1)) else(b,Du [108,111,110,103])) else(b,Du [110,117,109,98,101,114])
def Tw (b:Ba) (k n m:Bp):Ba×Re:=if(Fe n).2=true∧(Fe m).2=true then(b,Jj (Mf (Bs9 (Ca b k).scores (Fe n).1 (Fe m).1))) else(b,Du [110,117,109,98,101,114])
def J7 (b:Ba) (k n m:Bp):Ba×Re:=if(Fe n).2=true∧(Fe m).2=true then(b,Jj (Mf (rBy (Ca b k).scores (Fe n).1 (Fe m).1))) else(b,Du [110,117,109,98,101,114])
theorem Xg (xs:List Sc) (t:Bp): -1≤Je xs t∧Je xs t<xs.length:=by
 unfold Je
 split
 ·split
  ·constructor<;>omega
  ·constructor<;>omega
 ·constructor<;>omega
theorem Bg9 (b:Ba) (k:Bp) (hb:BaG b) (hk:k.length≤40):Be (ev R) 113 [.d (Dx b), .d (Bf ([[90,67,65,82,68],k]))]=some (Bl (Bb4 b k)):=Bb fun H=>by
 refine Bh (fn:=f113) rfl rfl ?_
 have p1:=G9 b k hb.sm
 have q:=Dz hb (t:=k) (by omega)
 unfold Bb4
 have eN:=Bu [110,117,109,98,101,114]
 have eL:=Bu [108,111,110,103]
 have eP:=Bu [112,108,97,99,101]
 have eO:=Bu [110,111,110,101]
 have no:=Gj
 generalize Ca b k=e at*
 obtain⟨key,till,kind,text,list,scores,fields⟩:=e
 obtain⟨q1,q2,q3,q4,q5,q6,q7,q8,q9,q10⟩:=q
 dsimp only[Df,Ct,Cs,Dk] at*
 have p2:=Jl scores.length
 simp(maxSteps:=1000000) [Cm,-List.getD_eq_getElem?_getD,-List.map_map,f113,p1,eN,eL,eP,eO,no,Bl,p2,Dc]
theorem Bke (b:Ba) (k:Bp) (t:Bp) (hb:BaG b) (hk:k.length≤40) (ht:t.length≤40):Be (ev R) 113 [.d (Dx b), .d (Bf ([[90,82,69,77],k,t]))]=some (Bl (Bd0 b k t)):=Bb fun H=>by
 refine Bh (fn:=f113) rfl rfl ?_
 have p1:=G9 b k hb.sm
 have q:=Dz hb (t:=k) (by omega)
 unfold Bd0
 have eN:=Bu [110,117,109,98,101,114]
 have eL:=Bu [108,111,110,103]
 have eP:=Bu [112,108,97,99,101]
 have eO:=Bu [110,111,110,101]
 have no:=Gj
 generalize Ca b k=e at*
 obtain⟨key,till,kind,text,list,scores,fields⟩:=e
 obtain⟨q1,q2,q3,q4,q5,q6,q7,q8,q9,q10⟩:=q
 dsimp only[Df,Ct,Cs,Dk] at*
 have vq:=Bta scores t ⟨q5,q6⟩
 have pv:=B4n scores t (by omega)
 generalize Te scores t=V at*
 obtain⟨vl,vo⟩:=V
 dsimp only at*
 have q:EnQ ⟨key,till,kind,text,list,vl,fields⟩:=⟨q1,q2,q3,q4,vq.1,vq.2,q7,q8,q9,by dsimp only;omega⟩
 have p2:=Bdo vo
 have p3:=Ku b _ (Jb vo) hb.sm q.sm q.fit
 generalize Fq b ⟨key,till,kind,text,list,vl,fields⟩ (Jb vo)=P at*
 simp(maxSteps:=1000000) [Cm,-List.getD_eq_getElem?_getD,-List.map_map,f113,p1,eN,eL,eP,eO,no,Bl,pv,p2,p3]
theorem Be8 (b:Ba) (k:Bp) (t:Bp) (hb:BaG b) (hk:k.length≤40) (ht:t.length≤40):Be (ev R) 113 [.d (Dx b), .d (Bf ([[90,83,67,79,82,69],k,t]))]=some (Bl (Xl b k t)):=Bb fun H=>by
 refine Bh (fn:=f113) rfl rfl ?_
 have p1:=G9 b k hb.sm
 have q:=Dz hb (t:=k) (by omega)
 unfold Xl
 have eN:=Bu [110,117,109,98,101,114]
 have eL:=Bu [108,111,110,103]
 have eP:=Bu [112,108,97,99,101]
 have eO:=Bu [110,111,110,101]
 have no:=Gj
 generalize Ca b k=e at*
 obtain⟨key,till,kind,text,list,scores,fields⟩:=e
 obtain⟨q1,q2,q3,q4,q5,q6,q7,q8,q9,q10⟩:=q
 dsimp only[Df,Ct,Cs,Dk] at*
 have ri:=Xg scores t
 have pr:=Bmp scores t (by omega)
 by_cases a:Je scores t<0
 ·generalize Je scores t=r at*
  have a': ¬ (0:Int)≤r:=by omega
  simp(maxSteps:=1000000) [Cm,-List.getD_eq_getElem?_getD,-List.map_map,f113,p1,eN,eL,eP,eO,no,Bl,pr,eq_true a,M5]
 ·generalize Je scores t=r at*
  obtain⟨j,rfl⟩: ∃j:Nat,r=(j:Int):=⟨r.toNat,by omega⟩
  have c: (j:Int)< (scores.length:Int):=by omega
  have c':j<scores.length:=by omega
  have c0: ¬ (j:Int)<0:=by omega
  have c1: (0:Int)≤(j:Int):=by omega
  have g:=Mv scores j c'
  try rw[Int.toNat_natCast] at*
  have p2:=Jl (scores.getD j ([],0)).2
  generalize scores.getD j ([],0)=s at*
  simp(maxSteps:=1000000) [Cm,-List.getD_eq_getElem?_getD,-List.map_map,f113,p1,eN,eL,eP,eO,no,Bl,pr,c,c',c0,c1,g,p2,Dc]
theorem Bha (b:Ba) (k:Bp) (t:Bp) (hb:BaG b) (hk:k.length≤40) (ht:t.length≤40):Be (ev R) 113 [.d (Dx b), .d (Bf ([[90,82,65,78,75],k,t]))]=some (Bl (Bb5 b k t)):=Bb fun H=>by
 refine Bh (fn:=f113) rfl rfl ?_
 have p1:=G9 b k hb.sm
 have q:=Dz hb (t:=k) (by omega)
 unfold Bb5
 have eN:=Bu [110,117,109,98,101,114]
 have eL:=Bu [108,111,110,103]
 have eP:=Bu [112,108,97,99,101]
 have eO:=Bu [110,111,110,101]
 have no:=Gj
 generalize Ca b k=e at*
 obtain⟨key,till,kind,text,list,scores,fields⟩:=e
 obtain⟨q1,q2,q3,q4,q5,q6,q7,q8,q9,q10⟩:=q
 dsimp only[Df,Ct,Cs,Dk] at*
 have ri:=Xg scores t
 have pr:=Bmp scores t (by omega)
 by_cases a:Je scores t<0
 ·generalize Je scores t=r at*
  have a': ¬ (0:Int)≤r:=by omega
  simp(maxSteps:=1000000) [Cm,-List.getD_eq_getElem?_getD,-List.map_map,f113,p1,eN,eL,eP,eO,no,Bl,pr,eq_true a,M5]
 ·generalize Je scores t=r at*
  obtain⟨j,rfl⟩: ∃j:Nat,r=(j:Int):=⟨r.toNat,by omega⟩
  have c: (j:Int)< (scores.length:Int):=by omega
  have c':j<scores.length:=by omega
  have c0: ¬ (j:Int)<0:=by omega
  have c1: (0:Int)≤(j:Int):=by omega
  have g:=Mv scores j c'
  try rw[Int.toNat_natCast] at*
  have p2:=Jl j
  simp(maxSteps:=1000000) [Cm,-List.getD_eq_getElem?_getD,-List.map_map,f113,p1,eN,eL,eP,eO,no,Bl,pr,c,c',c0,c1,g,p2,Dc]
theorem Bkd (b:Ba) (k:Bp) (n:Bp) (t:Bp) (hb:BaG b) (hk:k.length≤40) (hn:n.length≤40) (ht:t.length≤40):Be (ev R) 113 [.d (Dx b), .d (Bf ([[90,65,68,68],k,n,t]))]=some (Bl (Bdz b k n t)):=Bb fun H=>by
 refine Bh (fn:=f113) rfl rfl ?_
 have p1:=G9 b k hb.sm
 have q:=Dz hb (t:=k) (by omega)
 unfold Bdz
 have eN:=Bu [110,117,109,98,101,114]
 have eL:=Bu [108,111,110,103]
 have eP:=Bu [112,108,97,99,101]
 have eO:=Bu [110,111,110,101]
 have no:=Gj
 generalize Ca b k=e at*
 obtain⟨key,till,kind,text,list,scores,fields⟩:=e
 obtain⟨q1,q2,q3,q4,q5,q6,q7,q8,q9,q10⟩:=q
 dsimp only[Df,Ct,Cs,Dk] at*
 have i0:=Ji n
 have pi0:=Lx n (by omega)
 generalize Fe n=I0 at*
 obtain⟨n0,o0⟩:=I0
 dsimp only at*
 have vq:=Bnb scores (t,n0) ⟨q5,q6⟩
 have pv:=Byc scores (t,n0) (by omega)
 have pvn:=Brq scores (t,n0) (by omega)
 generalize Jy scores (t,n0)=V at*
 obtain⟨vl,vf,vo⟩:=V
 dsimp only at*
 have q:EnQ ⟨key,till,4,text,list,vl,fields⟩:=⟨q1,q2,q3,q4,vq.1,vq.2,q7,q8,q9,by dsimp only;omega⟩
 have pr:=Bmp scores t (by omega)
 have p2:=Bdo vf
 have p3:=Ku b _ (Jb vf) hb.sm q.sm q.fit
 generalize Fq b ⟨key,till,4,text,list,vl,fields⟩ (Jb vf)=P at*
 generalize Je scores t=r at*
 cases o0
 ·simp(maxSteps:=1000000) [Cm,-List.getD_eq_getElem?_getD,-List.map_map,f113,p1,eN,eL,eP,eO,no,Bl,pi0,Du]
 ·cases vo
  ·simp(maxSteps:=1000000) [Cm,-List.getD_eq_getElem?_getD,-List.map_map,f113,p1,eN,eL,eP,eO,no,Bl,pi0,pr,pv,pvn,Du]
  ·simp(maxSteps:=1000000) [Cm,-List.getD_eq_getElem?_getD,-List.map_map,f113,p1,eN,eL,eP,eO,no,Bl,pi0,pr,pv,pvn,p2,p3]
theorem Bww (xs:List Sc) (t:Bp) (n:Int) (hx:ScQ xs) (hn: -1000000000≤n∧n≤1000000000): -3000000000≤U2 xs t n∧U2 xs t n≤3000000000:=by
 unfold U2
 split
 ·omega
 ·rename_i h
  have:=Xg xs t
  have:=hx.2 _ (Gp (xs:=xs) (i:=(Je xs t).toNat) (d:=([],0)) (by omega))
  omega
theorem Bco (b:Ba) (k:Bp) (n:Bp) (t:Bp) (hb:BaG b) (hk:k.length≤40) (hn:n.length≤40) (ht:t.length≤40):Be (ev R) 113 [.d (Dx b), .d (Bf ([[90,73,78,67,82,66,89],k,n,t]))]=some (Bl (Qo b k n t)):=Bb fun H=>by
 refine Bh (fn:=f113) rfl rfl ?_
 have p1:=G9 b k hb.sm
 have q:=Dz hb (t:=k) (by omega)
 unfold Qo
 have eN:=Bu [110,117,109,98,101,114]
 have eL:=Bu [108,111,110,103]
 have eP:=Bu [112,108,97,99,101]
 have eO:=Bu [110,111,110,101]
 have no:=Gj
 generalize Ca b k=e at*
 obtain⟨key,till,kind,text,list,scores,fields⟩:=e
 obtain⟨q1,q2,q3,q4,q5,q6,q7,q8,q9,q10⟩:=q
 dsimp only[Df,Ct,Cs,Dk] at*
 have i0:=Ji n
 have pi0:=Lx n (by omega)
 generalize Fe n=I0 at*
 obtain⟨n0,o0⟩:=I0
 dsimp only at*
 have si:=Bww scores t n0 ⟨q5,q6⟩ i0
 have hs: ∀j:Nat,Je scores t=(j:Int)→U2 scores t n0=n0+(scores.getD j ([],0)).2:=fun j hj=>by unfold U2;rw[hj,Int.toNat_natCast,if_neg (by omega)]
 have hs0:Je scores t<0→U2 scores t n0=n0:=fun h=>by unfold U2;rw[if_pos h]
 have pv0:=Byc scores (t,U2 scores t n0) (by omega)
 have pv0n:=Brq scores (t,U2 scores t n0) (by omega)
 have vq:=Bnb scores (t,U2 scores t n0) ⟨q5,q6⟩
 have pi2:=Jl (U2 scores t n0)
 generalize U2 scores t n0=S at*
 generalize Jy scores (t,S)=V at*
 obtain⟨vl,vf,vo⟩:=V
 dsimp only at*
 have q:EnQ ⟨key,till,4,text,list,vl,fields⟩:=⟨q1,q2,q3,q4,vq.1,vq.2,q7,q8,q9,by dsimp only;omega⟩
 have p3:=Ku b _ (Dc S) hb.sm q.sm q.fit
 generalize Fq b ⟨key,till,4,text,list,vl,fields⟩ (Dc S)=P at*
 unfold Dc at p3
 have ri:=Xg scores t
 have pr:=Bmp scores t (by omega)
 cases o0
 ·simp(maxSteps:=1000000) [Cm,-List.getD_eq_getElem?_getD,-List.map_map,f113,p1,eN,eL,eP,eO,no,Bl,pi0,Du]
 by_cases a:Je scores t<0
 ·generalize Je scores t=r at*
  have a': ¬ (0:Int)≤r:=by omega
  have hs1:=hs0 a
  subst hs1
  cases vo
  ·simp(maxSteps:=1000000) [Cm,-List.getD_eq_getElem?_getD,-List.map_map,f113,p1,eN,eL,eP,eO,no,Bl,pi0,pr,eq_true a,a',pv0,pv0n,Du]
  ·simp(maxSteps:=1000000) [Cm,-List.getD_eq_getElem?_getD,-List.map_map,f113,p1,eN,eL,eP,eO,no,Bl,pi0,pr,eq_true a,a',pv0,pv0n,pi2,p3]
 ·generalize Je scores t=r at*
  obtain⟨j,rfl⟩: ∃j:Nat,r=(j:Int):=⟨r.toNat,by omega⟩
  have hs1:=hs j rfl
  have c: (j:Int)< (scores.length:Int):=by omega
  have c':j<scores.length:=by omega
  have c0: ¬ (j:Int)<0:=by omega
  have c1: (0:Int)≤(j:Int):=by omega
  have g:=Mv scores j c'
  try rw[Int.toNat_natCast] at*
  have w:IntKind.i64.wrap (n0+(scores.getD j ([],0)).2)=S:=by rw[←hs1];exact IntWalk.i64_in _ (by omega)
  generalize scores.getD j ([],0)=s at*
  cases vo
  ·simp(maxSteps:=1000000) [Cm,-List.getD_eq_getElem?_getD,-List.map_map,f113,p1,eN,eL,eP,eO,no,Bl,pi0,pr,c,c',c0,c1,g,w,pv0,pv0n,Du]
  ·simp(maxSteps:=1000000) [Cm,-List.getD_eq_getElem?_getD,-List.map_map,f113,p1,eN,eL,eP,eO,no,Bl,pi0,pr,c,c',c0,c1,g,w,pv0,pv0n,pi2,p3]
theorem Be7 (b:Ba) (k:Bp) (n:Bp) (m:Bp) (hb:BaG b) (hk:k.length≤40) (hn:n.length≤40) (hm:m.length≤40):Be (ev R) 113 [.d (Dx b), .d (Bf ([[90,82,65,78,71,69],k,n,m]))]=some (Bl (Tw b k n m)):=Bb fun H=>by
 refine Bh (fn:=f113) rfl rfl ?_
 have p1:=G9 b k hb.sm
 have q:=Dz hb (t:=k) (by omega)
 unfold Tw
 have eN:=Bu [110,117,109,98,101,114]
 have eL:=Bu [108,111,110,103]
 have eP:=Bu [112,108,97,99,101]
 have eO:=Bu [110,111,110,101]
 have no:=Gj
 generalize Ca b k=e at*
 obtain⟨key,till,kind,text,list,scores,fields⟩:=e
 obtain⟨q1,q2,q3,q4,q5,q6,q7,q8,q9,q10⟩:=q
 dsimp only[Df,Ct,Cs,Dk] at*
 have i0:=Ji n
 have pi0:=Lx n (by omega)
 have i1:=Ji m
 have pi1:=Lx m (by omega)
 generalize Fe n=I0 at*
 obtain⟨n0,o0⟩:=I0
 generalize Fe m=I1 at*
 obtain⟨n1,o1⟩:=I1
 dsimp only at*
 have vq:=Bz0 scores n0 n1 ⟨q5,q6⟩
 have pv:=B4o scores n0 n1 (by omega)
 generalize Bs9 scores n0 n1=ZV at*
 have p4:=Byd ZV (by have:=vq.1;omega)
 have p2:=Xb (Mf ZV)
 generalize Mf ZV=N at*
 cases o0<;>cases o1
 ·simp(maxSteps:=1000000) [Cm,-List.getD_eq_getElem?_getD,-List.map_map,f113,p1,eN,eL,eP,eO,no,Bl,pi0,pi1,Du]
 ·simp(maxSteps:=1000000) [Cm,-List.getD_eq_getElem?_getD,-List.map_map,f113,p1,eN,eL,eP,eO,no,Bl,pi0,pi1,Du]
 ·simp(maxSteps:=1000000) [Cm,-List.getD_eq_getElem?_getD,-List.map_map,f113,p1,eN,eL,eP,eO,no,Bl,pi0,pi1,Du]
 ·simp(maxSteps:=1000000) [Cm,-List.getD_eq_getElem?_getD,-List.map_map,f113,p1,eN,eL,eP,eO,no,Bl,pi0,pi1,pv,p4,p2,Jj]
theorem Ue (b:Ba) (k:Bp) (n:Bp) (m:Bp) (hb:BaG b) (hk:k.length≤40) (hn:n.length≤40) (hm:m.length≤40):Be (ev R) 113 [.d (Dx b), .d (Bf ([[90,82,65,78,71,69,66,89,83,67,79,82,69],k,n,m]))]=some (Bl (J7 b k n m)):=Bb fun H=>by
 refine Bh (fn:=f113) rfl rfl ?_
 have p1:=G9 b k hb.sm
 have q:=Dz hb (t:=k) (by omega)
 unfold J7
 have eN:=Bu [110,117,109,98,101,114]
 have eL:=Bu [108,111,110,103]
 have eP:=Bu [112,108,97,99,101]
 have eO:=Bu [110,111,110,101]
 have no:=Gj
 generalize Ca b k=e at*
 obtain⟨key,till,kind,text,list,scores,fields⟩:=e
 obtain⟨q1,q2,q3,q4,q5,q6,q7,q8,q9,q10⟩:=q
 dsimp only[Df,Ct,Cs,Dk] at*
 have i0:=Ji n
 have pi0:=Lx n (by omega)
 have i1:=Ji m
 have pi1:=Lx m (by omega)
 generalize Fe n=I0 at*
 obtain⟨n0,o0⟩:=I0
 generalize Fe m=I1 at*
 obtain⟨n1,o1⟩:=I1
 dsimp only at*
 have vq:=B38 scores n0 n1 ⟨q5,q6⟩
 have pv:=B3x scores n0 n1 (by omega)
 generalize rBy scores n0 n1=ZV at*
 have p4:=Byd ZV (by have:=vq.1;omega)
 have p2:=Xb (Mf ZV)
 generalize Mf ZV=N at*
 cases o0<;>cases o1
 ·simp(maxSteps:=1000000) [Cm,-List.getD_eq_getElem?_getD,-List.map_map,f113,p1,eN,eL,eP,eO,no,Bl,pi0,pi1,Du]
 ·simp(maxSteps:=1000000) [Cm,-List.getD_eq_getElem?_getD,-List.map_map,f113,p1,eN,eL,eP,eO,no,Bl,pi0,pi1,Du]
 ·simp(maxSteps:=1000000) [Cm,-List.getD_eq_getElem?_getD,-List.map_map,f113,p1,eN,eL,eP,eO,no,Bl,pi0,pi1,Du]
 ·simp(maxSteps:=1000000) [Cm,-List.getD_eq_getElem?_getD,-List.map_map,f113,p1,eN,eL,eP,eO,no,Bl,pi0,pi1,pv,p4,p2,Jj]
def Bhj (b:Ba) (k:Bp):Ba×Re:=(b,Dc (Ca b k).fields.length)
def Rs (xs:List Pr):List Bp:=xs.flatMap fun p=> [p.1,p.2]
def Sm (b:Ba) (k:Bp):Ba×Re:=(b,Jj (Rs (Ca b k).fields))
def Bhi (b:Ba) (k t:Bp):Ba×Re:=(b,if(Tc (Ca b k).fields t).2=true then K8 (Tc (Ca b k).fields t).1 else M5)
def Bdt (b:Ba) (k t:Bp):Ba×Re:=Fq b (Cs (Ca b k) (Ca b k).kind (Ta (Ca b k).fields t).1) (Jb (Ta (Ca b k).fields t).2)
def Bdu (b:Ba) (k f t:Bp):Ba×Re:=if(Jw (Ca b k).fields (f,t)).2.2=true then Fq b (Cs (Ca b k) 5 (Jw (Ca b k).fields (f,t)).1) (Jb (Jw (Ca b k).fields (f,t)).2.1) else(b,Du [108,111,110,103])
def Bs0 (xs:List Pr) (f y:Bp):Int×Bool:=Xw (Tc xs f).1 (Tc xs f).2 y
def Ql (b:Ba) (k f y:Bp):Ba×Re:=if(Bs0 (Ca b k).fields f y).2=true then(if(Jw (Ca b k).fields (f,K5 (Bs0 (Ca b k).fields f y).1)).2.2=true then Fq b (Cs (Ca b k) 5 (Jw (Ca b k).fields (f,K5 (Bs0 (Ca b k).fields f y).1)).1) (Dc (Bs0 (Ca b k).fields f y).1) else(b,Du [108,111,110,103])) else(b,Du [110,117,109,98,101,114])
theorem Bpi (xs:List Pr) (f:Bp) (h:PrQ xs): (Tc xs f).1.length≤1000000:=by
 unfold Tc
 split
 ·exact(Wt (P:=fun x:Pr=>x.1.length≤1000000∧x.2.length≤1000000) h.2 (by simp) _).2
 ·simp
theorem Bkh (b:Ba) (k:Bp) (hb:BaG b) (hk:k.length≤40):Be (ev R) 114 [.d (Dx b), .d (Bf ([[72,76,69,78],k]))]=some (Bl (Bhj b k)):=Bb fun H=>by
 refine Bh (fn:=f114) rfl rfl ?_
 have p1:=G9 b k hb.sm
 have q:=Dz hb (t:=k) (by omega)
 unfold Bhj
 have eN:=Bu [110,117,109,98,101,114]
 have eL:=Bu [108,111,110,103]
 have eP:=Bu [112,108,97,99,101]
 have eO:=Bu [110,111,110,101]
 have no:=Gj
 generalize Ca b k=e at*
 obtain⟨key,till,kind,text,list,scores,fields⟩:=e
 obtain⟨q1,q2,q3,q4,q5,q6,q7,q8,q9,q10⟩:=q
 dsimp only[Df,Ct,Cs,Dk] at*
 have p2:=Jl fields.length
 simp(maxSteps:=1000000) [Cm,-List.getD_eq_getElem?_getD,-List.map_map,f114,p1,eN,eL,eP,eO,no,Bl,p2,Dc]
theorem Bkg (b:Ba) (k:Bp) (t:Bp) (hb:BaG b) (hk:k.length≤40) (ht:t.length≤40):Be (ev R) 114 [.d (Dx b), .d (Bf ([[72,71,69,84],k,t]))]=some (Bl (Bhi b k t)):=Bb fun H=>by
 refine Bh (fn:=f114) rfl rfl ?_
 have p1:=G9 b k hb.sm
 have q:=Dz hb (t:=k) (by omega)
 unfold Bhi
 have eN:=Bu [110,117,109,98,101,114]
 have eL:=Bu [108,111,110,103]
 have eP:=Bu [112,108,97,99,101]
 have eO:=Bu [110,111,110,101]
 have no:=Gj
 generalize Ca b k=e at*
 obtain⟨key,till,kind,text,list,scores,fields⟩:=e
 obtain⟨q1,q2,q3,q4,q5,q6,q7,q8,q9,q10⟩:=q
 dsimp only[Df,Ct,Cs,Dk] at*
 have pv:=Byk fields t (by omega)
 generalize Tc fields t=V at*
 obtain⟨vs,vo⟩:=V
 dsimp only at*
 have p2:=Bdn vs
 cases vo
 ·simp(maxSteps:=1000000) [Cm,-List.getD_eq_getElem?_getD,-List.map_map,f114,p1,eN,eL,eP,eO,no,Bl,pv,M5]
 ·simp(maxSteps:=1000000) [Cm,-List.getD_eq_getElem?_getD,-List.map_map,f114,p1,eN,eL,eP,eO,no,Bl,pv,p2,K8]
theorem Bkf (b:Ba) (k:Bp) (t:Bp) (hb:BaG b) (hk:k.length≤40) (ht:t.length≤40):Be (ev R) 114 [.d (Dx b), .d (Bf ([[72,68,69,76],k,t]))]=some (Bl (Bdt b k t)):=Bb fun H=>by
 refine Bh (fn:=f114) rfl rfl ?_
 have p1:=G9 b k hb.sm
 have q:=Dz hb (t:=k) (by omega)
 unfold Bdt
 have eN:=Bu [110,117,109,98,101,114]
 have eL:=Bu [108,111,110,103]
 have eP:=Bu [112,108,97,99,101]
 have eO:=Bu [110,111,110,101]
 have no:=Gj
 generalize Ca b k=e at*
 obtain⟨key,till,kind,text,list,scores,fields⟩:=e
 obtain⟨q1,q2,q3,q4,q5,q6,q7,q8,q9,q10⟩:=q
 dsimp only[Df,Ct,Cs,Dk] at*
 have vq:=Bs4 fields t ⟨q7,q8⟩
 have pv:=B4p fields t (by omega)
 generalize Ta fields t=V at*
 obtain⟨vl,vo⟩:=V
 dsimp only at*
 have q:EnQ ⟨key,till,kind,text,list,scores,vl⟩:=⟨q1,q2,q3,q4,q5,q6,vq.1,vq.2,q9,by dsimp only;omega⟩
 have p2:=Bdo vo
 have p3:=Ku b _ (Jb vo) hb.sm q.sm q.fit
 generalize Fq b ⟨key,till,kind,text,list,scores,vl⟩ (Jb vo)=P at*
 simp(maxSteps:=1000000) [Cm,-List.getD_eq_getElem?_getD,-List.map_map,f114,p1,eN,eL,eP,eO,no,Bl,pv,p2,p3]
theorem Bki (b:Ba) (k:Bp) (f:Bp) (t:Bp) (hb:BaG b) (hk:k.length≤40) (hf:f.length≤40) (ht:t.length≤40):Be (ev R) 114 [.d (Dx b), .d (Bf ([[72,83,69,84],k,f,t]))]=some (Bl (Bdu b k f t)):=Bb fun H=>by
 refine Bh (fn:=f114) rfl rfl ?_
 have p1:=G9 b k hb.sm
 have q:=Dz hb (t:=k) (by omega)
 unfold Bdu
 have eN:=Bu [110,117,109,98,101,114]
 have eL:=Bu [108,111,110,103]
 have eP:=Bu [112,108,97,99,101]
 have eO:=Bu [110,111,110,101]
 have no:=Gj
 generalize Ca b k=e at*
 obtain⟨key,till,kind,text,list,scores,fields⟩:=e
 obtain⟨q1,q2,q3,q4,q5,q6,q7,q8,q9,q10⟩:=q
 dsimp only[Df,Ct,Cs,Dk] at*
 have vq:=Bm9 fields (f,t) ⟨q7,q8⟩
 have pv:=Byb fields (f,t) (by omega)
 have pvn:=Bro fields (f,t) (by omega)
 generalize Jw fields (f,t)=V at*
 obtain⟨vl,vf,vo⟩:=V
 dsimp only at*
 have q:EnQ ⟨key,till,5,text,list,scores,vl⟩:=⟨q1,q2,q3,q4,q5,q6,vq.1,vq.2,q9,by dsimp only;omega⟩
 have p2:=Bdo vf
 have p3:=Ku b _ (Jb vf) hb.sm q.sm q.fit
 generalize Fq b ⟨key,till,5,text,list,scores,vl⟩ (Jb vf)=P at*
 cases vo
 ·simp(maxSteps:=1000000) [Cm,-List.getD_eq_getElem?_getD,-List.map_map,f114,p1,eN,eL,eP,eO,no,Bl,pv,pvn,Du]
 ·simp(maxSteps:=1000000) [Cm,-List.getD_eq_getElem?_getD,-List.map_map,f114,p1,eN,eL,eP,eO,no,Bl,pv,pvn,p2,p3]
theorem Bcq (b:Ba) (k:Bp) (f:Bp) (y:Bp) (hb:BaG b) (hk:k.length≤40) (hf:f.length≤40) (hy:y.length≤40):Be (ev R) 114 [.d (Dx b), .d (Bf ([[72,73,78,67,82,66,89],k,f,y]))]=some (Bl (Ql b k f y)):=Bb fun H=>by
 refine Bh (fn:=f114) rfl rfl ?_
 have p1:=G9 b k hb.sm
 have q:=Dz hb (t:=k) (by omega)
 unfold Ql
 have eN:=Bu [110,117,109,98,101,114]
 have eL:=Bu [108,111,110,103]
 have eP:=Bu [112,108,97,99,101]
 have eO:=Bu [110,111,110,101]
 have no:=Gj
 generalize Ca b k=e at*
 obtain⟨key,till,kind,text,list,scores,fields⟩:=e
 obtain⟨q1,q2,q3,q4,q5,q6,q7,q8,q9,q10⟩:=q
 dsimp only[Df,Ct,Cs,Dk] at*
 unfold Bs0
 have gl:=Bpi fields f ⟨q7,q8⟩
 have pv:=Byk fields f (by omega)
 generalize Tc fields f=V at*
 obtain⟨gs,go⟩:=V
 dsimp only at*
 have pa:=Brt gs go y (by omega) (by omega)
 have ai:=Bec gs go y
 generalize Xw gs go y=A at*
 obtain⟨n,ao⟩:=A
 dsimp only at*
 have pd:=Bkm n ai
 have pw:=Byb fields (f,K5 n) (by omega)
 have pwn:=Bro fields (f,K5 n) (by omega)
 have vq:=Bm9 fields (f,K5 n) ⟨q7,q8⟩
 generalize K5 n=D at*
 generalize Jw fields (f,D)=V at*
 obtain⟨vl,vf,vo⟩:=V
 dsimp only at*
 have q:EnQ ⟨key,till,5,text,list,scores,vl⟩:=⟨q1,q2,q3,q4,q5,q6,vq.1,vq.2,q9,by dsimp only;omega⟩
 have p2:=Jl n
 have p3:=Ku b _ (Dc n) hb.sm q.sm q.fit
 generalize Fq b ⟨key,till,5,text,list,scores,vl⟩ (Dc n)=P at*
 unfold Dc at p3
 cases ao
 ·simp(maxSteps:=1000000) [Cm,-List.getD_eq_getElem?_getD,-List.map_map,f114,p1,eN,eL,eP,eO,no,Bl,pv,pa,Du]
 ·cases vo
  ·simp(maxSteps:=1000000) [Cm,-List.getD_eq_getElem?_getD,-List.map_map,f114,p1,eN,eL,eP,eO,no,Bl,pv,pa,pd,pw,pwn,Du]
  ·simp(maxSteps:=1000000) [Cm,-List.getD_eq_getElem?_getD,-List.map_map,f114,p1,eN,eL,eP,eO,no,Bl,pv,pa,pd,pw,pwn,p2,p3]
theorem Bdr (xs:List Pr): (Rs xs).length=2*xs.length:=by
 unfold Rs
 induction xs with
 |nil=>rfl
 |cons x xs ih=>rw[List.flatMap_cons,List.length_append,ih];simp;omega
theorem Bkq (xs:List Pr) (i:Nat) (hi:i<xs.length):Rs (xs.take (i+1))=Rs (xs.take i)++[(xs.getD i ([],[])).1,(xs.getD i ([],[])).2]:=by
 rw[Jv xs i ([],[]) hi]
 simp only[Rs,List.flatMap_append,List.flatMap_cons,List.flatMap_nil,List.append_nil]
theorem B1i (H:Hp) (A B C:Ev.Obj) (E:En) (hf:E.fields.length≤1000):
  Gives (fun o e X=>o= .exit 1∧X=ap H [A,B,C, .row 0 7 [.d (F6 E)], .row E.fields.length 1 (((Rs E.fields).map D.str).map V.d)]∧e.get 2= .ptr (Bc H) 0 0 0∧e.get 4= .ptr (Bc H+1) 0 0 0∧e.get 5= .ptr (Bc H+2) 0 0 0∧e.get 7= .slc (Bc H+4) E.fields.length 0 (2*E.fields.length))
   (Bg (Bq (ev R) R.glob (Bc H) Bg Bax) [2,4,5,6,7,8] ⟨[(2, .ptr (Bc H) 0 0 0),(4, .ptr (Bc H+1) 0 0 0),(5, .ptr (Bc H+2) 0 0 0),(6, .ptr (Bc H+3) 0 0 0),(7, .slc (Bc H+4) 0 0 0),(8, .d (.int .i64 0))],ap H [A,B,C, .row 0 7 [.d (F6 E)], .row 0 1 []]⟩):=by
 refine Dh (F:=Bq (ev R) R.glob (Bc H) Bg Bax) (lv:=[2,4,5,6,7,8]) E.fields.length
  (fun i e X=> ∃zs:List Bp,zs=Rs (E.fields.take i)∧X=ap H [A,B,C, .row 0 7 [.d (F6 E)], .row i 1 ((zs.map D.str).map V.d)]∧e.get 2= .ptr (Bc H) 0 0 0∧e.get 4= .ptr (Bc H+1) 0 0 0∧e.get 5= .ptr (Bc H+2) 0 0 0∧e.get 6= .ptr (Bc H+3) 0 0 0∧e.get 7= .slc (Bc H+4) i 0 (2*i)∧e.get 8= .d (.int .i64 i))
  _ ?_ ?_ E.fields.length 0 _ _ (by omega) ⟨[],by simp[Rs],rfl,rfl,rfl,rfl,rfl,rfl,rfl⟩
 ·rintro e X ⟨zs,hz,rfl,g2,g4,g5,g6,g7,g8⟩
  rw[List.take_length] at hz
  subst hz
  generalize Rs E.fields=zs
  simp(maxSteps:=1000000) [Cm,-List.getD_eq_getElem?_getD,-List.map_map,Bax,g2,g4,g5,g6,g7,g8]
 ·rintro i e X hi ⟨zs,hz,rfl,g2,g4,g5,g6,g7,g8⟩
  have c: (i:Int)< (E.fields.length:Int):=by omega
  have c0: (0:Int)≤(i:Int):=by omega
  have g:=Xd E.fields i hi
  have hn:=Bkq E.fields i hi
  rw[←hz] at hn
  have hl:zs.length=2*i:=by rw[hz,Bdr,List.length_take];omega
  have w1:IntKind.i64.wrap ((i:Int)+1)=(i:Int)+1:=IntWalk.i64_in _ (by omega)
  have r: (2*i+2)*16≤Cv:=by unfold Cv;omega
  have h2:2*(i+1)=2*i+2:=by omega
  generalize E.fields.getD i ([],[])=x at*
  simp(maxSteps:=1000000) [Cm,-List.getD_eq_getElem?_getD,-List.map_map,Bax,g2,g4,g5,g6,g7,g8,c,c0,hi,g,hn,hl,w1,r,h2]
theorem Bcp (b:Ba) (k:Bp) (hb:BaG b) (hk:k.length≤40):Be (ev R) 114 [.d (Dx b), .d (Bf [[72,71,69,84,65,76,76],k])]=some (Bl (Sm b k)):=Bb fun H=>by
 refine Bh (fn:=f114) rfl rfl ?_
 have p1:=G9 b k hb.sm
 have q:=Dz hb (t:=k) (by omega)
 unfold Sm
 generalize Ca b k=e at*
 have lp:=fun A B C=> (B1i H A B C e q.fields).out
 have p2:=fun H=>D8 (Xb (Rs e.fields)) H
 have hl:=Bdr e.fields
 generalize Rs e.fields=zs at*
 obtain⟨o,e',X',he,rfl,rfl,g2,g4,g5,g7⟩:=lp (.row 0 2 [.d (Dx b)]) (.row 0 2 [.agg [.d (.int .i64 0), .nils 7]]) (.row 0 5 [.agg [.d (.int .i64 0), .d (.int .i64 0), .d (.str []), .nils 1, .nils 5]])
 have ft:List.take (2*e.fields.length) (zs.map D.str)=zs.map D.str:=List.take_of_length_le (by simp;omega)
 have ft2:2*e.fields.length≤zs.length:=by omega
 simp(maxSteps:=1000000) [Cm,-List.getD_eq_getElem?_getD,-List.map_map,f114,p1,p2,he,g2,g4,g5,g7,Bl,Jj,ft,ft2]
end Go.Proofs.YtjdmiodinhlchaaGreat.Code

/- Lemmas (several texts in one). -/
import Derived.Test.YtedlandcnpjghaaGreatDoorMRecord7
import Derived.Test.YtedlandcnpjghaaGreatDoorMRecord26
set_option maxRecDepth 100000
set_option maxHeartbeats 2000000
set_option linter.unusedSimpArgs false
set_option linter.unusedVariables false
namespace Go.Proofs.YtedlandcnpjghaaGreatDoor.Code
open Go Go.Ev Go.Proofs
def Bcq (b:Ba) (k:Bl):Ba×Re:=(b,Cv (Ca b k).scores.length)
def Beu (b:Ba) (k t:Bl):Ba×Re:=Ff b (Cn (Ca b k) (Ca b k).kind (Tt (Ca b k).scores t).1) (Gy (Tt (Ca b k).scores t).2)
def Yc (b:Ba) (k t:Bl):Ba×Re:=(b,if G5 (Ca b k).scores t<0 then Ni else Cv ((Ca b k).scores.getD (G5 (Ca b k).scores t).toNat ([],0)).2)
def Bcr (b:Ba) (k t:Bl):Ba×Re:=(b,if G5 (Ca b k).scores t<0 then Ni else Cv (G5 (Ca b k).scores t))
def Bet (b:Ba) (k n t:Bl):Ba×Re:=if(Dv n).2=true then(if(Na (Ca b k).scores (t,(Dv n).1)).2.2=true then Ff b (Cn (Ca b k) 4 (Na (Ca b k).scores (t,(Dv n).1)).1) (Gy (Na (Ca b k).scores (t,(Dv n).1)).2.1) else(b,Dq [108,111,110,103])) else(b,Dq [110,117,109,98,101,114])
def Wt (xs:List Sc) (t:Bl) (n:Int):Int:=if G5 xs t<0 then n else n+(xs.getD (G5 xs t).toNat ([],0)).2
def Qv (b:Ba) (k n t:Bl):Ba×Re:=if(Dv n).2=true then(if(Na (Ca b k).scores (t,Wt (Ca b k).scores t (Dv n).1)).2.2=true then Ff b (Cn (Ca b k) 4 (Na (Ca b k).scores (t,Wt (Ca b k).scores t (Dv n).1)).1) (Cv (Wt (Ca b k).scores t (Dv n).1)) else(b,Dq [108,111,110,103])) else(b,Dq [110,117,109,98,101,114])
def Ul (b:Ba) (k n m:Bl):Ba×Re:=if(Dv n).2=true∧(Dv m).2=true then(b,G9 (Mi (Btx (Ca b k).scores (Dv n).1 (Dv m).1))) else(b,Dq [110,117,109,98,101,114])
def Jt (b:Ba) (k n m:Bl):Ba×Re:=if(Dv n).2=true∧(Dv m).2=true then(b,G9 (Mi (rBy (Ca b k).scores (Dv n).1 (Dv m).1))) else(b,Dq [110,117,109,98,101,114])
theorem X8 (xs:List Sc) (t:Bl): -1≤G5 xs t∧G5 xs t<xs.length:=by
 unfold G5
 split
 ·split
  ·constructor<;>omega
  ·constructor<;>omega
 ·constructor<;>omega
theorem Bkx (b:Ba) (k:Bl) (hb:BaG b) (hk:k.length≤40):Be (ev R) 63 [.d (D6 b), .d (Bf ([[90,67,65,82,68],k]))]=some (Bj (Bcq b k)):=Bb fun H=>by
 refine Bo (fn:=f63) rfl rfl ?_
 have p1:=Gw b k hb.sm
 have q:=Dx hb (t:=k) (by omega)
 unfold Bcq
 have eN:=Cc [110,117,109,98,101,114]
 have eL:=Cc [108,111,110,103]
 have eP:=Cc [112,108,97,99,101]
 have eO:=Cc [110,111,110,101]
 have no:=Kj
 generalize Ca b k=e at*
 obtain⟨key,till,kind,text,list,scores,fields⟩:=e
 obtain⟨q1,q2,q3,q4,q5,q6,q7,q8,q9,q10⟩:=q
 dsimp only[C8,Cn,Cm,Df] at*
 have p2:=Lr scores.length
 simp(maxSteps:=1000000) [Cq,-List.getD_eq_getElem?_getD,-List.map_map,f63,p1,eN,eL,eP,eO,no,Bj,p2,Cv]
theorem Boo (b:Ba) (k:Bl) (t:Bl) (hb:BaG b) (hk:k.length≤40) (ht:t.length≤40):Be (ev R) 63 [.d (D6 b), .d (Bf ([[90,82,69,77],k,t]))]=some (Bj (Beu b k t)):=Bb fun H=>by
 refine Bo (fn:=f63) rfl rfl ?_
 have p1:=Gw b k hb.sm
 have q:=Dx hb (t:=k) (by omega)
 unfold Beu
 have eN:=Cc [110,117,109,98,101,114]
 have eL:=Cc [108,111,110,103]
 have eP:=Cc [112,108,97,99,101]
 have eO:=Cc [110,111,110,101]
 have no:=Kj
 generalize Ca b k=e at*
 obtain⟨key,till,kind,text,list,scores,fields⟩:=e
 obtain⟨q1,q2,q3,q4,q5,q6,q7,q8,q9,q10⟩:=q
 dsimp only[C8,Cn,Cm,Df] at*
 have vq:=Bty scores t ⟨q5,q6⟩
 have pv:=B2z scores t (by omega)
 generalize Tt scores t=V at*
 obtain⟨vl,vo⟩:=V
 dsimp only at*
 have q:EnQ ⟨key,till,kind,text,list,vl,fields⟩:=⟨q1,q2,q3,q4,vq.1,vq.2,q7,q8,q9,by dsimp only;omega⟩
 have p2:=Box vo
 have p3:=Pj b _ (Gy vo) hb.sm q.sm q.fit
 generalize Ff b ⟨key,till,kind,text,list,vl,fields⟩ (Gy vo)=P at*
 simp(maxSteps:=1000000) [Cq,-List.getD_eq_getElem?_getD,-List.map_map,f63,p1,eN,eL,eP,eO,no,Bj,pv,p2,p3]
theorem Bh3 (b:Ba) (k:Bl) (t:Bl) (hb:BaG b) (hk:k.length≤40) (ht:t.length≤40):Be (ev R) 63 [.d (D6 b), .d (Bf ([[90,83,67,79,82,69],k,t]))]=some (Bj (Yc b k t)):=Bb fun H=>by
 refine Bo (fn:=f63) rfl rfl ?_
 have p1:=Gw b k hb.sm
 have q:=Dx hb (t:=k) (by omega)
 unfold Yc
 have eN:=Cc [110,117,109,98,101,114]
 have eL:=Cc [108,111,110,103]
 have eP:=Cc [112,108,97,99,101]
 have eO:=Cc [110,111,110,101]
 have no:=Kj
 generalize Ca b k=e at*
 obtain⟨key,till,kind,text,list,scores,fields⟩:=e
 obtain⟨q1,q2,q3,q4,q5,q6,q7,q8,q9,q10⟩:=q
 dsimp only[C8,Cn,Cm,Df] at*
 have ri:=X8 scores t
 have pr:=Bmx scores t (by omega)
 by_cases a:G5 scores t<0
 ·generalize G5 scores t=r at*
  have a': ¬ (0:Int)≤r:=by omega
  simp(maxSteps:=1000000) [Cq,-List.getD_eq_getElem?_getD,-List.map_map,f63,p1,eN,eL,eP,eO,no,Bj,pr,eq_true a,Ni]
 ·generalize G5 scores t=r at*
  obtain⟨j,rfl⟩: ∃j:Nat,r=(j:Int):=⟨r.toNat,by omega⟩
  have c: (j:Int)< (scores.length:Int):=by omega
  have c':j<scores.length:=by omega
  have c0: ¬ (j:Int)<0:=by omega
  have c1: (0:Int)≤(j:Int):=by omega
  have g:=M8 scores j c'
  try rw[Int.toNat_natCast] at*
  have p2:=Lr (scores.getD j ([],0)).2
  generalize scores.getD j ([],0)=s at*
  simp(maxSteps:=1000000) [Cq,-List.getD_eq_getElem?_getD,-List.map_map,f63,p1,eN,eL,eP,eO,no,Bj,pr,c,c',c0,c1,g,p2,Cv]
theorem Bky (b:Ba) (k:Bl) (t:Bl) (hb:BaG b) (hk:k.length≤40) (ht:t.length≤40):Be (ev R) 63 [.d (D6 b), .d (Bf ([[90,82,65,78,75],k,t]))]=some (Bj (Bcr b k t)):=Bb fun H=>by
 refine Bo (fn:=f63) rfl rfl ?_
 have p1:=Gw b k hb.sm
 have q:=Dx hb (t:=k) (by omega)
 unfold Bcr
 have eN:=Cc [110,117,109,98,101,114]
 have eL:=Cc [108,111,110,103]
 have eP:=Cc [112,108,97,99,101]
 have eO:=Cc [110,111,110,101]
 have no:=Kj
 generalize Ca b k=e at*
 obtain⟨key,till,kind,text,list,scores,fields⟩:=e
 obtain⟨q1,q2,q3,q4,q5,q6,q7,q8,q9,q10⟩:=q
 dsimp only[C8,Cn,Cm,Df] at*
 have ri:=X8 scores t
 have pr:=Bmx scores t (by omega)
 by_cases a:G5 scores t<0
 ·generalize G5 scores t=r at*
  have a': ¬ (0:Int)≤r:=by omega
  simp(maxSteps:=1000000) [Cq,-List.getD_eq_getElem?_getD,-List.map_map,f63,p1,eN,eL,eP,eO,no,Bj,pr,eq_true a,Ni]
 ·generalize G5 scores t=r at*
  obtain⟨j,rfl⟩: ∃j:Nat,r=(j:Int):=⟨r.toNat,by omega⟩
  have c: (j:Int)< (scores.length:Int):=by omega
  have c':j<scores.length:=by omega
  have c0: ¬ (j:Int)<0:=by omega
  have c1: (0:Int)≤(j:Int):=by omega
  have g:=M8 scores j c'
  try rw[Int.toNat_natCast] at*
  have p2:=Lr j
  simp(maxSteps:=1000000) [Cq,-List.getD_eq_getElem?_getD,-List.map_map,f63,p1,eN,eL,eP,eO,no,Bj,pr,c,c',c0,c1,g,p2,Cv]
theorem Bon (b:Ba) (k:Bl) (n:Bl) (t:Bl) (hb:BaG b) (hk:k.length≤40) (hn:n.length≤40) (ht:t.length≤40):Be (ev R) 63 [.d (D6 b), .d (Bf ([[90,65,68,68],k,n,t]))]=some (Bj (Bet b k n t)):=Bb fun H=>by
 refine Bo (fn:=f63) rfl rfl ?_
 have p1:=Gw b k hb.sm
 have q:=Dx hb (t:=k) (by omega)
 unfold Bet
 have eN:=Cc [110,117,109,98,101,114]
 have eL:=Cc [108,111,110,103]
 have eP:=Cc [112,108,97,99,101]
 have eO:=Cc [110,111,110,101]
 have no:=Kj
 generalize Ca b k=e at*
 obtain⟨key,till,kind,text,list,scores,fields⟩:=e
 obtain⟨q1,q2,q3,q4,q5,q6,q7,q8,q9,q10⟩:=q
 dsimp only[C8,Cn,Cm,Df] at*
 have i0:=G8 n
 have pi0:=R3 n (by omega)
 generalize Dv n=I0 at*
 obtain⟨n0,o0⟩:=I0
 dsimp only at*
 have vq:=Bnc scores (t,n0) ⟨q5,q6⟩
 have pv:=Bx4 scores (t,n0) (by omega)
 have pvn:=Br1 scores (t,n0) (by omega)
 generalize Na scores (t,n0)=V at*
 obtain⟨vl,vf,vo⟩:=V
 dsimp only at*
 have q:EnQ ⟨key,till,4,text,list,vl,fields⟩:=⟨q1,q2,q3,q4,vq.1,vq.2,q7,q8,q9,by dsimp only;omega⟩
 have pr:=Bmx scores t (by omega)
 have p2:=Box vf
 have p3:=Pj b _ (Gy vf) hb.sm q.sm q.fit
 generalize Ff b ⟨key,till,4,text,list,vl,fields⟩ (Gy vf)=P at*
 generalize G5 scores t=r at*
 cases o0
 ·simp(maxSteps:=1000000) [Cq,-List.getD_eq_getElem?_getD,-List.map_map,f63,p1,eN,eL,eP,eO,no,Bj,pi0,Dq]
 ·cases vo
  ·simp(maxSteps:=1000000) [Cq,-List.getD_eq_getElem?_getD,-List.map_map,f63,p1,eN,eL,eP,eO,no,Bj,pi0,pr,pv,pvn,Dq]
  ·simp(maxSteps:=1000000) [Cq,-List.getD_eq_getElem?_getD,-List.map_map,f63,p1,eN,eL,eP,eO,no,Bj,pi0,pr,pv,pvn,p2,p3]
theorem Bvy (xs:List Sc) (t:Bl) (n:Int) (hx:ScQ xs) (hn: -1000000000≤n∧n≤1000000000): -3000000000≤Wt xs t n∧Wt xs t n≤3000000000:=by
 unfold Wt
 split
 ·omega
 ·rename_i h
  have:=X8 xs t
  have:=hx.2 _ (Mm (xs:=xs) (i:=(G5 xs t).toNat) (d:=([],0)) (by omega))
  omega
theorem Bfr (b:Ba) (k:Bl) (n:Bl) (t:Bl) (hb:BaG b) (hk:k.length≤40) (hn:n.length≤40) (ht:t.length≤40):Be (ev R) 63 [.d (D6 b), .d (Bf ([[90,73,78,67,82,66,89],k,n,t]))]=some (Bj (Qv b k n t)):=Bb fun H=>by
 refine Bo (fn:=f63) rfl rfl ?_
 have p1:=Gw b k hb.sm
 have q:=Dx hb (t:=k) (by omega)
 unfold Qv
 have eN:=Cc [110,117,109,98,101,114]
 have eL:=Cc [108,111,110,103]
 have eP:=Cc [112,108,97,99,101]
 have eO:=Cc [110,111,110,101]
 have no:=Kj
 generalize Ca b k=e at*
 obtain⟨key,till,kind,text,list,scores,fields⟩:=e
 obtain⟨q1,q2,q3,q4,q5,q6,q7,q8,q9,q10⟩:=q
 dsimp only[C8,Cn,Cm,Df] at*
 have i0:=G8 n
 have pi0:=R3 n (by omega)
 generalize Dv n=I0 at*
 obtain⟨n0,o0⟩:=I0
 dsimp only at*
 have si:=Bvy scores t n0 ⟨q5,q6⟩ i0
 have hs: ∀j:Nat,G5 scores t=(j:Int)→Wt scores t n0=n0+(scores.getD j ([],0)).2:=fun j hj=>by unfold Wt;rw[hj,Int.toNat_natCast,if_neg (by omega)]
 have hs0:G5 scores t<0→Wt scores t n0=n0:=fun h=>by unfold Wt;rw[if_pos h]
 have pv0:=Bx4 scores (t,Wt scores t n0) (by omega)
 have pv0n:=Br1 scores (t,Wt scores t n0) (by omega)
 have vq:=Bnc scores (t,Wt scores t n0) ⟨q5,q6⟩
 have pi2:=Lr (Wt scores t n0)
 generalize Wt scores t n0=S at*
 generalize Na scores (t,S)=V at*
 obtain⟨vl,vf,vo⟩:=V
 dsimp only at*
 have q:EnQ ⟨key,till,4,text,list,vl,fields⟩:=⟨q1,q2,q3,q4,vq.1,vq.2,q7,q8,q9,by dsimp only;omega⟩
 have p3:=Pj b _ (Cv S) hb.sm q.sm q.fit
 generalize Ff b ⟨key,till,4,text,list,vl,fields⟩ (Cv S)=P at*
 unfold Cv at p3
 have ri:=X8 scores t
 have pr:=Bmx scores t (by omega)
 cases o0
 ·simp(maxSteps:=1000000) [Cq,-List.getD_eq_getElem?_getD,-List.map_map,f63,p1,eN,eL,eP,eO,no,Bj,pi0,Dq]
 by_cases a:G5 scores t<0
 ·generalize G5 scores t=r at*
  have a': ¬ (0:Int)≤r:=by omega
  have hs1:=hs0 a
  subst hs1
  cases vo
  ·simp(maxSteps:=1000000) [Cq,-List.getD_eq_getElem?_getD,-List.map_map,f63,p1,eN,eL,eP,eO,no,Bj,pi0,pr,eq_true a,a',pv0,pv0n,Dq]
  ·simp(maxSteps:=1000000) [Cq,-List.getD_eq_getElem?_getD,-List.map_map,f63,p1,eN,eL,eP,eO,no,Bj,pi0,pr,eq_true a,a',pv0,pv0n,pi2,p3]
 ·generalize G5 scores t=r at*
  obtain⟨j,rfl⟩: ∃j:Nat,r=(j:Int):=⟨r.toNat,by omega⟩
  have hs1:=hs j rfl
  have c: (j:Int)< (scores.length:Int):=by omega
  have c':j<scores.length:=by omega
  have c0: ¬ (j:Int)<0:=by omega
  have c1: (0:Int)≤(j:Int):=by omega
  have g:=M8 scores j c'
  try rw[Int.toNat_natCast] at*
  have w:IntKind.i64.wrap (n0+(scores.getD j ([],0)).2)=S:=by rw[←hs1];exact IntWalk.i64_in _ (by omega)
  generalize scores.getD j ([],0)=s at*
  cases vo
  ·simp(maxSteps:=1000000) [Cq,-List.getD_eq_getElem?_getD,-List.map_map,f63,p1,eN,eL,eP,eO,no,Bj,pi0,pr,c,c',c0,c1,g,w,pv0,pv0n,Dq]
  ·simp(maxSteps:=1000000) [Cq,-List.getD_eq_getElem?_getD,-List.map_map,f63,p1,eN,eL,eP,eO,no,Bj,pi0,pr,c,c',c0,c1,g,w,pv0,pv0n,pi2,p3]
theorem Bh2 (b:Ba) (k:Bl) (n:Bl) (m:Bl) (hb:BaG b) (hk:k.length≤40) (hn:n.length≤40) (hm:m.length≤40):Be (ev R) 63 [.d (D6 b), .d (Bf ([[90,82,65,78,71,69],k,n,m]))]=some (Bj (Ul b k n m)):=Bb fun H=>by
 refine Bo (fn:=f63) rfl rfl ?_
 have p1:=Gw b k hb.sm
 have q:=Dx hb (t:=k) (by omega)
 unfold Ul
 have eN:=Cc [110,117,109,98,101,114]
 have eL:=Cc [108,111,110,103]
 have eP:=Cc [112,108,97,99,101]
 have eO:=Cc [110,111,110,101]
 have no:=Kj
 generalize Ca b k=e at*
 obtain⟨key,till,kind,text,list,scores,fields⟩:=e
 obtain⟨q1,q2,q3,q4,q5,q6,q7,q8,q9,q10⟩:=q
 dsimp only[C8,Cn,Cm,Df] at*
 have i0:=G8 n
 have pi0:=R3 n (by omega)
 have i1:=G8 m
 have pi1:=R3 m (by omega)
 generalize Dv n=I0 at*
 obtain⟨n0,o0⟩:=I0
 generalize Dv m=I1 at*
 obtain⟨n1,o1⟩:=I1
 dsimp only at*
 have vq:=Bzs scores n0 n1 ⟨q5,q6⟩
 have pv:=B20 scores n0 n1 (by omega)
 generalize Btx scores n0 n1=ZV at*
 have p4:=Bx5 ZV (by have:=vq.1;omega)
 have p2:=Bfv (Mi ZV)
 generalize Mi ZV=N at*
 cases o0<;>cases o1
 ·simp(maxSteps:=1000000) [Cq,-List.getD_eq_getElem?_getD,-List.map_map,f63,p1,eN,eL,eP,eO,no,Bj,pi0,pi1,Dq]
 ·simp(maxSteps:=1000000) [Cq,-List.getD_eq_getElem?_getD,-List.map_map,f63,p1,eN,eL,eP,eO,no,Bj,pi0,pi1,Dq]
 ·simp(maxSteps:=1000000) [Cq,-List.getD_eq_getElem?_getD,-List.map_map,f63,p1,eN,eL,eP,eO,no,Bj,pi0,pi1,Dq]
 ·simp(maxSteps:=1000000) [Cq,-List.getD_eq_getElem?_getD,-List.map_map,f63,p1,eN,eL,eP,eO,no,Bj,pi0,pi1,pv,p4,p2,G9]
theorem Wo (b:Ba) (k:Bl) (n:Bl) (m:Bl) (hb:BaG b) (hk:k.length≤40) (hn:n.length≤40) (hm:m.length≤40):Be (ev R) 63 [.d (D6 b), .d (Bf ([[90,82,65,78,71,69,66,89,83,67,79,82,69],k,n,m]))]=some (Bj (Jt b k n m)):=Bb fun H=>by
 refine Bo (fn:=f63) rfl rfl ?_
 have p1:=Gw b k hb.sm
 have q:=Dx hb (t:=k) (by omega)
 unfold Jt
 have eN:=Cc [110,117,109,98,101,114]
 have eL:=Cc [108,111,110,103]
 have eP:=Cc [112,108,97,99,101]
 have eO:=Cc [110,111,110,101]
 have no:=Kj
 generalize Ca b k=e at*
 obtain⟨key,till,kind,text,list,scores,fields⟩:=e
 obtain⟨q1,q2,q3,q4,q5,q6,q7,q8,q9,q10⟩:=q
 dsimp only[C8,Cn,Cm,Df] at*
 have i0:=G8 n
 have pi0:=R3 n (by omega)
 have i1:=G8 m
 have pi1:=R3 m (by omega)
 generalize Dv n=I0 at*
 obtain⟨n0,o0⟩:=I0
 generalize Dv m=I1 at*
 obtain⟨n1,o1⟩:=I1
 dsimp only at*
 have vq:=B2q scores n0 n1 ⟨q5,q6⟩
 have pv:=B2g scores n0 n1 (by omega)
 generalize rBy scores n0 n1=ZV at*
 have p4:=Bx5 ZV (by have:=vq.1;omega)
 have p2:=Bfv (Mi ZV)
 generalize Mi ZV=N at*
 cases o0<;>cases o1
 ·simp(maxSteps:=1000000) [Cq,-List.getD_eq_getElem?_getD,-List.map_map,f63,p1,eN,eL,eP,eO,no,Bj,pi0,pi1,Dq]
 ·simp(maxSteps:=1000000) [Cq,-List.getD_eq_getElem?_getD,-List.map_map,f63,p1,eN,eL,eP,eO,no,Bj,pi0,pi1,Dq]
 ·simp(maxSteps:=1000000) [Cq,-List.getD_eq_getElem?_getD,-List.map_map,f63,p1,eN,eL,eP,eO,no,Bj,pi0,pi1,Dq]
 ·simp(maxSteps:=1000000) [Cq,-List.getD_eq_getElem?_getD,-List.map_map,f63,p1,eN,eL,eP,eO,no,Bj,pi0,pi1,pv,p4,p2,G9]
def Bid (b:Ba) (k:Bl):Ba×Re:=(b,Cv (Ca b k).fields.length)
def Rw (xs:List Pr):List Bl:=xs.flatMap fun p=> [p.1,p.2]
def Tc (b:Ba) (k:Bl):Ba×Re:=(b,G9 (Rw (Ca b k).fields))
def Bic (b:Ba) (k t:Bl):Ba×Re:=(b,if(Tp (Ca b k).fields t).2=true then K5 (Tp (Ca b k).fields t).1 else Ni)
def Ben (b:Ba) (k t:Bl):Ba×Re:=Ff b (Cm (Ca b k) (Ca b k).kind (Tn (Ca b k).fields t).1) (Gy (Tn (Ca b k).fields t).2)
def Beo (b:Ba) (k f t:Bl):Ba×Re:=if(M9 (Ca b k).fields (f,t)).2.2=true then Ff b (Cm (Ca b k) 5 (M9 (Ca b k).fields (f,t)).1) (Gy (M9 (Ca b k).fields (f,t)).2.1) else(b,Dq [108,111,110,103])
def Btn (xs:List Pr) (f y:Bl):Int×Bool:=Ym (Tp xs f).1 (Tp xs f).2 y
def Qs (b:Ba) (k f y:Bl):Ba×Re:=if(Btn (Ca b k).fields f y).2=true then(if(M9 (Ca b k).fields (f,Qo (Btn (Ca b k).fields f y).1)).2.2=true then Ff b (Cm (Ca b k) 5 (M9 (Ca b k).fields (f,Qo (Btn (Ca b k).fields f y).1)).1) (Cv (Btn (Ca b k).fields f y).1) else(b,Dq [108,111,110,103])) else(b,Dq [110,117,109,98,101,114])
theorem Bps (xs:List Pr) (f:Bl) (h:PrQ xs): (Tp xs f).1.length≤1000000:=by
 unfold Tp
 split
 ·exact(Xp (P:=fun x:Pr=>x.1.length≤1000000∧x.2.length≤1000000) h.2 (by simp) _).2
 ·simp
theorem Bor (b:Ba) (k:Bl) (hb:BaG b) (hk:k.length≤40):Be (ev R) 64 [.d (D6 b), .d (Bf ([[72,76,69,78],k]))]=some (Bj (Bid b k)):=Bb fun H=>by
 refine Bo (fn:=f64) rfl rfl ?_
 have p1:=Gw b k hb.sm
 have q:=Dx hb (t:=k) (by omega)
 unfold Bid
 have eN:=Cc [110,117,109,98,101,114]
 have eL:=Cc [108,111,110,103]
 have eP:=Cc [112,108,97,99,101]
 have eO:=Cc [110,111,110,101]
 have no:=Kj
 generalize Ca b k=e at*
 obtain⟨key,till,kind,text,list,scores,fields⟩:=e
 obtain⟨q1,q2,q3,q4,q5,q6,q7,q8,q9,q10⟩:=q
 dsimp only[C8,Cn,Cm,Df] at*
 have p2:=Lr fields.length
 simp(maxSteps:=1000000) [Cq,-List.getD_eq_getElem?_getD,-List.map_map,f64,p1,eN,eL,eP,eO,no,Bj,p2,Cv]
theorem Boq (b:Ba) (k:Bl) (t:Bl) (hb:BaG b) (hk:k.length≤40) (ht:t.length≤40):Be (ev R) 64 [.d (D6 b), .d (Bf ([[72,71,69,84],k,t]))]=some (Bj (Bic b k t)):=Bb fun H=>by
 refine Bo (fn:=f64) rfl rfl ?_
 have p1:=Gw b k hb.sm
 have q:=Dx hb (t:=k) (by omega)
 unfold Bic
 have eN:=Cc [110,117,109,98,101,114]
 have eL:=Cc [108,111,110,103]
 have eP:=Cc [112,108,97,99,101]
 have eO:=Cc [110,111,110,101]
 have no:=Kj
 generalize Ca b k=e at*
 obtain⟨key,till,kind,text,list,scores,fields⟩:=e
 obtain⟨q1,q2,q3,q4,q5,q6,q7,q8,q9,q10⟩:=q
 dsimp only[C8,Cn,Cm,Df] at*
 have pv:=Byc fields t (by omega)
 generalize Tp fields t=V at*
 obtain⟨vs,vo⟩:=V
 dsimp only at*
 have p2:=Bow vs
 cases vo
 ·simp(maxSteps:=1000000) [Cq,-List.getD_eq_getElem?_getD,-List.map_map,f64,p1,eN,eL,eP,eO,no,Bj,pv,Ni]
 ·simp(maxSteps:=1000000) [Cq,-List.getD_eq_getElem?_getD,-List.map_map,f64,p1,eN,eL,eP,eO,no,Bj,pv,p2,K5]
theorem Bop (b:Ba) (k:Bl) (t:Bl) (hb:BaG b) (hk:k.length≤40) (ht:t.length≤40):Be (ev R) 64 [.d (D6 b), .d (Bf ([[72,68,69,76],k,t]))]=some (Bj (Ben b k t)):=Bb fun H=>by
 refine Bo (fn:=f64) rfl rfl ?_
 have p1:=Gw b k hb.sm
 have q:=Dx hb (t:=k) (by omega)
 unfold Ben
 have eN:=Cc [110,117,109,98,101,114]
 have eL:=Cc [108,111,110,103]
 have eP:=Cc [112,108,97,99,101]
 have eO:=Cc [110,111,110,101]
 have no:=Kj
 generalize Ca b k=e at*
 obtain⟨key,till,kind,text,list,scores,fields⟩:=e
 obtain⟨q1,q2,q3,q4,q5,q6,q7,q8,q9,q10⟩:=q
 dsimp only[C8,Cn,Cm,Df] at*
 have vq:=Bts fields t ⟨q7,q8⟩
 have pv:=B21 fields t (by omega)
 generalize Tn fields t=V at*
 obtain⟨vl,vo⟩:=V
 dsimp only at*
 have q:EnQ ⟨key,till,kind,text,list,scores,vl⟩:=⟨q1,q2,q3,q4,q5,q6,vq.1,vq.2,q9,by dsimp only;omega⟩
 have p2:=Box vo
 have p3:=Pj b _ (Gy vo) hb.sm q.sm q.fit
 generalize Ff b ⟨key,till,kind,text,list,scores,vl⟩ (Gy vo)=P at*
 simp(maxSteps:=1000000) [Cq,-List.getD_eq_getElem?_getD,-List.map_map,f64,p1,eN,eL,eP,eO,no,Bj,pv,p2,p3]
theorem Bos (b:Ba) (k:Bl) (f:Bl) (t:Bl) (hb:BaG b) (hk:k.length≤40) (hf:f.length≤40) (ht:t.length≤40):Be (ev R) 64 [.d (D6 b), .d (Bf ([[72,83,69,84],k,f,t]))]=some (Bj (Beo b k f t)):=Bb fun H=>by
 refine Bo (fn:=f64) rfl rfl ?_
 have p1:=Gw b k hb.sm
 have q:=Dx hb (t:=k) (by omega)
 unfold Beo
 have eN:=Cc [110,117,109,98,101,114]
 have eL:=Cc [108,111,110,103]
 have eP:=Cc [112,108,97,99,101]
 have eO:=Cc [110,111,110,101]
 have no:=Kj
 generalize Ca b k=e at*
 obtain⟨key,till,kind,text,list,scores,fields⟩:=e
 obtain⟨q1,q2,q3,q4,q5,q6,q7,q8,q9,q10⟩:=q
 dsimp only[C8,Cn,Cm,Df] at*
 have vq:=Bna fields (f,t) ⟨q7,q8⟩
 have pv:=Bx6 fields (f,t) (by omega)
 have pvn:=Br2 fields (f,t) (by omega)
 generalize M9 fields (f,t)=V at*
 obtain⟨vl,vf,vo⟩:=V
 dsimp only at*
 have q:EnQ ⟨key,till,5,text,list,scores,vl⟩:=⟨q1,q2,q3,q4,q5,q6,vq.1,vq.2,q9,by dsimp only;omega⟩
 have p2:=Box vf
 have p3:=Pj b _ (Gy vf) hb.sm q.sm q.fit
 generalize Ff b ⟨key,till,5,text,list,scores,vl⟩ (Gy vf)=P at*
 cases vo
 ·simp(maxSteps:=1000000) [Cq,-List.getD_eq_getElem?_getD,-List.map_map,f64,p1,eN,eL,eP,eO,no,Bj,pv,pvn,Dq]
 ·simp(maxSteps:=1000000) [Cq,-List.getD_eq_getElem?_getD,-List.map_map,f64,p1,eN,eL,eP,eO,no,Bj,pv,pvn,p2,p3]
theorem Bft (b:Ba) (k:Bl) (f:Bl) (y:Bl) (hb:BaG b) (hk:k.length≤40) (hf:f.length≤40) (hy:y.length≤40):Be (ev R) 64 [.d (D6 b), .d (Bf ([[72,73,78,67,82,66,89],k,f,y]))]=some (Bj (Qs b k f y)):=Bb fun H=>by
 refine Bo (fn:=f64) rfl rfl ?_
 have p1:=Gw b k hb.sm
 have q:=Dx hb (t:=k) (by omega)
 unfold Qs
 have eN:=Cc [110,117,109,98,101,114]
 have eL:=Cc [108,111,110,103]
 have eP:=Cc [112,108,97,99,101]
 have eO:=Cc [110,111,110,101]
 have no:=Kj
 generalize Ca b k=e at*
 obtain⟨key,till,kind,text,list,scores,fields⟩:=e
 obtain⟨q1,q2,q3,q4,q5,q6,q7,q8,q9,q10⟩:=q
 dsimp only[C8,Cn,Cm,Df] at*
 unfold Btn
 have gl:=Bps fields f ⟨q7,q8⟩
 have pv:=Byc fields f (by omega)
 generalize Tp fields f=V at*
 obtain⟨gs,go⟩:=V
 dsimp only at*
 have pa:=By5 gs go y (by omega) (by omega)
 have ai:=Be3 gs go y
 generalize Ym gs go y=A at*
 obtain⟨n,ao⟩:=A
 dsimp only at*
 have pd:=Bvh n ai
 have pw:=Bx6 fields (f,Qo n) (by omega)
 have pwn:=Br2 fields (f,Qo n) (by omega)
 have vq:=Bna fields (f,Qo n) ⟨q7,q8⟩
 generalize Qo n=D at*
 generalize M9 fields (f,D)=V at*
 obtain⟨vl,vf,vo⟩:=V
 dsimp only at*
 have q:EnQ ⟨key,till,5,text,list,scores,vl⟩:=⟨q1,q2,q3,q4,q5,q6,vq.1,vq.2,q9,by dsimp only;omega⟩
 have p2:=Lr n
 have p3:=Pj b _ (Cv n) hb.sm q.sm q.fit
 generalize Ff b ⟨key,till,5,text,list,scores,vl⟩ (Cv n)=P at*
 unfold Cv at p3
 cases ao
 ·simp(maxSteps:=1000000) [Cq,-List.getD_eq_getElem?_getD,-List.map_map,f64,p1,eN,eL,eP,eO,no,Bj,pv,pa,Dq]
 ·cases vo
  ·simp(maxSteps:=1000000) [Cq,-List.getD_eq_getElem?_getD,-List.map_map,f64,p1,eN,eL,eP,eO,no,Bj,pv,pa,pd,pw,pwn,Dq]
  ·simp(maxSteps:=1000000) [Cq,-List.getD_eq_getElem?_getD,-List.map_map,f64,p1,eN,eL,eP,eO,no,Bj,pv,pa,pd,pw,pwn,p2,p3]
theorem Bek (xs:List Pr): (Rw xs).length=2*xs.length:=by
 unfold Rw
 induction xs with
 |nil=>rfl
 |cons x xs ih=>rw[List.flatMap_cons,List.length_append,ih];simp;omega
theorem Bk3 (xs:List Pr) (i:Nat) (hi:i<xs.length):Rw (xs.take (i+1))=Rw (xs.take i)++[(xs.getD i ([],[])).1,(xs.getD i ([],[])).2]:=by
 rw[Kv xs i ([],[]) hi]
 simp only[Rw,List.flatMap_append,List.flatMap_cons,List.flatMap_nil,List.append_nil]
theorem B30 (H:Hp) (A B C:Ev.Obj) (E:En) (hf:E.fields.length≤1000):
  Gives (fun o e X=>o= .exit 1∧X=ap H [A,B,C, .row 0 7 [.d (Nf E)], .row E.fields.length 1 (((Rw E.fields).map D.str).map V.d)]∧e.get 2= .ptr (Bc H) 0 0 0∧e.get 4= .ptr (Bc H+1) 0 0 0∧e.get 5= .ptr (Bc H+2) 0 0 0∧e.get 7= .slc (Bc H+4) E.fields.length 0 (2*E.fields.length))
   (Bg (Bp (ev R) R.glob (Bc H) Bg Bgz) [2,4,5,6,7,8] ⟨[(2, .ptr (Bc H) 0 0 0),(4, .ptr (Bc H+1) 0 0 0),(5, .ptr (Bc H+2) 0 0 0),(6, .ptr (Bc H+3) 0 0 0),(7, .slc (Bc H+4) 0 0 0),(8, .d (.int .i64 0))],ap H [A,B,C, .row 0 7 [.d (Nf E)], .row 0 1 []]⟩):=by
 refine Dw (F:=Bp (ev R) R.glob (Bc H) Bg Bgz) (lv:=[2,4,5,6,7,8]) E.fields.length
  (fun i e X=> ∃zs:List Bl,zs=Rw (E.fields.take i)∧X=ap H [A,B,C, .row 0 7 [.d (Nf E)], .row i 1 ((zs.map D.str).map V.d)]∧e.get 2= .ptr (Bc H) 0 0 0∧e.get 4= .ptr (Bc H+1) 0 0 0∧e.get 5= .ptr (Bc H+2) 0 0 0∧e.get 6= .ptr (Bc H+3) 0 0 0∧e.get 7= .slc (Bc H+4) i 0 (2*i)∧e.get 8= .d (.int .i64 i))
  _ ?_ ?_ E.fields.length 0 _ _ (by omega) ⟨[],by simp[Rw],rfl,rfl,rfl,rfl,rfl,rfl,rfl⟩
 ·rintro e X ⟨zs,hz,rfl,g2,g4,g5,g6,g7,g8⟩
  rw[List.take_length] at hz
  subst hz
  generalize Rw E.fields=zs
  simp(maxSteps:=1000000) [Cq,-List.getD_eq_getElem?_getD,-List.map_map,Bgz,g2,g4,g5,g6,g7,g8]
 ·rintro i e X hi ⟨zs,hz,rfl,g2,g4,g5,g6,g7,g8⟩
  have c: (i:Int)< (E.fields.length:Int):=by omega
  have c0: (0:Int)≤(i:Int):=by omega
  have g:=X5 E.fields i hi
  have hn:=Bk3 E.fields i hi
  rw[←hz] at hn
  have hl:zs.length=2*i:=by rw[hz,Bek,List.length_take];omega
  have w1:IntKind.i64.wrap ((i:Int)+1)=(i:Int)+1:=IntWalk.i64_in _ (by omega)
  have r: (2*i+2)*16≤Cx:=by unfold Cx;omega
  have h2:2*(i+1)=2*i+2:=by omega
  generalize E.fields.getD i ([],[])=x at*
  simp(maxSteps:=1000000) [Cq,-List.getD_eq_getElem?_getD,-List.map_map,Bgz,g2,g4,g5,g6,g7,g8,c,c0,hi,g,hn,hl,w1,r,h2]
theorem Bfs (b:Ba) (k:Bl) (hb:BaG b) (hk:k.length≤40):Be (ev R) 64 [.d (D6 b), .d (Bf [[72,71,69,84,65,76,76],k])]=some (Bj (Tc b k)):=Bb fun H=>by
 refine Bo (fn:=f64) rfl rfl ?_
 have p1:=Gw b k hb.sm
 have q:=Dx hb (t:=k) (by omega)
 unfold Tc
 generalize Ca b k=e at*
 have lp:=fun A B C=> (B30 H A B C e q.fields).out
 have p2:=fun H=>Fq (Bfv (Rw e.fields)) H
 have hl:=Bek e.fields
 generalize Rw e.fields=zs at*
 obtain⟨o,e',X',he,rfl,rfl,g2,g4,g5,g7⟩:=lp (.row 0 2 [.d (D6 b)]) (.row 0 2 [.agg [.d (.int .i64 0), .nils 7]]) (.row 0 5 [.agg [.d (.int .i64 0), .d (.int .i64 0), .d (.str []), .nils 1, .nils 5]])
 have ft:List.take (2*e.fields.length) (zs.map D.str)=zs.map D.str:=List.take_of_length_le (by simp;omega)
 have ft2:2*e.fields.length≤zs.length:=by omega
 simp(maxSteps:=1000000) [Cq,-List.getD_eq_getElem?_getD,-List.map_map,f64,p1,p2,he,g2,g4,g5,g7,Bj,G9,ft,ft2]
end Go.Proofs.YtedlandcnpjghaaGreatDoor.Code

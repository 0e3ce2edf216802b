/- Lemmas (several texts in one). -/
import Derived.Test.YtpajcoanfkeibaaGreatDoorMDoSet6
import Derived.Test.YtpajcoanfkeibaaGreatDoorMDoSet8
import Derived.Test.YtpajcoanfkeibaaGreatDoorMDoSet28
set_option maxRecDepth 100000
set_option maxHeartbeats 2000000
set_option linter.unusedSimpArgs false
set_option linter.unusedVariables false
namespace Go.Proofs.YtpajcoanfkeibaaGreatDoor.Code
open Go Go.Ev Go.Proofs
def Bcp (b:Ba) (k:Bq):Ba×Re:=(b,Cu (Bz b k).scores.length)
def Bes (b:Ba) (k t:Bq):Ba×Re:=Fs b (Ck (Bz b k) (Bz b k).kind (Ub (Bz b k).scores t).1) (Ji (Ub (Bz b k).scores t).2)
def X5 (b:Ba) (k t:Bq):Ba×Re:=(b,if Jl (Bz b k).scores t<0 then Nq else Cu ((Bz b k).scores.getD (Jl (Bz b k).scores t).toNat ([],0)).2)
def Bcq (b:Ba) (k t:Bq):Ba×Re:=(b,if Jl (Bz b k).scores t<0 then Nq else Cu (Jl (Bz b k).scores t))
def Ber (b:Ba) (k n t:Bq):Ba×Re:=if(Fb n).2=true then(if(Nh (Bz b k).scores (t,(Fb n).1)).2.2=true then Fs b (Ck (Bz b k) 4 (Nh (Bz b k).scores (t,(Fb n).1)).1) (Ji (Nh (Bz b k).scores (t,(Fb n).1)).2.1) else(b,Dp [108,111,110,103])) else(b,Dp [110,117,109,98,101,114])
def Wu (xs:List Sc) (t:Bq) (n:Int):Int:=if Jl xs t<0 then n else n+(xs.getD (Jl xs t).toNat ([],0)).2
def Rc (b:Ba) (k n t:Bq):Ba×Re:=if(Fb n).2=true then(if(Nh (Bz b k).scores (t,Wu (Bz b k).scores t (Fb n).1)).2.2=true then Fs b (Ck (Bz b k) 4 (Nh (Bz b k).scores (t,Wu (Bz b k).scores t (Fb n).1)).1) (Cu (Wu (Bz b k).scores t (Fb n).1)) else(b,Dp [108,111,110,103])) else(b,Dp [110,117,109,98,101,114])
def Uq (b:Ba) (k n m:Bq):Ba×Re:=if(Fb n).2=true∧(Fb m).2=true then(b,Jr (Mx (Bt2 (Bz b k).scores (Fb n).1 (Fb m).1))) else(b,Dp [110,117,109,98,101,114])
def Ke (b:Ba) (k n m:Bq):Ba×Re:=if(Fb n).2=true∧(Fb m).2=true then(b,Jr (Mx (rBy (Bz b k).scores (Fb n).1 (Fb m).1))) else(b,Dp [110,117,109,98,101,114])
theorem Xz (xs:List Sc) (t:Bq): -1≤Jl xs t∧Jl xs t<xs.length:=by
 unfold Jl
 split
 ·split
  ·constructor<;>omega
  ·constructor<;>omega
 ·constructor<;>omega
theorem Bh6 (b:Ba) (k:Bq) (hb:BaG b) (hk:k.length≤40):Bc (ev R) 169 [.d (Db b), .d (Bf ([[90,67,65,82,68],k]))]=some (Bo (Bcp b k)):=Bb fun H=>by
 refine Bh (fn:=f169) rfl rfl ?_
 have p1:=Jd b k hb.sm
 have q:=Dv hb (t:=k) (by omega)
 unfold Bcp
 have eN:=Bv [110,117,109,98,101,114]
 have eL:=Bv [108,111,110,103]
 have eP:=Bv [112,108,97,99,101]
 have eO:=Bv [110,111,110,101]
 have no:=Gp
 generalize Bz b k=e at*
 obtain⟨key,till,kind,text,list,scores,fields⟩:=e
 obtain⟨q1,q2,q3,q4,q5,q6,q7,q8,q9,q10⟩:=q
 dsimp only[Cx,Ck,Cj,Da] at*
 have p2:=Js scores.length
 simp(maxSteps:=1000000) [Ca,-List.getD_eq_getElem?_getD,-List.map_map,f169,p1,eN,eL,eP,eO,no,Bo,p2,Cu]
theorem Bk9 (b:Ba) (k:Bq) (t:Bq) (hb:BaG b) (hk:k.length≤40) (ht:t.length≤40):Bc (ev R) 169 [.d (Db b), .d (Bf ([[90,82,69,77],k,t]))]=some (Bo (Bes b k t)):=Bb fun H=>by
 refine Bh (fn:=f169) rfl rfl ?_
 have p1:=Jd b k hb.sm
 have q:=Dv hb (t:=k) (by omega)
 unfold Bes
 have eN:=Bv [110,117,109,98,101,114]
 have eL:=Bv [108,111,110,103]
 have eP:=Bv [112,108,97,99,101]
 have eO:=Bv [110,111,110,101]
 have no:=Gp
 generalize Bz b k=e at*
 obtain⟨key,till,kind,text,list,scores,fields⟩:=e
 obtain⟨q1,q2,q3,q4,q5,q6,q7,q8,q9,q10⟩:=q
 dsimp only[Cx,Ck,Cj,Da] at*
 have vq:=Bt3 scores t ⟨q5,q6⟩
 have pv:=B65 scores t (by omega)
 generalize Ub scores t=V at*
 obtain⟨vl,vo⟩:=V
 dsimp only at*
 have q:EnQ ⟨key,till,kind,text,list,vl,fields⟩:=⟨q1,q2,q3,q4,vq.1,vq.2,q7,q8,q9,by dsimp only;omega⟩
 have p2:=Bef vo
 have p3:=K6 b _ (Ji vo) hb.sm q.sm q.fit
 generalize Fs b ⟨key,till,kind,text,list,vl,fields⟩ (Ji vo)=P at*
 simp(maxSteps:=1000000) [Ca,-List.getD_eq_getElem?_getD,-List.map_map,f169,p1,eN,eL,eP,eO,no,Bo,pv,p2,p3]
theorem Bf4 (b:Ba) (k:Bq) (t:Bq) (hb:BaG b) (hk:k.length≤40) (ht:t.length≤40):Bc (ev R) 169 [.d (Db b), .d (Bf ([[90,83,67,79,82,69],k,t]))]=some (Bo (X5 b k t)):=Bb fun H=>by
 refine Bh (fn:=f169) rfl rfl ?_
 have p1:=Jd b k hb.sm
 have q:=Dv hb (t:=k) (by omega)
 unfold X5
 have eN:=Bv [110,117,109,98,101,114]
 have eL:=Bv [108,111,110,103]
 have eP:=Bv [112,108,97,99,101]
 have eO:=Bv [110,111,110,101]
 have no:=Gp
 generalize Bz b k=e at*
 obtain⟨key,till,kind,text,list,scores,fields⟩:=e
 obtain⟨q1,q2,q3,q4,q5,q6,q7,q8,q9,q10⟩:=q
 dsimp only[Cx,Ck,Cj,Da] at*
 have ri:=Xz scores t
 have pr:=Bnj scores t (by omega)
 by_cases a:Jl scores t<0
 ·generalize Jl scores t=r at*
  have a': ¬ (0:Int)≤r:=by omega
  simp(maxSteps:=1000000) [Ca,-List.getD_eq_getElem?_getD,-List.map_map,f169,p1,eN,eL,eP,eO,no,Bo,pr,eq_true a,Nq]
 ·generalize Jl scores t=r at*
  obtain⟨j,rfl⟩: ∃j:Nat,r=(j:Int):=⟨r.toNat,by omega⟩
  have c: (j:Int)< (scores.length:Int):=by omega
  have c':j<scores.length:=by omega
  have c0: ¬ (j:Int)<0:=by omega
  have c1: (0:Int)≤(j:Int):=by omega
  have g:=Nf scores j c'
  try rw[Int.toNat_natCast] at*
  have p2:=Js (scores.getD j ([],0)).2
  generalize scores.getD j ([],0)=s at*
  simp(maxSteps:=1000000) [Ca,-List.getD_eq_getElem?_getD,-List.map_map,f169,p1,eN,eL,eP,eO,no,Bo,pr,c,c',c0,c1,g,p2,Cu]
theorem Bh7 (b:Ba) (k:Bq) (t:Bq) (hb:BaG b) (hk:k.length≤40) (ht:t.length≤40):Bc (ev R) 169 [.d (Db b), .d (Bf ([[90,82,65,78,75],k,t]))]=some (Bo (Bcq b k t)):=Bb fun H=>by
 refine Bh (fn:=f169) rfl rfl ?_
 have p1:=Jd b k hb.sm
 have q:=Dv hb (t:=k) (by omega)
 unfold Bcq
 have eN:=Bv [110,117,109,98,101,114]
 have eL:=Bv [108,111,110,103]
 have eP:=Bv [112,108,97,99,101]
 have eO:=Bv [110,111,110,101]
 have no:=Gp
 generalize Bz b k=e at*
 obtain⟨key,till,kind,text,list,scores,fields⟩:=e
 obtain⟨q1,q2,q3,q4,q5,q6,q7,q8,q9,q10⟩:=q
 dsimp only[Cx,Ck,Cj,Da] at*
 have ri:=Xz scores t
 have pr:=Bnj scores t (by omega)
 by_cases a:Jl scores t<0
 ·generalize Jl scores t=r at*
  have a': ¬ (0:Int)≤r:=by omega
  simp(maxSteps:=1000000) [Ca,-List.getD_eq_getElem?_getD,-List.map_map,f169,p1,eN,eL,eP,eO,no,Bo,pr,eq_true a,Nq]
 ·generalize Jl scores t=r at*
  obtain⟨j,rfl⟩: ∃j:Nat,r=(j:Int):=⟨r.toNat,by omega⟩
  have c: (j:Int)< (scores.length:Int):=by omega
  have c':j<scores.length:=by omega
  have c0: ¬ (j:Int)<0:=by omega
  have c1: (0:Int)≤(j:Int):=by omega
  have g:=Nf scores j c'
  try rw[Int.toNat_natCast] at*
  have p2:=Js j
  simp(maxSteps:=1000000) [Ca,-List.getD_eq_getElem?_getD,-List.map_map,f169,p1,eN,eL,eP,eO,no,Bo,pr,c,c',c0,c1,g,p2,Cu]
theorem Bk8 (b:Ba) (k:Bq) (n:Bq) (t:Bq) (hb:BaG b) (hk:k.length≤40) (hn:n.length≤40) (ht:t.length≤40):Bc (ev R) 169 [.d (Db b), .d (Bf ([[90,65,68,68],k,n,t]))]=some (Bo (Ber b k n t)):=Bb fun H=>by
 refine Bh (fn:=f169) rfl rfl ?_
 have p1:=Jd b k hb.sm
 have q:=Dv hb (t:=k) (by omega)
 unfold Ber
 have eN:=Bv [110,117,109,98,101,114]
 have eL:=Bv [108,111,110,103]
 have eP:=Bv [112,108,97,99,101]
 have eO:=Bv [110,111,110,101]
 have no:=Gp
 generalize Bz b k=e at*
 obtain⟨key,till,kind,text,list,scores,fields⟩:=e
 obtain⟨q1,q2,q3,q4,q5,q6,q7,q8,q9,q10⟩:=q
 dsimp only[Cx,Ck,Cj,Da] at*
 have i0:=Jq n
 have pi0:=Ml n (by omega)
 generalize Fb n=I0 at*
 obtain⟨n0,o0⟩:=I0
 dsimp only at*
 have vq:=Bn6 scores (t,n0) ⟨q5,q6⟩
 have pv:=Bzf scores (t,n0) (by omega)
 have pvn:=Bsr scores (t,n0) (by omega)
 generalize Nh scores (t,n0)=V at*
 obtain⟨vl,vf,vo⟩:=V
 dsimp only at*
 have q:EnQ ⟨key,till,4,text,list,vl,fields⟩:=⟨q1,q2,q3,q4,vq.1,vq.2,q7,q8,q9,by dsimp only;omega⟩
 have pr:=Bnj scores t (by omega)
 have p2:=Bef vf
 have p3:=K6 b _ (Ji vf) hb.sm q.sm q.fit
 generalize Fs b ⟨key,till,4,text,list,vl,fields⟩ (Ji vf)=P at*
 generalize Jl scores t=r at*
 cases o0
 ·simp(maxSteps:=1000000) [Ca,-List.getD_eq_getElem?_getD,-List.map_map,f169,p1,eN,eL,eP,eO,no,Bo,pi0,Dp]
 ·cases vo
  ·simp(maxSteps:=1000000) [Ca,-List.getD_eq_getElem?_getD,-List.map_map,f169,p1,eN,eL,eP,eO,no,Bo,pi0,pr,pv,pvn,Dp]
  ·simp(maxSteps:=1000000) [Ca,-List.getD_eq_getElem?_getD,-List.map_map,f169,p1,eN,eL,eP,eO,no,Bo,pi0,pr,pv,pvn,p2,p3]
theorem Bxx (xs:List Sc) (t:Bq) (n:Int) (hx:ScQ xs) (hn: -1000000000≤n∧n≤1000000000): -3000000000≤Wu xs t n∧Wu xs t n≤3000000000:=by
 unfold Wu
 split
 ·omega
 ·rename_i h
  have:=Xz xs t
  have:=hx.2 _ (Jp (xs:=xs) (i:=(Jl xs t).toNat) (d:=([],0)) (by omega))
  omega
theorem Bdb (b:Ba) (k:Bq) (n:Bq) (t:Bq) (hb:BaG b) (hk:k.length≤40) (hn:n.length≤40) (ht:t.length≤40):Bc (ev R) 169 [.d (Db b), .d (Bf ([[90,73,78,67,82,66,89],k,n,t]))]=some (Bo (Rc b k n t)):=Bb fun H=>by
 refine Bh (fn:=f169) rfl rfl ?_
 have p1:=Jd b k hb.sm
 have q:=Dv hb (t:=k) (by omega)
 unfold Rc
 have eN:=Bv [110,117,109,98,101,114]
 have eL:=Bv [108,111,110,103]
 have eP:=Bv [112,108,97,99,101]
 have eO:=Bv [110,111,110,101]
 have no:=Gp
 generalize Bz b k=e at*
 obtain⟨key,till,kind,text,list,scores,fields⟩:=e
 obtain⟨q1,q2,q3,q4,q5,q6,q7,q8,q9,q10⟩:=q
 dsimp only[Cx,Ck,Cj,Da] at*
 have i0:=Jq n
 have pi0:=Ml n (by omega)
 generalize Fb n=I0 at*
 obtain⟨n0,o0⟩:=I0
 dsimp only at*
 have si:=Bxx scores t n0 ⟨q5,q6⟩ i0
 have hs: ∀j:Nat,Jl scores t=(j:Int)→Wu scores t n0=n0+(scores.getD j ([],0)).2:=fun j hj=>by unfold Wu;rw[hj,Int.toNat_natCast,if_neg (by omega)]
 have hs0:Jl scores t<0→Wu scores t n0=n0:=fun h=>by unfold Wu;rw[if_pos h]
 have pv0:=Bzf scores (t,Wu scores t n0) (by omega)
 have pv0n:=Bsr scores (t,Wu scores t n0) (by omega)
 have vq:=Bn6 scores (t,Wu scores t n0) ⟨q5,q6⟩
 have pi2:=Js (Wu scores t n0)
 generalize Wu scores t n0=S at*
 generalize Nh scores (t,S)=V at*
 obtain⟨vl,vf,vo⟩:=V
 dsimp only at*
 have q:EnQ ⟨key,till,4,text,list,vl,fields⟩:=⟨q1,q2,q3,q4,vq.1,vq.2,q7,q8,q9,by dsimp only;omega⟩
 have p3:=K6 b _ (Cu S) hb.sm q.sm q.fit
 generalize Fs b ⟨key,till,4,text,list,vl,fields⟩ (Cu S)=P at*
 unfold Cu at p3
 have ri:=Xz scores t
 have pr:=Bnj scores t (by omega)
 cases o0
 ·simp(maxSteps:=1000000) [Ca,-List.getD_eq_getElem?_getD,-List.map_map,f169,p1,eN,eL,eP,eO,no,Bo,pi0,Dp]
 by_cases a:Jl scores t<0
 ·generalize Jl scores t=r at*
  have a': ¬ (0:Int)≤r:=by omega
  have hs1:=hs0 a
  subst hs1
  cases vo
  ·simp(maxSteps:=1000000) [Ca,-List.getD_eq_getElem?_getD,-List.map_map,f169,p1,eN,eL,eP,eO,no,Bo,pi0,pr,eq_true a,a',pv0,pv0n,Dp]
  ·simp(maxSteps:=1000000) [Ca,-List.getD_eq_getElem?_getD,-List.map_map,f169,p1,eN,eL,eP,eO,no,Bo,pi0,pr,eq_true a,a',pv0,pv0n,pi2,p3]
 ·generalize Jl scores t=r at*
  obtain⟨j,rfl⟩: ∃j:Nat,r=(j:Int):=⟨r.toNat,by omega⟩
  have hs1:=hs j rfl
  have c: (j:Int)< (scores.length:Int):=by omega
  have c':j<scores.length:=by omega
  have c0: ¬ (j:Int)<0:=by omega
  have c1: (0:Int)≤(j:Int):=by omega
  have g:=Nf scores j c'
  try rw[Int.toNat_natCast] at*
  have w:IntKind.i64.wrap (n0+(scores.getD j ([],0)).2)=S:=by rw[←hs1];exact IntWalk.i64_in _ (by omega)
  generalize scores.getD j ([],0)=s at*
  cases vo
  ·simp(maxSteps:=1000000) [Ca,-List.getD_eq_getElem?_getD,-List.map_map,f169,p1,eN,eL,eP,eO,no,Bo,pi0,pr,c,c',c0,c1,g,w,pv0,pv0n,Dp]
  ·simp(maxSteps:=1000000) [Ca,-List.getD_eq_getElem?_getD,-List.map_map,f169,p1,eN,eL,eP,eO,no,Bo,pi0,pr,c,c',c0,c1,g,w,pv0,pv0n,pi2,p3]
theorem Bf3 (b:Ba) (k:Bq) (n:Bq) (m:Bq) (hb:BaG b) (hk:k.length≤40) (hn:n.length≤40) (hm:m.length≤40):Bc (ev R) 169 [.d (Db b), .d (Bf ([[90,82,65,78,71,69],k,n,m]))]=some (Bo (Uq b k n m)):=Bb fun H=>by
 refine Bh (fn:=f169) rfl rfl ?_
 have p1:=Jd b k hb.sm
 have q:=Dv hb (t:=k) (by omega)
 unfold Uq
 have eN:=Bv [110,117,109,98,101,114]
 have eL:=Bv [108,111,110,103]
 have eP:=Bv [112,108,97,99,101]
 have eO:=Bv [110,111,110,101]
 have no:=Gp
 generalize Bz b k=e at*
 obtain⟨key,till,kind,text,list,scores,fields⟩:=e
 obtain⟨q1,q2,q3,q4,q5,q6,q7,q8,q9,q10⟩:=q
 dsimp only[Cx,Ck,Cj,Da] at*
 have i0:=Jq n
 have pi0:=Ml n (by omega)
 have i1:=Jq m
 have pi1:=Ml m (by omega)
 generalize Fb n=I0 at*
 obtain⟨n0,o0⟩:=I0
 generalize Fb m=I1 at*
 obtain⟨n1,o1⟩:=I1
 dsimp only at*
 have vq:=B09 scores n0 n1 ⟨q5,q6⟩
 have pv:=B66 scores n0 n1 (by omega)
 generalize Bt2 scores n0 n1=ZV at*
 have p4:=Bzg ZV (by have:=vq.1;omega)
 have p2:=Xv (Mx ZV)
 generalize Mx ZV=N at*
 cases o0<;>cases o1
 ·simp(maxSteps:=1000000) [Ca,-List.getD_eq_getElem?_getD,-List.map_map,f169,p1,eN,eL,eP,eO,no,Bo,pi0,pi1,Dp]
 ·simp(maxSteps:=1000000) [Ca,-List.getD_eq_getElem?_getD,-List.map_map,f169,p1,eN,eL,eP,eO,no,Bo,pi0,pi1,Dp]
 ·simp(maxSteps:=1000000) [Ca,-List.getD_eq_getElem?_getD,-List.map_map,f169,p1,eN,eL,eP,eO,no,Bo,pi0,pi1,Dp]
 ·simp(maxSteps:=1000000) [Ca,-List.getD_eq_getElem?_getD,-List.map_map,f169,p1,eN,eL,eP,eO,no,Bo,pi0,pi1,pv,p4,p2,Jr]
theorem Uv (b:Ba) (k:Bq) (n:Bq) (m:Bq) (hb:BaG b) (hk:k.length≤40) (hn:n.length≤40) (hm:m.length≤40):Bc (ev R) 169 [.d (Db b), .d (Bf ([[90,82,65,78,71,69,66,89,83,67,79,82,69],k,n,m]))]=some (Bo (Ke b k n m)):=Bb fun H=>by
 refine Bh (fn:=f169) rfl rfl ?_
 have p1:=Jd b k hb.sm
 have q:=Dv hb (t:=k) (by omega)
 unfold Ke
 have eN:=Bv [110,117,109,98,101,114]
 have eL:=Bv [108,111,110,103]
 have eP:=Bv [112,108,97,99,101]
 have eO:=Bv [110,111,110,101]
 have no:=Gp
 generalize Bz b k=e at*
 obtain⟨key,till,kind,text,list,scores,fields⟩:=e
 obtain⟨q1,q2,q3,q4,q5,q6,q7,q8,q9,q10⟩:=q
 dsimp only[Cx,Ck,Cj,Da] at*
 have i0:=Jq n
 have pi0:=Ml n (by omega)
 have i1:=Jq m
 have pi1:=Ml m (by omega)
 generalize Fb n=I0 at*
 obtain⟨n0,o0⟩:=I0
 generalize Fb m=I1 at*
 obtain⟨n1,o1⟩:=I1
 dsimp only at*
 have vq:=B6p scores n0 n1 ⟨q5,q6⟩
 have pv:=B6b scores n0 n1 (by omega)
 generalize rBy scores n0 n1=ZV at*
 have p4:=Bzg ZV (by have:=vq.1;omega)
 have p2:=Xv (Mx ZV)
 generalize Mx ZV=N at*
 cases o0<;>cases o1
 ·simp(maxSteps:=1000000) [Ca,-List.getD_eq_getElem?_getD,-List.map_map,f169,p1,eN,eL,eP,eO,no,Bo,pi0,pi1,Dp]
 ·simp(maxSteps:=1000000) [Ca,-List.getD_eq_getElem?_getD,-List.map_map,f169,p1,eN,eL,eP,eO,no,Bo,pi0,pi1,Dp]
 ·simp(maxSteps:=1000000) [Ca,-List.getD_eq_getElem?_getD,-List.map_map,f169,p1,eN,eL,eP,eO,no,Bo,pi0,pi1,Dp]
 ·simp(maxSteps:=1000000) [Ca,-List.getD_eq_getElem?_getD,-List.map_map,f169,p1,eN,eL,eP,eO,no,Bo,pi0,pi1,pv,p4,p2,Jr]
def Bif (b:Ba) (k:Bq):Ba×Re:=(b,Cu (Bz b k).fields.length)
def Sj (xs:List Pr):List Bq:=xs.flatMap fun p=> [p.1,p.2]
def Tk (b:Ba) (k:Bq):Ba×Re:=(b,Jr (Sj (Bz b k).fields))
def Bie (b:Ba) (k t:Bq):Ba×Re:=(b,if(T9 (Bz b k).fields t).2=true then Lg (T9 (Bz b k).fields t).1 else Nq)
def Bel (b:Ba) (k t:Bq):Ba×Re:=Fs b (Cj (Bz b k) (Bz b k).kind (Tz (Bz b k).fields t).1) (Ji (Tz (Bz b k).fields t).2)
def Bem (b:Ba) (k f t:Bq):Ba×Re:=if(Ng (Bz b k).fields (f,t)).2.2=true then Fs b (Cj (Bz b k) 5 (Ng (Bz b k).fields (f,t)).1) (Ji (Ng (Bz b k).fields (f,t)).2.1) else(b,Dp [108,111,110,103])
def Btt (xs:List Pr) (f y:Bq):Int×Bool:=Yg (T9 xs f).1 (T9 xs f).2 y
def Q9 (b:Ba) (k f y:Bq):Ba×Re:=if(Btt (Bz b k).fields f y).2=true then(if(Ng (Bz b k).fields (f,Q3 (Btt (Bz b k).fields f y).1)).2.2=true then Fs b (Cj (Bz b k) 5 (Ng (Bz b k).fields (f,Q3 (Btt (Bz b k).fields f y).1)).1) (Cu (Btt (Bz b k).fields f y).1) else(b,Dp [108,111,110,103])) else(b,Dp [110,117,109,98,101,114])
theorem Bqd (xs:List Pr) (f:Bq) (h:PrQ xs): (T9 xs f).1.length≤1000000:=by
 unfold T9
 split
 ·exact(Xo (P:=fun x:Pr=>x.1.length≤1000000∧x.2.length≤1000000) h.2 (by simp) _).2
 ·simp
theorem Blc (b:Ba) (k:Bq) (hb:BaG b) (hk:k.length≤40):Bc (ev R) 170 [.d (Db b), .d (Bf ([[72,76,69,78],k]))]=some (Bo (Bif b k)):=Bb fun H=>by
 refine Bh (fn:=f170) rfl rfl ?_
 have p1:=Jd b k hb.sm
 have q:=Dv hb (t:=k) (by omega)
 unfold Bif
 have eN:=Bv [110,117,109,98,101,114]
 have eL:=Bv [108,111,110,103]
 have eP:=Bv [112,108,97,99,101]
 have eO:=Bv [110,111,110,101]
 have no:=Gp
 generalize Bz b k=e at*
 obtain⟨key,till,kind,text,list,scores,fields⟩:=e
 obtain⟨q1,q2,q3,q4,q5,q6,q7,q8,q9,q10⟩:=q
 dsimp only[Cx,Ck,Cj,Da] at*
 have p2:=Js fields.length
 simp(maxSteps:=1000000) [Ca,-List.getD_eq_getElem?_getD,-List.map_map,f170,p1,eN,eL,eP,eO,no,Bo,p2,Cu]
theorem Blb (b:Ba) (k:Bq) (t:Bq) (hb:BaG b) (hk:k.length≤40) (ht:t.length≤40):Bc (ev R) 170 [.d (Db b), .d (Bf ([[72,71,69,84],k,t]))]=some (Bo (Bie b k t)):=Bb fun H=>by
 refine Bh (fn:=f170) rfl rfl ?_
 have p1:=Jd b k hb.sm
 have q:=Dv hb (t:=k) (by omega)
 unfold Bie
 have eN:=Bv [110,117,109,98,101,114]
 have eL:=Bv [108,111,110,103]
 have eP:=Bv [112,108,97,99,101]
 have eO:=Bv [110,111,110,101]
 have no:=Gp
 generalize Bz b k=e at*
 obtain⟨key,till,kind,text,list,scores,fields⟩:=e
 obtain⟨q1,q2,q3,q4,q5,q6,q7,q8,q9,q10⟩:=q
 dsimp only[Cx,Ck,Cj,Da] at*
 have pv:=Bzq fields t (by omega)
 generalize T9 fields t=V at*
 obtain⟨vs,vo⟩:=V
 dsimp only at*
 have p2:=Bee vs
 cases vo
 ·simp(maxSteps:=1000000) [Ca,-List.getD_eq_getElem?_getD,-List.map_map,f170,p1,eN,eL,eP,eO,no,Bo,pv,Nq]
 ·simp(maxSteps:=1000000) [Ca,-List.getD_eq_getElem?_getD,-List.map_map,f170,p1,eN,eL,eP,eO,no,Bo,pv,p2,Lg]
theorem Bla (b:Ba) (k:Bq) (t:Bq) (hb:BaG b) (hk:k.length≤40) (ht:t.length≤40):Bc (ev R) 170 [.d (Db b), .d (Bf ([[72,68,69,76],k,t]))]=some (Bo (Bel b k t)):=Bb fun H=>by
 refine Bh (fn:=f170) rfl rfl ?_
 have p1:=Jd b k hb.sm
 have q:=Dv hb (t:=k) (by omega)
 unfold Bel
 have eN:=Bv [110,117,109,98,101,114]
 have eL:=Bv [108,111,110,103]
 have eP:=Bv [112,108,97,99,101]
 have eO:=Bv [110,111,110,101]
 have no:=Gp
 generalize Bz b k=e at*
 obtain⟨key,till,kind,text,list,scores,fields⟩:=e
 obtain⟨q1,q2,q3,q4,q5,q6,q7,q8,q9,q10⟩:=q
 dsimp only[Cx,Ck,Cj,Da] at*
 have vq:=Btx fields t ⟨q7,q8⟩
 have pv:=B67 fields t (by omega)
 generalize Tz fields t=V at*
 obtain⟨vl,vo⟩:=V
 dsimp only at*
 have q:EnQ ⟨key,till,kind,text,list,scores,vl⟩:=⟨q1,q2,q3,q4,q5,q6,vq.1,vq.2,q9,by dsimp only;omega⟩
 have p2:=Bef vo
 have p3:=K6 b _ (Ji vo) hb.sm q.sm q.fit
 generalize Fs b ⟨key,till,kind,text,list,scores,vl⟩ (Ji vo)=P at*
 simp(maxSteps:=1000000) [Ca,-List.getD_eq_getElem?_getD,-List.map_map,f170,p1,eN,eL,eP,eO,no,Bo,pv,p2,p3]
theorem Bld (b:Ba) (k:Bq) (f:Bq) (t:Bq) (hb:BaG b) (hk:k.length≤40) (hf:f.length≤40) (ht:t.length≤40):Bc (ev R) 170 [.d (Db b), .d (Bf ([[72,83,69,84],k,f,t]))]=some (Bo (Bem b k f t)):=Bb fun H=>by
 refine Bh (fn:=f170) rfl rfl ?_
 have p1:=Jd b k hb.sm
 have q:=Dv hb (t:=k) (by omega)
 unfold Bem
 have eN:=Bv [110,117,109,98,101,114]
 have eL:=Bv [108,111,110,103]
 have eP:=Bv [112,108,97,99,101]
 have eO:=Bv [110,111,110,101]
 have no:=Gp
 generalize Bz b k=e at*
 obtain⟨key,till,kind,text,list,scores,fields⟩:=e
 obtain⟨q1,q2,q3,q4,q5,q6,q7,q8,q9,q10⟩:=q
 dsimp only[Cx,Ck,Cj,Da] at*
 have vq:=Bn4 fields (f,t) ⟨q7,q8⟩
 have pv:=Bzh fields (f,t) (by omega)
 have pvn:=Bss fields (f,t) (by omega)
 generalize Ng fields (f,t)=V at*
 obtain⟨vl,vf,vo⟩:=V
 dsimp only at*
 have q:EnQ ⟨key,till,5,text,list,scores,vl⟩:=⟨q1,q2,q3,q4,q5,q6,vq.1,vq.2,q9,by dsimp only;omega⟩
 have p2:=Bef vf
 have p3:=K6 b _ (Ji vf) hb.sm q.sm q.fit
 generalize Fs b ⟨key,till,5,text,list,scores,vl⟩ (Ji vf)=P at*
 cases vo
 ·simp(maxSteps:=1000000) [Ca,-List.getD_eq_getElem?_getD,-List.map_map,f170,p1,eN,eL,eP,eO,no,Bo,pv,pvn,Dp]
 ·simp(maxSteps:=1000000) [Ca,-List.getD_eq_getElem?_getD,-List.map_map,f170,p1,eN,eL,eP,eO,no,Bo,pv,pvn,p2,p3]
theorem Bdd (b:Ba) (k:Bq) (f:Bq) (y:Bq) (hb:BaG b) (hk:k.length≤40) (hf:f.length≤40) (hy:y.length≤40):Bc (ev R) 170 [.d (Db b), .d (Bf ([[72,73,78,67,82,66,89],k,f,y]))]=some (Bo (Q9 b k f y)):=Bb fun H=>by
 refine Bh (fn:=f170) rfl rfl ?_
 have p1:=Jd b k hb.sm
 have q:=Dv hb (t:=k) (by omega)
 unfold Q9
 have eN:=Bv [110,117,109,98,101,114]
 have eL:=Bv [108,111,110,103]
 have eP:=Bv [112,108,97,99,101]
 have eO:=Bv [110,111,110,101]
 have no:=Gp
 generalize Bz b k=e at*
 obtain⟨key,till,kind,text,list,scores,fields⟩:=e
 obtain⟨q1,q2,q3,q4,q5,q6,q7,q8,q9,q10⟩:=q
 dsimp only[Cx,Ck,Cj,Da] at*
 unfold Btt
 have gl:=Bqd fields f ⟨q7,q8⟩
 have pv:=Bzq fields f (by omega)
 generalize T9 fields f=V at*
 obtain⟨gs,go⟩:=V
 dsimp only at*
 have pa:=Bsq gs go y (by omega) (by omega)
 have ai:=Be4 gs go y
 generalize Yg gs go y=A at*
 obtain⟨n,ao⟩:=A
 dsimp only at*
 have pd:=Bxa n ai
 have pw:=Bzh fields (f,Q3 n) (by omega)
 have pwn:=Bss fields (f,Q3 n) (by omega)
 have vq:=Bn4 fields (f,Q3 n) ⟨q7,q8⟩
 generalize Q3 n=D at*
 generalize Ng fields (f,D)=V at*
 obtain⟨vl,vf,vo⟩:=V
 dsimp only at*
 have q:EnQ ⟨key,till,5,text,list,scores,vl⟩:=⟨q1,q2,q3,q4,q5,q6,vq.1,vq.2,q9,by dsimp only;omega⟩
 have p2:=Js n
 have p3:=K6 b _ (Cu n) hb.sm q.sm q.fit
 generalize Fs b ⟨key,till,5,text,list,scores,vl⟩ (Cu n)=P at*
 unfold Cu at p3
 cases ao
 ·simp(maxSteps:=1000000) [Ca,-List.getD_eq_getElem?_getD,-List.map_map,f170,p1,eN,eL,eP,eO,no,Bo,pv,pa,Dp]
 ·cases vo
  ·simp(maxSteps:=1000000) [Ca,-List.getD_eq_getElem?_getD,-List.map_map,f170,p1,eN,eL,eP,eO,no,Bo,pv,pa,pd,pw,pwn,Dp]
  ·simp(maxSteps:=1000000) [Ca,-List.getD_eq_getElem?_getD,-List.map_map,f170,p1,eN,eL,eP,eO,no,Bo,pv,pa,pd,pw,pwn,p2,p3]
theorem Bei (xs:List Pr): (Sj xs).length=2*xs.length:=by
 unfold Sj
 induction xs with
 |nil=>rfl
 |cons x xs ih=>rw[List.flatMap_cons,List.length_append,ih];simp;omega
theorem Bll (xs:List Pr) (i:Nat) (hi:i<xs.length):Sj (xs.take (i+1))=Sj (xs.take i)++[(xs.getD i ([],[])).1,(xs.getD i ([],[])).2]:=by
 rw[J4 xs i ([],[]) hi]
 simp only[Sj,List.flatMap_append,List.flatMap_cons,List.flatMap_nil,List.append_nil]
theorem B27 (H:Hp) (A B C:Ev.Obj) (E:En) (hf:E.fields.length≤1000):
  Gives (fun o e X=>o= .exit 1∧X=ap H [A,B,C, .row 0 7 [.d (F3 E)], .row E.fields.length 1 (((Sj E.fields).map D.str).map V.d)]∧e.get 2= .ptr (Be H) 0 0 0∧e.get 4= .ptr (Be H+1) 0 0 0∧e.get 5= .ptr (Be H+2) 0 0 0∧e.get 7= .slc (Be H+4) E.fields.length 0 (2*E.fields.length))
   (Bg (Bp (ev R) R.glob (Be H) Bg Bbd) [2,4,5,6,7,8] ⟨[(2, .ptr (Be H) 0 0 0),(4, .ptr (Be H+1) 0 0 0),(5, .ptr (Be H+2) 0 0 0),(6, .ptr (Be H+3) 0 0 0),(7, .slc (Be H+4) 0 0 0),(8, .d (.int .i64 0))],ap H [A,B,C, .row 0 7 [.d (F3 E)], .row 0 1 []]⟩):=by
 refine Di (F:=Bp (ev R) R.glob (Be H) Bg Bbd) (lv:=[2,4,5,6,7,8]) E.fields.length
  (fun i e X=> ∃zs:List Bq,zs=Sj (E.fields.take i)∧X=ap H [A,B,C, .row 0 7 [.d (F3 E)], .row i 1 ((zs.map D.str).map V.d)]∧e.get 2= .ptr (Be H) 0 0 0∧e.get 4= .ptr (Be H+1) 0 0 0∧e.get 5= .ptr (Be H+2) 0 0 0∧e.get 6= .ptr (Be H+3) 0 0 0∧e.get 7= .slc (Be H+4) i 0 (2*i)∧e.get 8= .d (.int .i64 i))
  _ ?_ ?_ E.fields.length 0 _ _ (by omega) ⟨[],by simp[Sj],rfl,rfl,rfl,rfl,rfl,rfl,rfl⟩
 ·rintro e X ⟨zs,hz,rfl,g2,g4,g5,g6,g7,g8⟩
  rw[List.take_length] at hz
  subst hz
  generalize Sj E.fields=zs
  simp(maxSteps:=1000000) [Ca,-List.getD_eq_getElem?_getD,-List.map_map,Bbd,g2,g4,g5,g6,g7,g8]
 ·rintro i e X hi ⟨zs,hz,rfl,g2,g4,g5,g6,g7,g8⟩
  have c: (i:Int)< (E.fields.length:Int):=by omega
  have c0: (0:Int)≤(i:Int):=by omega
  have g:=Xx E.fields i hi
  have hn:=Bll E.fields i hi
  rw[←hz] at hn
  have hl:zs.length=2*i:=by rw[hz,Bei,List.length_take];omega
  have w1:IntKind.i64.wrap ((i:Int)+1)=(i:Int)+1:=IntWalk.i64_in _ (by omega)
  have r: (2*i+2)*16≤Cq:=by unfold Cq;omega
  have h2:2*(i+1)=2*i+2:=by omega
  generalize E.fields.getD i ([],[])=x at*
  simp(maxSteps:=1000000) [Ca,-List.getD_eq_getElem?_getD,-List.map_map,Bbd,g2,g4,g5,g6,g7,g8,c,c0,hi,g,hn,hl,w1,r,h2]
theorem Bdc (b:Ba) (k:Bq) (hb:BaG b) (hk:k.length≤40):Bc (ev R) 170 [.d (Db b), .d (Bf [[72,71,69,84,65,76,76],k])]=some (Bo (Tk b k)):=Bb fun H=>by
 refine Bh (fn:=f170) rfl rfl ?_
 have p1:=Jd b k hb.sm
 have q:=Dv hb (t:=k) (by omega)
 unfold Tk
 generalize Bz b k=e at*
 have lp:=fun A B C=> (B27 H A B C e q.fields).out
 have p2:=fun H=>Dx (Xv (Sj e.fields)) H
 have hl:=Bei e.fields
 generalize Sj e.fields=zs at*
 obtain⟨o,e',X',he,rfl,rfl,g2,g4,g5,g7⟩:=lp (.row 0 2 [.d (Db b)]) (.row 0 2 [.agg [.d (.int .i64 0), .nils 7]]) (.row 0 5 [.agg [.d (.int .i64 0), .d (.int .i64 0), .d (.str []), .nils 1, .nils 5]])
 have ft:List.take (2*e.fields.length) (zs.map D.str)=zs.map D.str:=List.take_of_length_le (by simp;omega)
 have ft2:2*e.fields.length≤zs.length:=by omega
 simp(maxSteps:=1000000) [Ca,-List.getD_eq_getElem?_getD,-List.map_map,f170,p1,p2,he,g2,g4,g5,g7,Bo,Jr,ft,ft2]
end Go.Proofs.YtpajcoanfkeibaaGreatDoor.Code

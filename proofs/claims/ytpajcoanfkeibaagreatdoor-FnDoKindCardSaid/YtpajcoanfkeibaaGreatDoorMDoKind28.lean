/- Lemmas (several texts in one). -/
import Derived.Test.YtpajcoanfkeibaaGreatDoorMDoKind6
import Derived.Test.YtpajcoanfkeibaaGreatDoorMDoKind8
import Derived.Test.YtpajcoanfkeibaaGreatDoorMDoKind27
set_option maxRecDepth 100000
set_option maxHeartbeats 2000000
set_option linter.unusedSimpArgs false
set_option linter.unusedVariables false
open List renaming getD_eq_getElem?_getD → Cda, map_map → Cdb
namespace Go.Proofs.YtpajcoanfkeibaaGreatDoor.Code
open Go Go.Ev Go.Proofs
def Bcs (b:Ba) (k:Br):Ba×Re:=(b,Cs (Bz b k).scores.length)
def Be0 (b:Ba) (k t:Br):Ba×Re:=Fe b (Ck (Bz b k) (Bz b k).kind (Tx (Bz b k).scores t).1) (G5 (Tx (Bz b k).scores t).2)
def X9 (b:Ba) (k t:Br):Ba×Re:=(b,if G8 (Bz b k).scores t<0 then Nb else Cs ((Bz b k).scores.getD (G8 (Bz b k).scores t).toNat ([],0)).2)
def Bct (b:Ba) (k t:Br):Ba×Re:=(b,if G8 (Bz b k).scores t<0 then Nb else Cs (G8 (Bz b k).scores t))
def Bez (b:Ba) (k n t:Br):Ba×Re:=if(Dw n).2=true then(if(M5 (Bz b k).scores (t,(Dw n).1)).2.2=true then Fe b (Ck (Bz b k) 4 (M5 (Bz b k).scores (t,(Dw n).1)).1) (G5 (M5 (Bz b k).scores (t,(Dw n).1)).2.1) else(b,Di [108,111,110,103])) else(b,Di [110,117,109,98,101,114])
def Wt (xs:List Sc) (t:Br) (n:Int):Int:=if G8 xs t<0 then n else n+(xs.getD (G8 xs t).toNat ([],0)).2
def Qx (b:Ba) (k n t:Br):Ba×Re:=if(Dw n).2=true then(if(M5 (Bz b k).scores (t,Wt (Bz b k).scores t (Dw n).1)).2.2=true then Fe b (Ck (Bz b k) 4 (M5 (Bz b k).scores (t,Wt (Bz b k).scores t (Dw n).1)).1) (Cs (Wt (Bz b k).scores t (Dw n).1)) else(b,Di [108,111,110,103])) else(b,Di [110,117,109,98,101,114])
def Ul (b:Ba) (k n m:Br):Ba×Re:=if(Dw n).2=true∧(Dw m).2=true then(b,Je (Mi (Bur (Bz b k).scores (Dw n).1 (Dw m).1))) else(b,Di [110,117,109,98,101,114])
def Jv (b:Ba) (k n m:Br):Ba×Re:=if(Dw n).2=true∧(Dw m).2=true then(b,Je (Mi (rBy (Bz b k).scores (Dw n).1 (Dw m).1))) else(b,Di [110,117,109,98,101,114])
theorem X5 (xs:List Sc) (t:Br): -1≤G8 xs t∧G8 xs t<xs.length:=by
 unfold G8
 split
 ·split
  ·constructor<;>omega
  ·constructor<;>omega
 ·constructor<;>omega
theorem Bij (b:Ba) (k:Br) (hb:BaG b) (hk:k.length≤40):Be (ev R) 169 [.d (Df b), .d (Bf ([[90,67,65,82,68],k]))]=some (Bo (Bcs b k)):=Bb fun H=>by
 refine Bh (fn:=f169) rfl rfl ?_
 have p1:=Gv b k hb.sm
 have q:=Dn hb (t:=k) (by omega)
 unfold Bcs
 have eN:=Bu [110,117,109,98,101,114]
 have eL:=Bu [108,111,110,103]
 have eP:=Bu [112,108,97,99,101]
 have eO:=Bu [110,111,110,101]
 have no:=Gh
 generalize Bz b k=e at*
 obtain⟨key,till,kind,text,list,scores,fields⟩:=e
 obtain⟨q1,q2,q3,q4,q5,q6,q7,q8,q9,q10⟩:=q
 dsimp only[Cv,Ck,Cj,Cz] at*
 have p2:=Jf scores.length
 simp(maxSteps:=1000000) [Ci,-Cda,-Cdb,f169,p1,eN,eL,eP,eO,no,Bo,p2,Cs]
theorem Blj (b:Ba) (k:Br) (t:Br) (hb:BaG b) (hk:k.length≤40) (ht:t.length≤40):Be (ev R) 169 [.d (Df b), .d (Bf ([[90,82,69,77],k,t]))]=some (Bo (Be0 b k t)):=Bb fun H=>by
 refine Bh (fn:=f169) rfl rfl ?_
 have p1:=Gv b k hb.sm
 have q:=Dn hb (t:=k) (by omega)
 unfold Be0
 have eN:=Bu [110,117,109,98,101,114]
 have eL:=Bu [108,111,110,103]
 have eP:=Bu [112,108,97,99,101]
 have eO:=Bu [110,111,110,101]
 have no:=Gh
 generalize Bz b k=e at*
 obtain⟨key,till,kind,text,list,scores,fields⟩:=e
 obtain⟨q1,q2,q3,q4,q5,q6,q7,q8,q9,q10⟩:=q
 dsimp only[Cv,Ck,Cj,Cz] at*
 have vq:=Bus scores t ⟨q5,q6⟩
 have pv:=B7r scores t (by omega)
 generalize Tx scores t=V at*
 obtain⟨vl,vo⟩:=V
 dsimp only at*
 have q:EnQ ⟨key,till,kind,text,list,vl,fields⟩:=⟨q1,q2,q3,q4,vq.1,vq.2,q7,q8,q9,by dsimp only;omega⟩
 have p2:=Beo vo
 have p3:=Kt b _ (G5 vo) hb.sm q.sm q.fit
 generalize Fe b ⟨key,till,kind,text,list,vl,fields⟩ (G5 vo)=P at*
 simp(maxSteps:=1000000) [Ci,-Cda,-Cdb,f169,p1,eN,eL,eP,eO,no,Bo,pv,p2,p3]
theorem Bgd (b:Ba) (k:Br) (t:Br) (hb:BaG b) (hk:k.length≤40) (ht:t.length≤40):Be (ev R) 169 [.d (Df b), .d (Bf ([[90,83,67,79,82,69],k,t]))]=some (Bo (X9 b k t)):=Bb fun H=>by
 refine Bh (fn:=f169) rfl rfl ?_
 have p1:=Gv b k hb.sm
 have q:=Dn hb (t:=k) (by omega)
 unfold X9
 have eN:=Bu [110,117,109,98,101,114]
 have eL:=Bu [108,111,110,103]
 have eP:=Bu [112,108,97,99,101]
 have eO:=Bu [110,111,110,101]
 have no:=Gh
 generalize Bz b k=e at*
 obtain⟨key,till,kind,text,list,scores,fields⟩:=e
 obtain⟨q1,q2,q3,q4,q5,q6,q7,q8,q9,q10⟩:=q
 dsimp only[Cv,Ck,Cj,Cz] at*
 have ri:=X5 scores t
 have pr:=Bnq scores t (by omega)
 by_cases a:G8 scores t<0
 ·generalize G8 scores t=r at*
  have a': ¬ (0:Int)≤r:=by omega
  simp(maxSteps:=1000000) [Ci,-Cda,-Cdb,f169,p1,eN,eL,eP,eO,no,Bo,pr,eq_true a,Nb]
 ·generalize G8 scores t=r at*
  obtain⟨j,rfl⟩: ∃j:Nat,r=(j:Int):=⟨r.toNat,by omega⟩
  have c: (j:Int)< (scores.length:Int):=by omega
  have c':j<scores.length:=by omega
  have c0: ¬ (j:Int)<0:=by omega
  have c1: (0:Int)≤(j:Int):=by omega
  have g:=M3 scores j c'
  try rw[Int.toNat_natCast] at*
  have p2:=Jf (scores.getD j ([],0)).2
  generalize scores.getD j ([],0)=s at*
  simp(maxSteps:=1000000) [Ci,-Cda,-Cdb,f169,p1,eN,eL,eP,eO,no,Bo,pr,c,c',c0,c1,g,p2,Cs]
theorem Bik (b:Ba) (k:Br) (t:Br) (hb:BaG b) (hk:k.length≤40) (ht:t.length≤40):Be (ev R) 169 [.d (Df b), .d (Bf ([[90,82,65,78,75],k,t]))]=some (Bo (Bct b k t)):=Bb fun H=>by
 refine Bh (fn:=f169) rfl rfl ?_
 have p1:=Gv b k hb.sm
 have q:=Dn hb (t:=k) (by omega)
 unfold Bct
 have eN:=Bu [110,117,109,98,101,114]
 have eL:=Bu [108,111,110,103]
 have eP:=Bu [112,108,97,99,101]
 have eO:=Bu [110,111,110,101]
 have no:=Gh
 generalize Bz b k=e at*
 obtain⟨key,till,kind,text,list,scores,fields⟩:=e
 obtain⟨q1,q2,q3,q4,q5,q6,q7,q8,q9,q10⟩:=q
 dsimp only[Cv,Ck,Cj,Cz] at*
 have ri:=X5 scores t
 have pr:=Bnq scores t (by omega)
 by_cases a:G8 scores t<0
 ·generalize G8 scores t=r at*
  have a': ¬ (0:Int)≤r:=by omega
  simp(maxSteps:=1000000) [Ci,-Cda,-Cdb,f169,p1,eN,eL,eP,eO,no,Bo,pr,eq_true a,Nb]
 ·generalize G8 scores t=r at*
  obtain⟨j,rfl⟩: ∃j:Nat,r=(j:Int):=⟨r.toNat,by omega⟩
  have c: (j:Int)< (scores.length:Int):=by omega
  have c':j<scores.length:=by omega
  have c0: ¬ (j:Int)<0:=by omega
  have c1: (0:Int)≤(j:Int):=by omega
  have g:=M3 scores j c'
  try rw[Int.toNat_natCast] at*
  have p2:=Jf j
  simp(maxSteps:=1000000) [Ci,-Cda,-Cdb,f169,p1,eN,eL,eP,eO,no,Bo,pr,c,c',c0,c1,g,p2,Cs]
theorem Bli (b:Ba) (k:Br) (n:Br) (t:Br) (hb:BaG b) (hk:k.length≤40) (hn:n.length≤40) (ht:t.length≤40):Be (ev R) 169 [.d (Df b), .d (Bf ([[90,65,68,68],k,n,t]))]=some (Bo (Bez b k n t)):=Bb fun H=>by
 refine Bh (fn:=f169) rfl rfl ?_
 have p1:=Gv b k hb.sm
 have q:=Dn hb (t:=k) (by omega)
 unfold Bez
 have eN:=Bu [110,117,109,98,101,114]
 have eL:=Bu [108,111,110,103]
 have eP:=Bu [112,108,97,99,101]
 have eO:=Bu [110,111,110,101]
 have no:=Gh
 generalize Bz b k=e at*
 obtain⟨key,till,kind,text,list,scores,fields⟩:=e
 obtain⟨q1,q2,q3,q4,q5,q6,q7,q8,q9,q10⟩:=q
 dsimp only[Cv,Ck,Cj,Cz] at*
 have i0:=Jd n
 have pi0:=Md n (by omega)
 generalize Dw n=I0 at*
 obtain⟨n0,o0⟩:=I0
 dsimp only at*
 have vq:=Bog scores (t,n0) ⟨q5,q6⟩
 have pv:=Bz4 scores (t,n0) (by omega)
 have pvn:=Bs8 scores (t,n0) (by omega)
 generalize M5 scores (t,n0)=V at*
 obtain⟨vl,vf,vo⟩:=V
 dsimp only at*
 have q:EnQ ⟨key,till,4,text,list,vl,fields⟩:=⟨q1,q2,q3,q4,vq.1,vq.2,q7,q8,q9,by dsimp only;omega⟩
 have pr:=Bnq scores t (by omega)
 have p2:=Beo vf
 have p3:=Kt b _ (G5 vf) hb.sm q.sm q.fit
 generalize Fe b ⟨key,till,4,text,list,vl,fields⟩ (G5 vf)=P at*
 generalize G8 scores t=r at*
 cases o0
 ·simp(maxSteps:=1000000) [Ci,-Cda,-Cdb,f169,p1,eN,eL,eP,eO,no,Bo,pi0,Di]
 ·cases vo
  ·simp(maxSteps:=1000000) [Ci,-Cda,-Cdb,f169,p1,eN,eL,eP,eO,no,Bo,pi0,pr,pv,pvn,Di]
  ·simp(maxSteps:=1000000) [Ci,-Cda,-Cdb,f169,p1,eN,eL,eP,eO,no,Bo,pi0,pr,pv,pvn,p2,p3]
theorem Byk (xs:List Sc) (t:Br) (n:Int) (hx:ScQ xs) (hn: -1000000000≤n∧n≤1000000000): -3000000000≤Wt xs t n∧Wt xs t n≤3000000000:=by
 unfold Wt
 split
 ·omega
 ·rename_i h
  have:=X5 xs t
  have:=hx.2 _ (Jc (xs:=xs) (i:=(G8 xs t).toNat) (d:=([],0)) (by omega))
  omega
theorem Bdi (b:Ba) (k:Br) (n:Br) (t:Br) (hb:BaG b) (hk:k.length≤40) (hn:n.length≤40) (ht:t.length≤40):Be (ev R) 169 [.d (Df b), .d (Bf ([[90,73,78,67,82,66,89],k,n,t]))]=some (Bo (Qx b k n t)):=Bb fun H=>by
 refine Bh (fn:=f169) rfl rfl ?_
 have p1:=Gv b k hb.sm
 have q:=Dn hb (t:=k) (by omega)
 unfold Qx
 have eN:=Bu [110,117,109,98,101,114]
 have eL:=Bu [108,111,110,103]
 have eP:=Bu [112,108,97,99,101]
 have eO:=Bu [110,111,110,101]
 have no:=Gh
 generalize Bz b k=e at*
 obtain⟨key,till,kind,text,list,scores,fields⟩:=e
 obtain⟨q1,q2,q3,q4,q5,q6,q7,q8,q9,q10⟩:=q
 dsimp only[Cv,Ck,Cj,Cz] at*
 have i0:=Jd n
 have pi0:=Md n (by omega)
 generalize Dw n=I0 at*
 obtain⟨n0,o0⟩:=I0
 dsimp only at*
 have si:=Byk scores t n0 ⟨q5,q6⟩ i0
 have hs: ∀j:Nat,G8 scores t=(j:Int)→Wt scores t n0=n0+(scores.getD j ([],0)).2:=fun j hj=>by unfold Wt;rw[hj,Int.toNat_natCast,if_neg (by omega)]
 have hs0:G8 scores t<0→Wt scores t n0=n0:=fun h=>by unfold Wt;rw[if_pos h]
 have pv0:=Bz4 scores (t,Wt scores t n0) (by omega)
 have pv0n:=Bs8 scores (t,Wt scores t n0) (by omega)
 have vq:=Bog scores (t,Wt scores t n0) ⟨q5,q6⟩
 have pi2:=Jf (Wt scores t n0)
 generalize Wt scores t n0=S at*
 generalize M5 scores (t,S)=V at*
 obtain⟨vl,vf,vo⟩:=V
 dsimp only at*
 have q:EnQ ⟨key,till,4,text,list,vl,fields⟩:=⟨q1,q2,q3,q4,vq.1,vq.2,q7,q8,q9,by dsimp only;omega⟩
 have p3:=Kt b _ (Cs S) hb.sm q.sm q.fit
 generalize Fe b ⟨key,till,4,text,list,vl,fields⟩ (Cs S)=P at*
 unfold Cs at p3
 have ri:=X5 scores t
 have pr:=Bnq scores t (by omega)
 cases o0
 ·simp(maxSteps:=1000000) [Ci,-Cda,-Cdb,f169,p1,eN,eL,eP,eO,no,Bo,pi0,Di]
 by_cases a:G8 scores t<0
 ·generalize G8 scores t=r at*
  have a': ¬ (0:Int)≤r:=by omega
  have hs1:=hs0 a
  subst hs1
  cases vo
  ·simp(maxSteps:=1000000) [Ci,-Cda,-Cdb,f169,p1,eN,eL,eP,eO,no,Bo,pi0,pr,eq_true a,a',pv0,pv0n,Di]
  ·simp(maxSteps:=1000000) [Ci,-Cda,-Cdb,f169,p1,eN,eL,eP,eO,no,Bo,pi0,pr,eq_true a,a',pv0,pv0n,pi2,p3]
 ·generalize G8 scores t=r at*
  obtain⟨j,rfl⟩: ∃j:Nat,r=(j:Int):=⟨r.toNat,by omega⟩
  have hs1:=hs j rfl
  have c: (j:Int)< (scores.length:Int):=by omega
  have c':j<scores.length:=by omega
  have c0: ¬ (j:Int)<0:=by omega
  have c1: (0:Int)≤(j:Int):=by omega
  have g:=M3 scores j c'
  try rw[Int.toNat_natCast] at*
  have w:IntKind.i64.wrap (n0+(scores.getD j ([],0)).2)=S:=by rw[←hs1];exact IntWalk.i64_in _ (by omega)
  generalize scores.getD j ([],0)=s at*
  cases vo
  ·simp(maxSteps:=1000000) [Ci,-Cda,-Cdb,f169,p1,eN,eL,eP,eO,no,Bo,pi0,pr,c,c',c0,c1,g,w,pv0,pv0n,Di]
  ·simp(maxSteps:=1000000) [Ci,-Cda,-Cdb,f169,p1,eN,eL,eP,eO,no,Bo,pi0,pr,c,c',c0,c1,g,w,pv0,pv0n,pi2,p3]
theorem Bgc (b:Ba) (k:Br) (n:Br) (m:Br) (hb:BaG b) (hk:k.length≤40) (hn:n.length≤40) (hm:m.length≤40):Be (ev R) 169 [.d (Df b), .d (Bf ([[90,82,65,78,71,69],k,n,m]))]=some (Bo (Ul b k n m)):=Bb fun H=>by
 refine Bh (fn:=f169) rfl rfl ?_
 have p1:=Gv b k hb.sm
 have q:=Dn hb (t:=k) (by omega)
 unfold Ul
 have eN:=Bu [110,117,109,98,101,114]
 have eL:=Bu [108,111,110,103]
 have eP:=Bu [112,108,97,99,101]
 have eO:=Bu [110,111,110,101]
 have no:=Gh
 generalize Bz b k=e at*
 obtain⟨key,till,kind,text,list,scores,fields⟩:=e
 obtain⟨q1,q2,q3,q4,q5,q6,q7,q8,q9,q10⟩:=q
 dsimp only[Cv,Ck,Cj,Cz] at*
 have i0:=Jd n
 have pi0:=Md n (by omega)
 have i1:=Jd m
 have pi1:=Md m (by omega)
 generalize Dw n=I0 at*
 obtain⟨n0,o0⟩:=I0
 generalize Dw m=I1 at*
 obtain⟨n1,o1⟩:=I1
 dsimp only at*
 have vq:=B1s scores n0 n1 ⟨q5,q6⟩
 have pv:=B7s scores n0 n1 (by omega)
 generalize Bur scores n0 n1=ZV at*
 have p4:=Bz5 ZV (by have:=vq.1;omega)
 have p2:=Xx (Mi ZV)
 generalize Mi ZV=N at*
 cases o0<;>cases o1
 ·simp(maxSteps:=1000000) [Ci,-Cda,-Cdb,f169,p1,eN,eL,eP,eO,no,Bo,pi0,pi1,Di]
 ·simp(maxSteps:=1000000) [Ci,-Cda,-Cdb,f169,p1,eN,eL,eP,eO,no,Bo,pi0,pi1,Di]
 ·simp(maxSteps:=1000000) [Ci,-Cda,-Cdb,f169,p1,eN,eL,eP,eO,no,Bo,pi0,pi1,Di]
 ·simp(maxSteps:=1000000) [Ci,-Cda,-Cdb,f169,p1,eN,eL,eP,eO,no,Bo,pi0,pi1,pv,p4,p2,Je]
theorem Ur (b:Ba) (k:Br) (n:Br) (m:Br) (hb:BaG b) (hk:k.length≤40) (hn:n.length≤40) (hm:m.length≤40):Be (ev R) 169 [.d (Df b), .d (Bf ([[90,82,65,78,71,69,66,89,83,67,79,82,69],k,n,m]))]=some (Bo (Jv b k n m)):=Bb fun H=>by
 refine Bh (fn:=f169) rfl rfl ?_
 have p1:=Gv b k hb.sm
 have q:=Dn hb (t:=k) (by omega)
 unfold Jv
 have eN:=Bu [110,117,109,98,101,114]
 have eL:=Bu [108,111,110,103]
 have eP:=Bu [112,108,97,99,101]
 have eO:=Bu [110,111,110,101]
 have no:=Gh
 generalize Bz b k=e at*
 obtain⟨key,till,kind,text,list,scores,fields⟩:=e
 obtain⟨q1,q2,q3,q4,q5,q6,q7,q8,q9,q10⟩:=q
 dsimp only[Cv,Ck,Cj,Cz] at*
 have i0:=Jd n
 have pi0:=Md n (by omega)
 have i1:=Jd m
 have pi1:=Md m (by omega)
 generalize Dw n=I0 at*
 obtain⟨n0,o0⟩:=I0
 generalize Dw m=I1 at*
 obtain⟨n1,o1⟩:=I1
 dsimp only at*
 have vq:=B7a scores n0 n1 ⟨q5,q6⟩
 have pv:=B6v scores n0 n1 (by omega)
 generalize rBy scores n0 n1=ZV at*
 have p4:=Bz5 ZV (by have:=vq.1;omega)
 have p2:=Xx (Mi ZV)
 generalize Mi ZV=N at*
 cases o0<;>cases o1
 ·simp(maxSteps:=1000000) [Ci,-Cda,-Cdb,f169,p1,eN,eL,eP,eO,no,Bo,pi0,pi1,Di]
 ·simp(maxSteps:=1000000) [Ci,-Cda,-Cdb,f169,p1,eN,eL,eP,eO,no,Bo,pi0,pi1,Di]
 ·simp(maxSteps:=1000000) [Ci,-Cda,-Cdb,f169,p1,eN,eL,eP,eO,no,Bo,pi0,pi1,Di]
 ·simp(maxSteps:=1000000) [Ci,-Cda,-Cdb,f169,p1,eN,eL,eP,eO,no,Bo,pi0,pi1,pv,p4,p2,Je]
def Bit (b:Ba) (k:Br):Ba×Re:=(b,Cs (Bz b k).fields.length)
def R9 (xs:List Pr):List Br:=xs.flatMap fun p=> [p.1,p.2]
def Tg (b:Ba) (k:Br):Ba×Re:=(b,Je (R9 (Bz b k).fields))
def Bis (b:Ba) (k t:Br):Ba×Re:=(b,if(Tv (Bz b k).fields t).2=true then K8 (Tv (Bz b k).fields t).1 else Nb)
def Bet (b:Ba) (k t:Br):Ba×Re:=Fe b (Cj (Bz b k) (Bz b k).kind (Tu (Bz b k).fields t).1) (G5 (Tu (Bz b k).fields t).2)
def Beu (b:Ba) (k f t:Br):Ba×Re:=if(M4 (Bz b k).fields (f,t)).2.2=true then Fe b (Cj (Bz b k) 5 (M4 (Bz b k).fields (f,t)).1) (G5 (M4 (Bz b k).fields (f,t)).2.1) else(b,Di [108,111,110,103])
def Buh (xs:List Pr) (f y:Br):Int×Bool:=Yj (Tv xs f).1 (Tv xs f).2 y
def Qu (b:Ba) (k f y:Br):Ba×Re:=if(Buh (Bz b k).fields f y).2=true then(if(M4 (Bz b k).fields (f,Qp (Buh (Bz b k).fields f y).1)).2.2=true then Fe b (Cj (Bz b k) 5 (M4 (Bz b k).fields (f,Qp (Buh (Bz b k).fields f y).1)).1) (Cs (Buh (Bz b k).fields f y).1) else(b,Di [108,111,110,103])) else(b,Di [110,117,109,98,101,114])
theorem Bqs (xs:List Pr) (f:Br) (h:PrQ xs): (Tv xs f).1.length≤1000000:=by
 unfold Tv
 split
 ·exact(Xn (P:=fun x:Pr=>x.1.length≤1000000∧x.2.length≤1000000) h.2 (by simp) _).2
 ·simp
theorem Blm (b:Ba) (k:Br) (hb:BaG b) (hk:k.length≤40):Be (ev R) 170 [.d (Df b), .d (Bf ([[72,76,69,78],k]))]=some (Bo (Bit b k)):=Bb fun H=>by
 refine Bh (fn:=f170) rfl rfl ?_
 have p1:=Gv b k hb.sm
 have q:=Dn hb (t:=k) (by omega)
 unfold Bit
 have eN:=Bu [110,117,109,98,101,114]
 have eL:=Bu [108,111,110,103]
 have eP:=Bu [112,108,97,99,101]
 have eO:=Bu [110,111,110,101]
 have no:=Gh
 generalize Bz b k=e at*
 obtain⟨key,till,kind,text,list,scores,fields⟩:=e
 obtain⟨q1,q2,q3,q4,q5,q6,q7,q8,q9,q10⟩:=q
 dsimp only[Cv,Ck,Cj,Cz] at*
 have p2:=Jf fields.length
 simp(maxSteps:=1000000) [Ci,-Cda,-Cdb,f170,p1,eN,eL,eP,eO,no,Bo,p2,Cs]
theorem Bll (b:Ba) (k:Br) (t:Br) (hb:BaG b) (hk:k.length≤40) (ht:t.length≤40):Be (ev R) 170 [.d (Df b), .d (Bf ([[72,71,69,84],k,t]))]=some (Bo (Bis b k t)):=Bb fun H=>by
 refine Bh (fn:=f170) rfl rfl ?_
 have p1:=Gv b k hb.sm
 have q:=Dn hb (t:=k) (by omega)
 unfold Bis
 have eN:=Bu [110,117,109,98,101,114]
 have eL:=Bu [108,111,110,103]
 have eP:=Bu [112,108,97,99,101]
 have eO:=Bu [110,111,110,101]
 have no:=Gh
 generalize Bz b k=e at*
 obtain⟨key,till,kind,text,list,scores,fields⟩:=e
 obtain⟨q1,q2,q3,q4,q5,q6,q7,q8,q9,q10⟩:=q
 dsimp only[Cv,Ck,Cj,Cz] at*
 have pv:=B0g fields t (by omega)
 generalize Tv fields t=V at*
 obtain⟨vs,vo⟩:=V
 dsimp only at*
 have p2:=Ben vs
 cases vo
 ·simp(maxSteps:=1000000) [Ci,-Cda,-Cdb,f170,p1,eN,eL,eP,eO,no,Bo,pv,Nb]
 ·simp(maxSteps:=1000000) [Ci,-Cda,-Cdb,f170,p1,eN,eL,eP,eO,no,Bo,pv,p2,K8]
theorem Blk (b:Ba) (k:Br) (t:Br) (hb:BaG b) (hk:k.length≤40) (ht:t.length≤40):Be (ev R) 170 [.d (Df b), .d (Bf ([[72,68,69,76],k,t]))]=some (Bo (Bet b k t)):=Bb fun H=>by
 refine Bh (fn:=f170) rfl rfl ?_
 have p1:=Gv b k hb.sm
 have q:=Dn hb (t:=k) (by omega)
 unfold Bet
 have eN:=Bu [110,117,109,98,101,114]
 have eL:=Bu [108,111,110,103]
 have eP:=Bu [112,108,97,99,101]
 have eO:=Bu [110,111,110,101]
 have no:=Gh
 generalize Bz b k=e at*
 obtain⟨key,till,kind,text,list,scores,fields⟩:=e
 obtain⟨q1,q2,q3,q4,q5,q6,q7,q8,q9,q10⟩:=q
 dsimp only[Cv,Ck,Cj,Cz] at*
 have vq:=Bum fields t ⟨q7,q8⟩
 have pv:=B7t fields t (by omega)
 generalize Tu fields t=V at*
 obtain⟨vl,vo⟩:=V
 dsimp only at*
 have q:EnQ ⟨key,till,kind,text,list,scores,vl⟩:=⟨q1,q2,q3,q4,q5,q6,vq.1,vq.2,q9,by dsimp only;omega⟩
 have p2:=Beo vo
 have p3:=Kt b _ (G5 vo) hb.sm q.sm q.fit
 generalize Fe b ⟨key,till,kind,text,list,scores,vl⟩ (G5 vo)=P at*
 simp(maxSteps:=1000000) [Ci,-Cda,-Cdb,f170,p1,eN,eL,eP,eO,no,Bo,pv,p2,p3]
theorem Bln (b:Ba) (k:Br) (f:Br) (t:Br) (hb:BaG b) (hk:k.length≤40) (hf:f.length≤40) (ht:t.length≤40):Be (ev R) 170 [.d (Df b), .d (Bf ([[72,83,69,84],k,f,t]))]=some (Bo (Beu b k f t)):=Bb fun H=>by
 refine Bh (fn:=f170) rfl rfl ?_
 have p1:=Gv b k hb.sm
 have q:=Dn hb (t:=k) (by omega)
 unfold Beu
 have eN:=Bu [110,117,109,98,101,114]
 have eL:=Bu [108,111,110,103]
 have eP:=Bu [112,108,97,99,101]
 have eO:=Bu [110,111,110,101]
 have no:=Gh
 generalize Bz b k=e at*
 obtain⟨key,till,kind,text,list,scores,fields⟩:=e
 obtain⟨q1,q2,q3,q4,q5,q6,q7,q8,q9,q10⟩:=q
 dsimp only[Cv,Ck,Cj,Cz] at*
 have vq:=Boe fields (f,t) ⟨q7,q8⟩
 have pv:=Bz6 fields (f,t) (by omega)
 have pvn:=Bs9 fields (f,t) (by omega)
 generalize M4 fields (f,t)=V at*
 obtain⟨vl,vf,vo⟩:=V
 dsimp only at*
 have q:EnQ ⟨key,till,5,text,list,scores,vl⟩:=⟨q1,q2,q3,q4,q5,q6,vq.1,vq.2,q9,by dsimp only;omega⟩
 have p2:=Beo vf
 have p3:=Kt b _ (G5 vf) hb.sm q.sm q.fit
 generalize Fe b ⟨key,till,5,text,list,scores,vl⟩ (G5 vf)=P at*
 cases vo
 ·simp(maxSteps:=1000000) [Ci,-Cda,-Cdb,f170,p1,eN,eL,eP,eO,no,Bo,pv,pvn,Di]
 ·simp(maxSteps:=1000000) [Ci,-Cda,-Cdb,f170,p1,eN,eL,eP,eO,no,Bo,pv,pvn,p2,p3]
theorem Bdk (b:Ba) (k:Br) (f:Br) (y:Br) (hb:BaG b) (hk:k.length≤40) (hf:f.length≤40) (hy:y.length≤40):Be (ev R) 170 [.d (Df b), .d (Bf ([[72,73,78,67,82,66,89],k,f,y]))]=some (Bo (Qu b k f y)):=Bb fun H=>by
 refine Bh (fn:=f170) rfl rfl ?_
 have p1:=Gv b k hb.sm
 have q:=Dn hb (t:=k) (by omega)
 unfold Qu
 have eN:=Bu [110,117,109,98,101,114]
 have eL:=Bu [108,111,110,103]
 have eP:=Bu [112,108,97,99,101]
 have eO:=Bu [110,111,110,101]
 have no:=Gh
 generalize Bz b k=e at*
 obtain⟨key,till,kind,text,list,scores,fields⟩:=e
 obtain⟨q1,q2,q3,q4,q5,q6,q7,q8,q9,q10⟩:=q
 dsimp only[Cv,Ck,Cj,Cz] at*
 unfold Buh
 have gl:=Bqs fields f ⟨q7,q8⟩
 have pv:=B0g fields f (by omega)
 generalize Tv fields f=V at*
 obtain⟨gs,go⟩:=V
 dsimp only at*
 have pa:=Bs7 gs go y (by omega) (by omega)
 have ai:=Bfc gs go y
 generalize Yj gs go y=A at*
 obtain⟨n,ao⟩:=A
 dsimp only at*
 have pd:=Bxw n ai
 have pw:=Bz6 fields (f,Qp n) (by omega)
 have pwn:=Bs9 fields (f,Qp n) (by omega)
 have vq:=Boe fields (f,Qp n) ⟨q7,q8⟩
 generalize Qp n=D at*
 generalize M4 fields (f,D)=V at*
 obtain⟨vl,vf,vo⟩:=V
 dsimp only at*
 have q:EnQ ⟨key,till,5,text,list,scores,vl⟩:=⟨q1,q2,q3,q4,q5,q6,vq.1,vq.2,q9,by dsimp only;omega⟩
 have p2:=Jf n
 have p3:=Kt b _ (Cs n) hb.sm q.sm q.fit
 generalize Fe b ⟨key,till,5,text,list,scores,vl⟩ (Cs n)=P at*
 unfold Cs at p3
 cases ao
 ·simp(maxSteps:=1000000) [Ci,-Cda,-Cdb,f170,p1,eN,eL,eP,eO,no,Bo,pv,pa,Di]
 ·cases vo
  ·simp(maxSteps:=1000000) [Ci,-Cda,-Cdb,f170,p1,eN,eL,eP,eO,no,Bo,pv,pa,pd,pw,pwn,Di]
  ·simp(maxSteps:=1000000) [Ci,-Cda,-Cdb,f170,p1,eN,eL,eP,eO,no,Bo,pv,pa,pd,pw,pwn,p2,p3]
theorem Beq (xs:List Pr): (R9 xs).length=2*xs.length:=by
 unfold R9
 induction xs with
 |nil=>rfl
 |cons x xs ih=>rw[List.flatMap_cons,List.length_append,ih];simp;omega
theorem Blu (xs:List Pr) (i:Nat) (hi:i<xs.length):R9 (xs.take (i+1))=R9 (xs.take i)++[(xs.getD i ([],[])).1,(xs.getD i ([],[])).2]:=by
 rw[J8 xs i ([],[]) hi]
 simp only[R9,List.flatMap_append,List.flatMap_cons,List.flatMap_nil,List.append_nil]
theorem B3l (H:Hp) (A B C:Ev.Obj) (E:En) (hf:E.fields.length≤1000):
  Gives (fun o e X=>o= .exit 1∧X=ap H [A,B,C, .row 0 7 [.d (Jn E)], .row E.fields.length 1 (((R9 E.fields).map D.str).map V.d)]∧e.get 2= .ptr (Bc H) 0 0 0∧e.get 4= .ptr (Bc H+1) 0 0 0∧e.get 5= .ptr (Bc H+2) 0 0 0∧e.get 7= .slc (Bc H+4) E.fields.length 0 (2*E.fields.length))
   (Bg (Bq (ev R) R.glob (Bc H) Bg Bbi) [2,4,5,6,7,8] ⟨[(2, .ptr (Bc H) 0 0 0),(4, .ptr (Bc H+1) 0 0 0),(5, .ptr (Bc H+2) 0 0 0),(6, .ptr (Bc H+3) 0 0 0),(7, .slc (Bc H+4) 0 0 0),(8, .d (.int .i64 0))],ap H [A,B,C, .row 0 7 [.d (Jn E)], .row 0 1 []]⟩):=by
 refine C9 (F:=Bq (ev R) R.glob (Bc H) Bg Bbi) (lv:=[2,4,5,6,7,8]) E.fields.length
  (fun i e X=> ∃zs:List Br,zs=R9 (E.fields.take i)∧X=ap H [A,B,C, .row 0 7 [.d (Jn E)], .row i 1 ((zs.map D.str).map V.d)]∧e.get 2= .ptr (Bc H) 0 0 0∧e.get 4= .ptr (Bc H+1) 0 0 0∧e.get 5= .ptr (Bc H+2) 0 0 0∧e.get 6= .ptr (Bc H+3) 0 0 0∧e.get 7= .slc (Bc H+4) i 0 (2*i)∧e.get 8= .d (.int .i64 i))
  _ ?_ ?_ E.fields.length 0 _ _ (by omega) ⟨[],by simp[R9],rfl,rfl,rfl,rfl,rfl,rfl,rfl⟩
 ·rintro e X ⟨zs,hz,rfl,g2,g4,g5,g6,g7,g8⟩
  rw[List.take_length] at hz
  subst hz
  generalize R9 E.fields=zs
  simp(maxSteps:=1000000) [Ci,-Cda,-Cdb,Bbi,g2,g4,g5,g6,g7,g8]
 ·rintro i e X hi ⟨zs,hz,rfl,g2,g4,g5,g6,g7,g8⟩
  have c: (i:Int)< (E.fields.length:Int):=by omega
  have c0: (0:Int)≤(i:Int):=by omega
  have g:=Xz E.fields i hi
  have hn:=Blu E.fields i hi
  rw[←hz] at hn
  have hl:zs.length=2*i:=by rw[hz,Beq,List.length_take];omega
  have w1:IntKind.i64.wrap ((i:Int)+1)=(i:Int)+1:=IntWalk.i64_in _ (by omega)
  have r: (2*i+2)*16≤Ct:=by unfold Ct;omega
  have h2:2*(i+1)=2*i+2:=by omega
  generalize E.fields.getD i ([],[])=x at*
  simp(maxSteps:=1000000) [Ci,-Cda,-Cdb,Bbi,g2,g4,g5,g6,g7,g8,c,c0,hi,g,hn,hl,w1,r,h2]
theorem Bdj (b:Ba) (k:Br) (hb:BaG b) (hk:k.length≤40):Be (ev R) 170 [.d (Df b), .d (Bf [[72,71,69,84,65,76,76],k])]=some (Bo (Tg b k)):=Bb fun H=>by
 refine Bh (fn:=f170) rfl rfl ?_
 have p1:=Gv b k hb.sm
 have q:=Dn hb (t:=k) (by omega)
 unfold Tg
 generalize Bz b k=e at*
 have lp:=fun A B C=> (B3l H A B C e q.fields).out
 have p2:=fun H=>Dr (Xx (R9 e.fields)) H
 have hl:=Beq e.fields
 generalize R9 e.fields=zs at*
 obtain⟨o,e',X',he,rfl,rfl,g2,g4,g5,g7⟩:=lp (.row 0 2 [.d (Df b)]) (.row 0 2 [.agg [.d (.int .i64 0), .nils 7]]) (.row 0 5 [.agg [.d (.int .i64 0), .d (.int .i64 0), .d (.str []), .nils 1, .nils 5]])
 have ft:List.take (2*e.fields.length) (zs.map D.str)=zs.map D.str:=List.take_of_length_le (by simp;omega)
 have ft2:2*e.fields.length≤zs.length:=by omega
 simp(maxSteps:=1000000) [Ci,-Cda,-Cdb,f170,p1,p2,he,g2,g4,g5,g7,Bo,Je,ft,ft2]
end Go.Proofs.YtpajcoanfkeibaaGreatDoor.Code

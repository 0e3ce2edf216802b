/- Lemmas (several texts in one). -/
import Derived.Test.YtjdmiodinhlchaaGreatMBaseDrop7
import Derived.Test.YtjdmiodinhlchaaGreatMBaseDrop25
set_option maxRecDepth 100000
set_option maxHeartbeats 2000000
set_option linter.unusedSimpArgs false
set_option linter.unusedVariables false
namespace Go.Proofs.YtjdmiodinhlchaaGreat.Code
open Go Go.Ev Go.Proofs
def W0 (b:Ba) (k:Bm):Ba×Re:=(b,Cf (Bt b k).scores.length)
def Yz (b:Ba) (k t:Bm):Ba×Re:=Dg b (B8 (Bt b k) (Bt b k).kind (Pc (Bt b k).scores t).1) (Fr (Pc (Bt b k).scores t).2)
def Ro (b:Ba) (k t:Bm):Ba×Re:=(b,if Fu (Bt b k).scores t<0 then Kn else Cf ((Bt b k).scores.getD (Fu (Bt b k).scores t).toNat ([],0)).2)
def W1 (b:Ba) (k t:Bm):Ba×Re:=(b,if Fu (Bt b k).scores t<0 then Kn else Cf (Fu (Bt b k).scores t))
def Yy (b:Ba) (k n t:Bm):Ba×Re:=if(C8 n).2=true then(if(Mq (Bt b k).scores (t,(C8 n).1)).2.2=true then Dg b (B8 (Bt b k) 4 (Mq (Bt b k).scores (t,(C8 n).1)).1) (Fr (Mq (Bt b k).scores (t,(C8 n).1)).2.1) else(b,Cu [108,111,110,103])) else(b,Cu [110,117,109,98,101,114])
def Ru (xs:List Sc) (t:Bm) (n:Int):Int:=if Fu xs t<0 then n else n+(xs.getD (Fu xs t).toNat ([],0)).2
def Ml (b:Ba) (k n t:Bm):Ba×Re:=if(C8 n).2=true then(if(Mq (Bt b k).scores (t,Ru (Bt b k).scores t (C8 n).1)).2.2=true then Dg b (B8 (Bt b k) 4 (Mq (Bt b k).scores (t,Ru (Bt b k).scores t (C8 n).1)).1) (Cf (Ru (Bt b k).scores t (C8 n).1)) else(b,Cu [108,111,110,103])) else(b,Cu [110,117,109,98,101,114])
def Ps (b:Ba) (k n m:Bm):Ba×Re:=if(C8 n).2=true∧(C8 m).2=true then(b,F1 (J4 (Bnn (Bt b k).scores (C8 n).1 (C8 m).1))) else(b,Cu [110,117,109,98,101,114])
def Gi (b:Ba) (k n m:Bm):Ba×Re:=if(C8 n).2=true∧(C8 m).2=true then(b,F1 (J4 (rBy (Bt b k).scores (C8 n).1 (C8 m).1))) else(b,Cu [110,117,109,98,101,114])
theorem Rk (xs:List Sc) (t:Bm): -1≤Fu xs t∧Fu xs t<xs.length:=by
 unfold Fu
 split
 ·split
  ·constructor<;>omega
  ·constructor<;>omega
 ·constructor<;>omega
theorem Bb6 (b:Ba) (k:Bm) (hb:BaG b) (hk:k.length≤40):Be (ev R) 113 [.d (Cv b), .d (Bf ([[90,67,65,82,68],k]))]=some (Bk (W0 b k)):=Bb fun H=>by
 refine Bi (fn:=f113) rfl rfl ?_
 have p1:=Fm b k hb.sm
 have q:=C0 hb (t:=k) (by omega)
 unfold W0
 have eN:=Br [110,117,109,98,101,114]
 have eL:=Br [108,111,110,103]
 have eP:=Br [112,108,97,99,101]
 have eO:=Br [110,111,110,101]
 have no:=Fa
 generalize Bt b k=e at*
 obtain⟨key,till,kind,text,list,scores,fields⟩:=e
 obtain⟨q1,q2,q3,q4,q5,q6,q7,q8,q9,q10⟩:=q
 dsimp only[Ch,B8,B7,Cj] at*
 have p2:=F6 scores.length
 simp(maxSteps:=1000000) [Ca,-List.getD_eq_getElem?_getD,-List.map_map,f113,p1,eN,eL,eP,eO,no,Bk,p2,Cf]
theorem Be5 (b:Ba) (k:Bm) (t:Bm) (hb:BaG b) (hk:k.length≤40) (ht:t.length≤40):Be (ev R) 113 [.d (Cv b), .d (Bf ([[90,82,69,77],k,t]))]=some (Bk (Yz b k t)):=Bb fun H=>by
 refine Bi (fn:=f113) rfl rfl ?_
 have p1:=Fm b k hb.sm
 have q:=C0 hb (t:=k) (by omega)
 unfold Yz
 have eN:=Br [110,117,109,98,101,114]
 have eL:=Br [108,111,110,103]
 have eP:=Br [112,108,97,99,101]
 have eO:=Br [110,111,110,101]
 have no:=Fa
 generalize Bt b k=e at*
 obtain⟨key,till,kind,text,list,scores,fields⟩:=e
 obtain⟨q1,q2,q3,q4,q5,q6,q7,q8,q9,q10⟩:=q
 dsimp only[Ch,B8,B7,Cj] at*
 have vq:=Bno scores t ⟨q5,q6⟩
 have pv:=Byf scores t (by omega)
 generalize Pc scores t=V at*
 obtain⟨vl,vo⟩:=V
 dsimp only at*
 have q:EnQ ⟨key,till,kind,text,list,vl,fields⟩:=⟨q1,q2,q3,q4,vq.1,vq.2,q7,q8,q9,by dsimp only;omega⟩
 have p2:=Yn vo
 have p3:=G5 b _ (Fr vo) hb.sm q.sm q.fit
 generalize Dg b ⟨key,till,kind,text,list,vl,fields⟩ (Fr vo)=P at*
 simp(maxSteps:=1000000) [Ca,-List.getD_eq_getElem?_getD,-List.map_map,f113,p1,eN,eL,eP,eO,no,Bk,pv,p2,p3]
theorem Z6 (b:Ba) (k:Bm) (t:Bm) (hb:BaG b) (hk:k.length≤40) (ht:t.length≤40):Be (ev R) 113 [.d (Cv b), .d (Bf ([[90,83,67,79,82,69],k,t]))]=some (Bk (Ro b k t)):=Bb fun H=>by
 refine Bi (fn:=f113) rfl rfl ?_
 have p1:=Fm b k hb.sm
 have q:=C0 hb (t:=k) (by omega)
 unfold Ro
 have eN:=Br [110,117,109,98,101,114]
 have eL:=Br [108,111,110,103]
 have eP:=Br [112,108,97,99,101]
 have eO:=Br [110,111,110,101]
 have no:=Fa
 generalize Bt b k=e at*
 obtain⟨key,till,kind,text,list,scores,fields⟩:=e
 obtain⟨q1,q2,q3,q4,q5,q6,q7,q8,q9,q10⟩:=q
 dsimp only[Ch,B8,B7,Cj] at*
 have ri:=Rk scores t
 have pr:=Bhe scores t (by omega)
 by_cases a:Fu scores t<0
 ·generalize Fu scores t=r at*
  have a': ¬ (0:Int)≤r:=by omega
  simp(maxSteps:=1000000) [Ca,-List.getD_eq_getElem?_getD,-List.map_map,f113,p1,eN,eL,eP,eO,no,Bk,pr,eq_true a,Kn]
 ·generalize Fu scores t=r at*
  obtain⟨j,rfl⟩: ∃j:Nat,r=(j:Int):=⟨r.toNat,by omega⟩
  have c: (j:Int)< (scores.length:Int):=by omega
  have c':j<scores.length:=by omega
  have c0: ¬ (j:Int)<0:=by omega
  have c1: (0:Int)≤(j:Int):=by omega
  have g:=Kh scores j c'
  try rw[Int.toNat_natCast] at*
  have p2:=F6 (scores.getD j ([],0)).2
  generalize scores.getD j ([],0)=s at*
  simp(maxSteps:=1000000) [Ca,-List.getD_eq_getElem?_getD,-List.map_map,f113,p1,eN,eL,eP,eO,no,Bk,pr,c,c',c0,c1,g,p2,Cf]
theorem Bb7 (b:Ba) (k:Bm) (t:Bm) (hb:BaG b) (hk:k.length≤40) (ht:t.length≤40):Be (ev R) 113 [.d (Cv b), .d (Bf ([[90,82,65,78,75],k,t]))]=some (Bk (W1 b k t)):=Bb fun H=>by
 refine Bi (fn:=f113) rfl rfl ?_
 have p1:=Fm b k hb.sm
 have q:=C0 hb (t:=k) (by omega)
 unfold W1
 have eN:=Br [110,117,109,98,101,114]
 have eL:=Br [108,111,110,103]
 have eP:=Br [112,108,97,99,101]
 have eO:=Br [110,111,110,101]
 have no:=Fa
 generalize Bt b k=e at*
 obtain⟨key,till,kind,text,list,scores,fields⟩:=e
 obtain⟨q1,q2,q3,q4,q5,q6,q7,q8,q9,q10⟩:=q
 dsimp only[Ch,B8,B7,Cj] at*
 have ri:=Rk scores t
 have pr:=Bhe scores t (by omega)
 by_cases a:Fu scores t<0
 ·generalize Fu scores t=r at*
  have a': ¬ (0:Int)≤r:=by omega
  simp(maxSteps:=1000000) [Ca,-List.getD_eq_getElem?_getD,-List.map_map,f113,p1,eN,eL,eP,eO,no,Bk,pr,eq_true a,Kn]
 ·generalize Fu scores t=r at*
  obtain⟨j,rfl⟩: ∃j:Nat,r=(j:Int):=⟨r.toNat,by omega⟩
  have c: (j:Int)< (scores.length:Int):=by omega
  have c':j<scores.length:=by omega
  have c0: ¬ (j:Int)<0:=by omega
  have c1: (0:Int)≤(j:Int):=by omega
  have g:=Kh scores j c'
  try rw[Int.toNat_natCast] at*
  have p2:=F6 j
  simp(maxSteps:=1000000) [Ca,-List.getD_eq_getElem?_getD,-List.map_map,f113,p1,eN,eL,eP,eO,no,Bk,pr,c,c',c0,c1,g,p2,Cf]
theorem Be4 (b:Ba) (k:Bm) (n:Bm) (t:Bm) (hb:BaG b) (hk:k.length≤40) (hn:n.length≤40) (ht:t.length≤40):Be (ev R) 113 [.d (Cv b), .d (Bf ([[90,65,68,68],k,n,t]))]=some (Bk (Yy b k n t)):=Bb fun H=>by
 refine Bi (fn:=f113) rfl rfl ?_
 have p1:=Fm b k hb.sm
 have q:=C0 hb (t:=k) (by omega)
 unfold Yy
 have eN:=Br [110,117,109,98,101,114]
 have eL:=Br [108,111,110,103]
 have eP:=Br [112,108,97,99,101]
 have eO:=Br [110,111,110,101]
 have no:=Fa
 generalize Bt b k=e at*
 obtain⟨key,till,kind,text,list,scores,fields⟩:=e
 obtain⟨q1,q2,q3,q4,q5,q6,q7,q8,q9,q10⟩:=q
 dsimp only[Ch,B8,B7,Cj] at*
 have i0:=F0 n
 have pi0:=Jx n (by omega)
 generalize C8 n=I0 at*
 obtain⟨n0,o0⟩:=I0
 dsimp only at*
 have vq:=Bh0 scores (t,n0) ⟨q5,q6⟩
 have pv:=Bsi scores (t,n0) (by omega)
 generalize Mq scores (t,n0)=V at*
 obtain⟨vl,vf,vo⟩:=V
 dsimp only at*
 have q:EnQ ⟨key,till,4,text,list,vl,fields⟩:=⟨q1,q2,q3,q4,vq.1,vq.2,q7,q8,q9,by dsimp only;omega⟩
 have pr:=Bhe scores t (by omega)
 have p2:=Yn vf
 have p3:=G5 b _ (Fr vf) hb.sm q.sm q.fit
 generalize Dg b ⟨key,till,4,text,list,vl,fields⟩ (Fr vf)=P at*
 generalize Fu scores t=r at*
 cases o0
 ·simp(maxSteps:=1000000) [Ca,-List.getD_eq_getElem?_getD,-List.map_map,f113,p1,eN,eL,eP,eO,no,Bk,pi0,Cu]
 ·cases vo
  ·simp(maxSteps:=1000000) [Ca,-List.getD_eq_getElem?_getD,-List.map_map,f113,p1,eN,eL,eP,eO,no,Bk,pi0,pr,pv,Cu]
  ·simp(maxSteps:=1000000) [Ca,-List.getD_eq_getElem?_getD,-List.map_map,f113,p1,eN,eL,eP,eO,no,Bk,pi0,pr,pv,p2,p3]
theorem Bq0 (xs:List Sc) (t:Bm) (n:Int) (hx:ScQ xs) (hn: -1000000000≤n∧n≤1000000000): -3000000000≤Ru xs t n∧Ru xs t n≤3000000000:=by
 unfold Ru
 split
 ·omega
 ·rename_i h
  have:=Rk xs t
  have:=hx.2 _ (Fz (xs:=xs) (i:=(Fu xs t).toNat) (d:=([],0)) (by omega))
  omega
theorem Xl (b:Ba) (k:Bm) (n:Bm) (t:Bm) (hb:BaG b) (hk:k.length≤40) (hn:n.length≤40) (ht:t.length≤40):Be (ev R) 113 [.d (Cv b), .d (Bf ([[90,73,78,67,82,66,89],k,n,t]))]=some (Bk (Ml b k n t)):=Bb fun H=>by
 refine Bi (fn:=f113) rfl rfl ?_
 have p1:=Fm b k hb.sm
 have q:=C0 hb (t:=k) (by omega)
 unfold Ml
 have eN:=Br [110,117,109,98,101,114]
 have eL:=Br [108,111,110,103]
 have eP:=Br [112,108,97,99,101]
 have eO:=Br [110,111,110,101]
 have no:=Fa
 generalize Bt b k=e at*
 obtain⟨key,till,kind,text,list,scores,fields⟩:=e
 obtain⟨q1,q2,q3,q4,q5,q6,q7,q8,q9,q10⟩:=q
 dsimp only[Ch,B8,B7,Cj] at*
 have i0:=F0 n
 have pi0:=Jx n (by omega)
 generalize C8 n=I0 at*
 obtain⟨n0,o0⟩:=I0
 dsimp only at*
 have si:=Bq0 scores t n0 ⟨q5,q6⟩ i0
 have hs: ∀j:Nat,Fu scores t=(j:Int)→Ru scores t n0=n0+(scores.getD j ([],0)).2:=fun j hj=>by unfold Ru;rw[hj,Int.toNat_natCast,if_neg (by omega)]
 have hs0:Fu scores t<0→Ru scores t n0=n0:=fun h=>by unfold Ru;rw[if_pos h]
 have pv0:=Bsi scores (t,Ru scores t n0) (by omega)
 have vq:=Bh0 scores (t,Ru scores t n0) ⟨q5,q6⟩
 have pi2:=F6 (Ru scores t n0)
 generalize Ru scores t n0=S at*
 generalize Mq scores (t,S)=V at*
 obtain⟨vl,vf,vo⟩:=V
 dsimp only at*
 have q:EnQ ⟨key,till,4,text,list,vl,fields⟩:=⟨q1,q2,q3,q4,vq.1,vq.2,q7,q8,q9,by dsimp only;omega⟩
 have p3:=G5 b _ (Cf S) hb.sm q.sm q.fit
 generalize Dg b ⟨key,till,4,text,list,vl,fields⟩ (Cf S)=P at*
 unfold Cf at p3
 have ri:=Rk scores t
 have pr:=Bhe scores t (by omega)
 cases o0
 ·simp(maxSteps:=1000000) [Ca,-List.getD_eq_getElem?_getD,-List.map_map,f113,p1,eN,eL,eP,eO,no,Bk,pi0,Cu]
 by_cases a:Fu scores t<0
 ·generalize Fu scores t=r at*
  have a': ¬ (0:Int)≤r:=by omega
  have hs1:=hs0 a
  subst hs1
  cases vo
  ·simp(maxSteps:=1000000) [Ca,-List.getD_eq_getElem?_getD,-List.map_map,f113,p1,eN,eL,eP,eO,no,Bk,pi0,pr,eq_true a,a',pv0,Cu]
  ·simp(maxSteps:=1000000) [Ca,-List.getD_eq_getElem?_getD,-List.map_map,f113,p1,eN,eL,eP,eO,no,Bk,pi0,pr,eq_true a,a',pv0,pi2,p3]
 ·generalize Fu scores t=r at*
  obtain⟨j,rfl⟩: ∃j:Nat,r=(j:Int):=⟨r.toNat,by omega⟩
  have hs1:=hs j rfl
  have c: (j:Int)< (scores.length:Int):=by omega
  have c':j<scores.length:=by omega
  have c0: ¬ (j:Int)<0:=by omega
  have c1: (0:Int)≤(j:Int):=by omega
  have g:=Kh scores j c'
  try rw[Int.toNat_natCast] at*
  have w:IntKind.i64.wrap (n0+(scores.getD j ([],0)).2)=S:=by rw[←hs1];exact IntWalk.i64_in _ (by omega)
  generalize scores.getD j ([],0)=s at*
  cases vo
  ·simp(maxSteps:=1000000) [Ca,-List.getD_eq_getElem?_getD,-List.map_map,f113,p1,eN,eL,eP,eO,no,Bk,pi0,pr,c,c',c0,c1,g,w,pv0,Cu]
  ·simp(maxSteps:=1000000) [Ca,-List.getD_eq_getElem?_getD,-List.map_map,f113,p1,eN,eL,eP,eO,no,Bk,pi0,pr,c,c',c0,c1,g,w,pv0,pi2,p3]
theorem Z5 (b:Ba) (k:Bm) (n:Bm) (m:Bm) (hb:BaG b) (hk:k.length≤40) (hn:n.length≤40) (hm:m.length≤40):Be (ev R) 113 [.d (Cv b), .d (Bf ([[90,82,65,78,71,69],k,n,m]))]=some (Bk (Ps b k n m)):=Bb fun H=>by
 refine Bi (fn:=f113) rfl rfl ?_
 have p1:=Fm b k hb.sm
 have q:=C0 hb (t:=k) (by omega)
 unfold Ps
 have eN:=Br [110,117,109,98,101,114]
 have eL:=Br [108,111,110,103]
 have eP:=Br [112,108,97,99,101]
 have eO:=Br [110,111,110,101]
 have no:=Fa
 generalize Bt b k=e at*
 obtain⟨key,till,kind,text,list,scores,fields⟩:=e
 obtain⟨q1,q2,q3,q4,q5,q6,q7,q8,q9,q10⟩:=q
 dsimp only[Ch,B8,B7,Cj] at*
 have i0:=F0 n
 have pi0:=Jx n (by omega)
 have i1:=F0 m
 have pi1:=Jx m (by omega)
 generalize C8 n=I0 at*
 obtain⟨n0,o0⟩:=I0
 generalize C8 m=I1 at*
 obtain⟨n1,o1⟩:=I1
 dsimp only at*
 have vq:=Btv scores n0 n1 ⟨q5,q6⟩
 have pv:=Byg scores n0 n1 (by omega)
 generalize Bnn scores n0 n1=ZV at*
 have p4:=Bsc ZV (by have:=vq.1;omega)
 have p2:=Rf (J4 ZV)
 generalize J4 ZV=N at*
 cases o0<;>cases o1
 ·simp(maxSteps:=1000000) [Ca,-List.getD_eq_getElem?_getD,-List.map_map,f113,p1,eN,eL,eP,eO,no,Bk,pi0,pi1,Cu]
 ·simp(maxSteps:=1000000) [Ca,-List.getD_eq_getElem?_getD,-List.map_map,f113,p1,eN,eL,eP,eO,no,Bk,pi0,pi1,Cu]
 ·simp(maxSteps:=1000000) [Ca,-List.getD_eq_getElem?_getD,-List.map_map,f113,p1,eN,eL,eP,eO,no,Bk,pi0,pi1,Cu]
 ·simp(maxSteps:=1000000) [Ca,-List.getD_eq_getElem?_getD,-List.map_map,f113,p1,eN,eL,eP,eO,no,Bk,pi0,pi1,pv,p4,p2,F1]
theorem Py (b:Ba) (k:Bm) (n:Bm) (m:Bm) (hb:BaG b) (hk:k.length≤40) (hn:n.length≤40) (hm:m.length≤40):Be (ev R) 113 [.d (Cv b), .d (Bf ([[90,82,65,78,71,69,66,89,83,67,79,82,69],k,n,m]))]=some (Bk (Gi b k n m)):=Bb fun H=>by
 refine Bi (fn:=f113) rfl rfl ?_
 have p1:=Fm b k hb.sm
 have q:=C0 hb (t:=k) (by omega)
 unfold Gi
 have eN:=Br [110,117,109,98,101,114]
 have eL:=Br [108,111,110,103]
 have eP:=Br [112,108,97,99,101]
 have eO:=Br [110,111,110,101]
 have no:=Fa
 generalize Bt b k=e at*
 obtain⟨key,till,kind,text,list,scores,fields⟩:=e
 obtain⟨q1,q2,q3,q4,q5,q6,q7,q8,q9,q10⟩:=q
 dsimp only[Ch,B8,B7,Cj] at*
 have i0:=F0 n
 have pi0:=Jx n (by omega)
 have i1:=F0 m
 have pi1:=Jx m (by omega)
 generalize C8 n=I0 at*
 obtain⟨n0,o0⟩:=I0
 generalize C8 m=I1 at*
 obtain⟨n1,o1⟩:=I1
 dsimp only at*
 have vq:=Bx0 scores n0 n1 ⟨q5,q6⟩
 have pv:=Bxo scores n0 n1 (by omega)
 generalize rBy scores n0 n1=ZV at*
 have p4:=Bsc ZV (by have:=vq.1;omega)
 have p2:=Rf (J4 ZV)
 generalize J4 ZV=N at*
 cases o0<;>cases o1
 ·simp(maxSteps:=1000000) [Ca,-List.getD_eq_getElem?_getD,-List.map_map,f113,p1,eN,eL,eP,eO,no,Bk,pi0,pi1,Cu]
 ·simp(maxSteps:=1000000) [Ca,-List.getD_eq_getElem?_getD,-List.map_map,f113,p1,eN,eL,eP,eO,no,Bk,pi0,pi1,Cu]
 ·simp(maxSteps:=1000000) [Ca,-List.getD_eq_getElem?_getD,-List.map_map,f113,p1,eN,eL,eP,eO,no,Bk,pi0,pi1,Cu]
 ·simp(maxSteps:=1000000) [Ca,-List.getD_eq_getElem?_getD,-List.map_map,f113,p1,eN,eL,eP,eO,no,Bk,pi0,pi1,pv,p4,p2,F1]
def Bcf (b:Ba) (k:Bm):Ba×Re:=(b,Cf (Bt b k).fields.length)
def Nj (xs:List Pr):List Bm:=xs.flatMap fun p=> [p.1,p.2]
def N1 (b:Ba) (k:Bm):Ba×Re:=(b,F1 (Nj (Bt b k).fields))
def Bce (b:Ba) (k t:Bm):Ba×Re:=(b,if(Pa (Bt b k).fields t).2=true then Jd (Pa (Bt b k).fields t).1 else Kn)
def Ys (b:Ba) (k t:Bm):Ba×Re:=Dg b (B7 (Bt b k) (Bt b k).kind (N9 (Bt b k).fields t).1) (Fr (N9 (Bt b k).fields t).2)
def Yt (b:Ba) (k f t:Bm):Ba×Re:=if(Mp (Bt b k).fields (f,t)).2.2=true then Dg b (B7 (Bt b k) 5 (Mp (Bt b k).fields (f,t)).1) (Fr (Mp (Bt b k).fields (f,t)).2.1) else(b,Cu [108,111,110,103])
def Bne (xs:List Pr) (f y:Bm):Int×Bool:=R0 (Pa xs f).1 (Pa xs f).2 y
def Mi (b:Ba) (k f y:Bm):Ba×Re:=if(Bne (Bt b k).fields f y).2=true then(if(Mp (Bt b k).fields (f,Mv (Bne (Bt b k).fields f y).1)).2.2=true then Dg b (B7 (Bt b k) 5 (Mp (Bt b k).fields (f,Mv (Bne (Bt b k).fields f y).1)).1) (Cf (Bne (Bt b k).fields f y).1) else(b,Cu [108,111,110,103])) else(b,Cu [110,117,109,98,101,114])
theorem Bj2 (xs:List Pr) (f:Bm) (h:PrQ xs): (Pa xs f).1.length≤1000000:=by
 unfold Pa
 split
 ·exact(Q7 (P:=fun x:Pr=>x.1.length≤1000000∧x.2.length≤1000000) h.2 (by simp) _).2
 ·simp
theorem Be8 (b:Ba) (k:Bm) (hb:BaG b) (hk:k.length≤40):Be (ev R) 114 [.d (Cv b), .d (Bf ([[72,76,69,78],k]))]=some (Bk (Bcf b k)):=Bb fun H=>by
 refine Bi (fn:=f114) rfl rfl ?_
 have p1:=Fm b k hb.sm
 have q:=C0 hb (t:=k) (by omega)
 unfold Bcf
 have eN:=Br [110,117,109,98,101,114]
 have eL:=Br [108,111,110,103]
 have eP:=Br [112,108,97,99,101]
 have eO:=Br [110,111,110,101]
 have no:=Fa
 generalize Bt b k=e at*
 obtain⟨key,till,kind,text,list,scores,fields⟩:=e
 obtain⟨q1,q2,q3,q4,q5,q6,q7,q8,q9,q10⟩:=q
 dsimp only[Ch,B8,B7,Cj] at*
 have p2:=F6 fields.length
 simp(maxSteps:=1000000) [Ca,-List.getD_eq_getElem?_getD,-List.map_map,f114,p1,eN,eL,eP,eO,no,Bk,p2,Cf]
theorem Be7 (b:Ba) (k:Bm) (t:Bm) (hb:BaG b) (hk:k.length≤40) (ht:t.length≤40):Be (ev R) 114 [.d (Cv b), .d (Bf ([[72,71,69,84],k,t]))]=some (Bk (Bce b k t)):=Bb fun H=>by
 refine Bi (fn:=f114) rfl rfl ?_
 have p1:=Fm b k hb.sm
 have q:=C0 hb (t:=k) (by omega)
 unfold Bce
 have eN:=Br [110,117,109,98,101,114]
 have eL:=Br [108,111,110,103]
 have eP:=Br [112,108,97,99,101]
 have eO:=Br [110,111,110,101]
 have no:=Fa
 generalize Bt b k=e at*
 obtain⟨key,till,kind,text,list,scores,fields⟩:=e
 obtain⟨q1,q2,q3,q4,q5,q6,q7,q8,q9,q10⟩:=q
 dsimp only[Ch,B8,B7,Cj] at*
 have pv:=Bsm fields t (by omega)
 generalize Pa fields t=V at*
 obtain⟨vs,vo⟩:=V
 dsimp only at*
 have p2:=Ym vs
 cases vo
 ·simp(maxSteps:=1000000) [Ca,-List.getD_eq_getElem?_getD,-List.map_map,f114,p1,eN,eL,eP,eO,no,Bk,pv,Kn]
 ·simp(maxSteps:=1000000) [Ca,-List.getD_eq_getElem?_getD,-List.map_map,f114,p1,eN,eL,eP,eO,no,Bk,pv,p2,Jd]
theorem Be6 (b:Ba) (k:Bm) (t:Bm) (hb:BaG b) (hk:k.length≤40) (ht:t.length≤40):Be (ev R) 114 [.d (Cv b), .d (Bf ([[72,68,69,76],k,t]))]=some (Bk (Ys b k t)):=Bb fun H=>by
 refine Bi (fn:=f114) rfl rfl ?_
 have p1:=Fm b k hb.sm
 have q:=C0 hb (t:=k) (by omega)
 unfold Ys
 have eN:=Br [110,117,109,98,101,114]
 have eL:=Br [108,111,110,103]
 have eP:=Br [112,108,97,99,101]
 have eO:=Br [110,111,110,101]
 have no:=Fa
 generalize Bt b k=e at*
 obtain⟨key,till,kind,text,list,scores,fields⟩:=e
 obtain⟨q1,q2,q3,q4,q5,q6,q7,q8,q9,q10⟩:=q
 dsimp only[Ch,B8,B7,Cj] at*
 have vq:=Bni fields t ⟨q7,q8⟩
 have pv:=Byh fields t (by omega)
 generalize N9 fields t=V at*
 obtain⟨vl,vo⟩:=V
 dsimp only at*
 have q:EnQ ⟨key,till,kind,text,list,scores,vl⟩:=⟨q1,q2,q3,q4,q5,q6,vq.1,vq.2,q9,by dsimp only;omega⟩
 have p2:=Yn vo
 have p3:=G5 b _ (Fr vo) hb.sm q.sm q.fit
 generalize Dg b ⟨key,till,kind,text,list,scores,vl⟩ (Fr vo)=P at*
 simp(maxSteps:=1000000) [Ca,-List.getD_eq_getElem?_getD,-List.map_map,f114,p1,eN,eL,eP,eO,no,Bk,pv,p2,p3]
theorem Be9 (b:Ba) (k:Bm) (f:Bm) (t:Bm) (hb:BaG b) (hk:k.length≤40) (hf:f.length≤40) (ht:t.length≤40):Be (ev R) 114 [.d (Cv b), .d (Bf ([[72,83,69,84],k,f,t]))]=some (Bk (Yt b k f t)):=Bb fun H=>by
 refine Bi (fn:=f114) rfl rfl ?_
 have p1:=Fm b k hb.sm
 have q:=C0 hb (t:=k) (by omega)
 unfold Yt
 have eN:=Br [110,117,109,98,101,114]
 have eL:=Br [108,111,110,103]
 have eP:=Br [112,108,97,99,101]
 have eO:=Br [110,111,110,101]
 have no:=Fa
 generalize Bt b k=e at*
 obtain⟨key,till,kind,text,list,scores,fields⟩:=e
 obtain⟨q1,q2,q3,q4,q5,q6,q7,q8,q9,q10⟩:=q
 dsimp only[Ch,B8,B7,Cj] at*
 have vq:=Bhy fields (f,t) ⟨q7,q8⟩
 have pv:=Bsh fields (f,t) (by omega)
 generalize Mp fields (f,t)=V at*
 obtain⟨vl,vf,vo⟩:=V
 dsimp only at*
 have q:EnQ ⟨key,till,5,text,list,scores,vl⟩:=⟨q1,q2,q3,q4,q5,q6,vq.1,vq.2,q9,by dsimp only;omega⟩
 have p2:=Yn vf
 have p3:=G5 b _ (Fr vf) hb.sm q.sm q.fit
 generalize Dg b ⟨key,till,5,text,list,scores,vl⟩ (Fr vf)=P at*
 cases vo
 ·simp(maxSteps:=1000000) [Ca,-List.getD_eq_getElem?_getD,-List.map_map,f114,p1,eN,eL,eP,eO,no,Bk,pv,Cu]
 ·simp(maxSteps:=1000000) [Ca,-List.getD_eq_getElem?_getD,-List.map_map,f114,p1,eN,eL,eP,eO,no,Bk,pv,p2,p3]
theorem Xn (b:Ba) (k:Bm) (f:Bm) (y:Bm) (hb:BaG b) (hk:k.length≤40) (hf:f.length≤40) (hy:y.length≤40):Be (ev R) 114 [.d (Cv b), .d (Bf ([[72,73,78,67,82,66,89],k,f,y]))]=some (Bk (Mi b k f y)):=Bb fun H=>by
 refine Bi (fn:=f114) rfl rfl ?_
 have p1:=Fm b k hb.sm
 have q:=C0 hb (t:=k) (by omega)
 unfold Mi
 have eN:=Br [110,117,109,98,101,114]
 have eL:=Br [108,111,110,103]
 have eP:=Br [112,108,97,99,101]
 have eO:=Br [110,111,110,101]
 have no:=Fa
 generalize Bt b k=e at*
 obtain⟨key,till,kind,text,list,scores,fields⟩:=e
 obtain⟨q1,q2,q3,q4,q5,q6,q7,q8,q9,q10⟩:=q
 dsimp only[Ch,B8,B7,Cj] at*
 unfold Bne
 have gl:=Bj2 fields f ⟨q7,q8⟩
 have pv:=Bsm fields f (by omega)
 generalize Pa fields f=V at*
 obtain⟨gs,go⟩:=V
 dsimp only at*
 have pa:=Bl9 gs go y (by omega) (by omega)
 have ai:=Za gs go y
 generalize R0 gs go y=A at*
 obtain⟨n,ao⟩:=A
 dsimp only at*
 have pd:=Bqc n ai
 have pw:=Bsh fields (f,Mv n) (by omega)
 have vq:=Bhy fields (f,Mv n) ⟨q7,q8⟩
 generalize Mv n=D at*
 generalize Mp fields (f,D)=V at*
 obtain⟨vl,vf,vo⟩:=V
 dsimp only at*
 have q:EnQ ⟨key,till,5,text,list,scores,vl⟩:=⟨q1,q2,q3,q4,q5,q6,vq.1,vq.2,q9,by dsimp only;omega⟩
 have p2:=F6 n
 have p3:=G5 b _ (Cf n) hb.sm q.sm q.fit
 generalize Dg b ⟨key,till,5,text,list,scores,vl⟩ (Cf n)=P at*
 unfold Cf at p3
 cases ao
 ·simp(maxSteps:=1000000) [Ca,-List.getD_eq_getElem?_getD,-List.map_map,f114,p1,eN,eL,eP,eO,no,Bk,pv,pa,Cu]
 ·cases vo
  ·simp(maxSteps:=1000000) [Ca,-List.getD_eq_getElem?_getD,-List.map_map,f114,p1,eN,eL,eP,eO,no,Bk,pv,pa,pd,pw,Cu]
  ·simp(maxSteps:=1000000) [Ca,-List.getD_eq_getElem?_getD,-List.map_map,f114,p1,eN,eL,eP,eO,no,Bk,pv,pa,pd,pw,p2,p3]
theorem Yq (xs:List Pr): (Nj xs).length=2*xs.length:=by
 unfold Nj
 induction xs with
 |nil=>rfl
 |cons x xs ih=>rw[List.flatMap_cons,List.length_append,ih];simp;omega
theorem Bfh (xs:List Pr) (i:Nat) (hi:i<xs.length):Nj (xs.take (i+1))=Nj (xs.take i)++[(xs.getD i ([],[])).1,(xs.getD i ([],[])).2]:=by
 rw[Gb xs i ([],[]) hi]
 simp only[Nj,List.flatMap_append,List.flatMap_cons,List.flatMap_nil,List.append_nil]
theorem Bvc (H:Hp) (A B C:Ev.Obj) (E:En) (hf:E.fields.length≤1000):
  Gives (fun o e X=>o= .exit 1∧X=ap H [A,B,C, .row 0 7 [.d (Dw E)], .row E.fields.length 1 (((Nj E.fields).map D.str).map V.d)]∧e.get 2= .ptr (Bc H) 0 0 0∧e.get 4= .ptr (Bc H+1) 0 0 0∧e.get 5= .ptr (Bc H+2) 0 0 0∧e.get 7= .slc (Bc H+4) E.fields.length 0 (2*E.fields.length))
   (Bg (Bo (ev R) R.glob (Bc H) Bg Us) [2,4,5,6,7,8] ⟨[(2, .ptr (Bc H) 0 0 0),(4, .ptr (Bc H+1) 0 0 0),(5, .ptr (Bc H+2) 0 0 0),(6, .ptr (Bc H+3) 0 0 0),(7, .slc (Bc H+4) 0 0 0),(8, .d (.int .i64 0))],ap H [A,B,C, .row 0 7 [.d (Dw E)], .row 0 1 []]⟩):=by
 refine Cl (F:=Bo (ev R) R.glob (Bc H) Bg Us) (lv:=[2,4,5,6,7,8]) E.fields.length
  (fun i e X=> ∃zs:List Bm,zs=Nj (E.fields.take i)∧X=ap H [A,B,C, .row 0 7 [.d (Dw E)], .row i 1 ((zs.map D.str).map V.d)]∧e.get 2= .ptr (Bc H) 0 0 0∧e.get 4= .ptr (Bc H+1) 0 0 0∧e.get 5= .ptr (Bc H+2) 0 0 0∧e.get 6= .ptr (Bc H+3) 0 0 0∧e.get 7= .slc (Bc H+4) i 0 (2*i)∧e.get 8= .d (.int .i64 i))
  _ ?_ ?_ E.fields.length 0 _ _ (by omega) ⟨[],by simp[Nj],rfl,rfl,rfl,rfl,rfl,rfl,rfl⟩
 ·rintro e X ⟨zs,hz,rfl,g2,g4,g5,g6,g7,g8⟩
  rw[List.take_length] at hz
  subst hz
  generalize Nj E.fields=zs
  simp(maxSteps:=1000000) [Ca,-List.getD_eq_getElem?_getD,-List.map_map,Us,g2,g4,g5,g6,g7,g8]
 ·rintro i e X hi ⟨zs,hz,rfl,g2,g4,g5,g6,g7,g8⟩
  have c: (i:Int)< (E.fields.length:Int):=by omega
  have c0: (0:Int)≤(i:Int):=by omega
  have g:=Rh E.fields i hi
  have hn:=Bfh E.fields i hi
  rw[←hz] at hn
  have hl:zs.length=2*i:=by rw[hz,Yq,List.length_take];omega
  have w1:IntKind.i64.wrap ((i:Int)+1)=(i:Int)+1:=IntWalk.i64_in _ (by omega)
  have r: (2*i+2)*16≤Cb:=by unfold Cb;omega
  have h2:2*(i+1)=2*i+2:=by omega
  generalize E.fields.getD i ([],[])=x at*
  simp(maxSteps:=1000000) [Ca,-List.getD_eq_getElem?_getD,-List.map_map,Us,g2,g4,g5,g6,g7,g8,c,c0,hi,g,hn,hl,w1,r,h2]
theorem Xm (b:Ba) (k:Bm) (hb:BaG b) (hk:k.length≤40):Be (ev R) 114 [.d (Cv b), .d (Bf [[72,71,69,84,65,76,76],k])]=some (Bk (N1 b k)):=Bb fun H=>by
 refine Bi (fn:=f114) rfl rfl ?_
 have p1:=Fm b k hb.sm
 have q:=C0 hb (t:=k) (by omega)
 unfold N1
 generalize Bt b k=e at*
 have lp:=fun A B C=> (Bvc H A B C e q.fields).out
 have p2:=fun H=>Db (Rf (Nj e.fields)) H
 have hl:=Yq e.fields
 generalize Nj e.fields=zs at*
 obtain⟨o,e',X',he,rfl,rfl,g2,g4,g5,g7⟩:=lp (.row 0 2 [.d (Cv b)]) (.row 0 2 [.agg [.d (.int .i64 0), .nils 7]]) (.row 0 5 [.agg [.d (.int .i64 0), .d (.int .i64 0), .d (.str []), .nils 1, .nils 5]])
 have ft:List.take (2*e.fields.length) (zs.map D.str)=zs.map D.str:=List.take_of_length_le (by simp;omega)
 have ft2:2*e.fields.length≤zs.length:=by omega
 simp(maxSteps:=1000000) [Ca,-List.getD_eq_getElem?_getD,-List.map_map,f114,p1,p2,he,g2,g4,g5,g7,Bk,F1,ft,ft2]
end Go.Proofs.YtjdmiodinhlchaaGreat.Code

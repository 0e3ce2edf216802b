/- Lemmas (several texts in one). -/
import Derived.Test.YtpajcoanfkeibaaGreatDoorMDoRename6
import Derived.Test.YtpajcoanfkeibaaGreatDoorMDoRename8
import Derived.Test.YtpajcoanfkeibaaGreatDoorMDoRename28
set_option maxRecDepth 100000
set_option maxHeartbeats 2000000
set_option linter.unusedSimpArgs false
set_option linter.unusedVariables false
namespace Go.Proofs.YtpajcoanfkeibaaGreatDoor.Code
open Go Go.Ev Go.Proofs
def Bcf (b:Ba) (k:Bq):Ba×Re:=(b,Ct (Bw b k).scores.length)
def Bed (b:Ba) (k t:Bq):Ba×Re:=Fb b (Cm (Bw b k) (Bw b k).kind (Tq (Bw b k).scores t).1) (G9 (Tq (Bw b k).scores t).2)
def Xx (b:Ba) (k t:Bq):Ba×Re:=(b,if Jc (Bw b k).scores t<0 then Nb else Ct ((Bw b k).scores.getD (Jc (Bw b k).scores t).toNat ([],0)).2)
def Bcg (b:Ba) (k t:Bq):Ba×Re:=(b,if Jc (Bw b k).scores t<0 then Nb else Ct (Jc (Bw b k).scores t))
def Bec (b:Ba) (k n t:Bq):Ba×Re:=if(Dx n).2=true then(if(M3 (Bw b k).scores (t,(Dx n).1)).2.2=true then Fb b (Cm (Bw b k) 4 (M3 (Bw b k).scores (t,(Dx n).1)).1) (G9 (M3 (Bw b k).scores (t,(Dx n).1)).2.1) else(b,Dh [108,111,110,103])) else(b,Dh [110,117,109,98,101,114])
def Wn (xs:List Sc) (t:Bq) (n:Int):Int:=if Jc xs t<0 then n else n+(xs.getD (Jc xs t).toNat ([],0)).2
def Q5 (b:Ba) (k n t:Bq):Ba×Re:=if(Dx n).2=true then(if(M3 (Bw b k).scores (t,Wn (Bw b k).scores t (Dx n).1)).2.2=true then Fb b (Cm (Bw b k) 4 (M3 (Bw b k).scores (t,Wn (Bw b k).scores t (Dx n).1)).1) (Ct (Wn (Bw b k).scores t (Dx n).1)) else(b,Dh [108,111,110,103])) else(b,Dh [110,117,109,98,101,114])
def Ue (b:Ba) (k n m:Bq):Ba×Re:=if(Dx n).2=true∧(Dx m).2=true then(b,Jh (Mi (Bto (Bw b k).scores (Dx n).1 (Dx m).1))) else(b,Dh [110,117,109,98,101,114])
def Jz (b:Ba) (k n m:Bq):Ba×Re:=if(Dx n).2=true∧(Dx m).2=true then(b,Jh (Mi (rBy (Bw b k).scores (Dx n).1 (Dx m).1))) else(b,Dh [110,117,109,98,101,114])
theorem Xt (xs:List Sc) (t:Bq): -1≤Jc xs t∧Jc xs t<xs.length:=by
 unfold Jc
 split
 ·split
  ·constructor<;>omega
  ·constructor<;>omega
 ·constructor<;>omega
theorem Bhr (b:Ba) (k:Bq) (hb:BaG b) (hk:k.length≤40):Be (ev R) 169 [.d (Df b), .d (Bf ([[90,67,65,82,68],k]))]=some (Bl (Bcf b k)):=Bb fun H=>by
 refine Bh (fn:=f169) rfl rfl ?_
 have p1:=Gz b k hb.sm
 have q:=Dm hb (t:=k) (by omega)
 unfold Bcf
 have eN:=Bv [110,117,109,98,101,114]
 have eL:=Bv [108,111,110,103]
 have eP:=Bv [112,108,97,99,101]
 have eO:=Bv [110,111,110,101]
 have no:=Gm
 generalize Bw b k=e at*
 obtain⟨key,till,kind,text,list,scores,fields⟩:=e
 obtain⟨q1,q2,q3,q4,q5,q6,q7,q8,q9,q10⟩:=q
 dsimp only[Cv,Cm,Ck,Cz] at*
 have p2:=Ji scores.length
 simp(maxSteps:=1000000) [Ce,-List.getD_eq_getElem?_getD,-List.map_map,f169,p1,eN,eL,eP,eO,no,Bl,p2,Ct]
theorem Bkp (b:Ba) (k:Bq) (t:Bq) (hb:BaG b) (hk:k.length≤40) (ht:t.length≤40):Be (ev R) 169 [.d (Df b), .d (Bf ([[90,82,69,77],k,t]))]=some (Bl (Bed b k t)):=Bb fun H=>by
 refine Bh (fn:=f169) rfl rfl ?_
 have p1:=Gz b k hb.sm
 have q:=Dm hb (t:=k) (by omega)
 unfold Bed
 have eN:=Bv [110,117,109,98,101,114]
 have eL:=Bv [108,111,110,103]
 have eP:=Bv [112,108,97,99,101]
 have eO:=Bv [110,111,110,101]
 have no:=Gm
 generalize Bw b k=e at*
 obtain⟨key,till,kind,text,list,scores,fields⟩:=e
 obtain⟨q1,q2,q3,q4,q5,q6,q7,q8,q9,q10⟩:=q
 dsimp only[Cv,Cm,Ck,Cz] at*
 have vq:=Btp scores t ⟨q5,q6⟩
 have pv:=B5u scores t (by omega)
 generalize Tq scores t=V at*
 obtain⟨vl,vo⟩:=V
 dsimp only at*
 have q:EnQ ⟨key,till,kind,text,list,vl,fields⟩:=⟨q1,q2,q3,q4,vq.1,vq.2,q7,q8,q9,by dsimp only;omega⟩
 have p2:=Bd1 vo
 have p3:=Kt b _ (G9 vo) hb.sm q.sm q.fit
 generalize Fb b ⟨key,till,kind,text,list,vl,fields⟩ (G9 vo)=P at*
 simp(maxSteps:=1000000) [Ce,-List.getD_eq_getElem?_getD,-List.map_map,f169,p1,eN,eL,eP,eO,no,Bl,pv,p2,p3]
theorem Bfp (b:Ba) (k:Bq) (t:Bq) (hb:BaG b) (hk:k.length≤40) (ht:t.length≤40):Be (ev R) 169 [.d (Df b), .d (Bf ([[90,83,67,79,82,69],k,t]))]=some (Bl (Xx b k t)):=Bb fun H=>by
 refine Bh (fn:=f169) rfl rfl ?_
 have p1:=Gz b k hb.sm
 have q:=Dm hb (t:=k) (by omega)
 unfold Xx
 have eN:=Bv [110,117,109,98,101,114]
 have eL:=Bv [108,111,110,103]
 have eP:=Bv [112,108,97,99,101]
 have eO:=Bv [110,111,110,101]
 have no:=Gm
 generalize Bw b k=e at*
 obtain⟨key,till,kind,text,list,scores,fields⟩:=e
 obtain⟨q1,q2,q3,q4,q5,q6,q7,q8,q9,q10⟩:=q
 dsimp only[Cv,Cm,Ck,Cz] at*
 have ri:=Xt scores t
 have pr:=Bmy scores t (by omega)
 by_cases a:Jc scores t<0
 ·generalize Jc scores t=r at*
  have a': ¬ (0:Int)≤r:=by omega
  simp(maxSteps:=1000000) [Ce,-List.getD_eq_getElem?_getD,-List.map_map,f169,p1,eN,eL,eP,eO,no,Bl,pr,eq_true a,Nb]
 ·generalize Jc scores t=r at*
  obtain⟨j,rfl⟩: ∃j:Nat,r=(j:Int):=⟨r.toNat,by omega⟩
  have c: (j:Int)< (scores.length:Int):=by omega
  have c':j<scores.length:=by omega
  have c0: ¬ (j:Int)<0:=by omega
  have c1: (0:Int)≤(j:Int):=by omega
  have g:=Mx scores j c'
  try rw[Int.toNat_natCast] at*
  have p2:=Ji (scores.getD j ([],0)).2
  generalize scores.getD j ([],0)=s at*
  simp(maxSteps:=1000000) [Ce,-List.getD_eq_getElem?_getD,-List.map_map,f169,p1,eN,eL,eP,eO,no,Bl,pr,c,c',c0,c1,g,p2,Ct]
theorem Bhs (b:Ba) (k:Bq) (t:Bq) (hb:BaG b) (hk:k.length≤40) (ht:t.length≤40):Be (ev R) 169 [.d (Df b), .d (Bf ([[90,82,65,78,75],k,t]))]=some (Bl (Bcg b k t)):=Bb fun H=>by
 refine Bh (fn:=f169) rfl rfl ?_
 have p1:=Gz b k hb.sm
 have q:=Dm hb (t:=k) (by omega)
 unfold Bcg
 have eN:=Bv [110,117,109,98,101,114]
 have eL:=Bv [108,111,110,103]
 have eP:=Bv [112,108,97,99,101]
 have eO:=Bv [110,111,110,101]
 have no:=Gm
 generalize Bw b k=e at*
 obtain⟨key,till,kind,text,list,scores,fields⟩:=e
 obtain⟨q1,q2,q3,q4,q5,q6,q7,q8,q9,q10⟩:=q
 dsimp only[Cv,Cm,Ck,Cz] at*
 have ri:=Xt scores t
 have pr:=Bmy scores t (by omega)
 by_cases a:Jc scores t<0
 ·generalize Jc scores t=r at*
  have a': ¬ (0:Int)≤r:=by omega
  simp(maxSteps:=1000000) [Ce,-List.getD_eq_getElem?_getD,-List.map_map,f169,p1,eN,eL,eP,eO,no,Bl,pr,eq_true a,Nb]
 ·generalize Jc scores t=r at*
  obtain⟨j,rfl⟩: ∃j:Nat,r=(j:Int):=⟨r.toNat,by omega⟩
  have c: (j:Int)< (scores.length:Int):=by omega
  have c':j<scores.length:=by omega
  have c0: ¬ (j:Int)<0:=by omega
  have c1: (0:Int)≤(j:Int):=by omega
  have g:=Mx scores j c'
  try rw[Int.toNat_natCast] at*
  have p2:=Ji j
  simp(maxSteps:=1000000) [Ce,-List.getD_eq_getElem?_getD,-List.map_map,f169,p1,eN,eL,eP,eO,no,Bl,pr,c,c',c0,c1,g,p2,Ct]
theorem Bko (b:Ba) (k:Bq) (n:Bq) (t:Bq) (hb:BaG b) (hk:k.length≤40) (hn:n.length≤40) (ht:t.length≤40):Be (ev R) 169 [.d (Df b), .d (Bf ([[90,65,68,68],k,n,t]))]=some (Bl (Bec b k n t)):=Bb fun H=>by
 refine Bh (fn:=f169) rfl rfl ?_
 have p1:=Gz b k hb.sm
 have q:=Dm hb (t:=k) (by omega)
 unfold Bec
 have eN:=Bv [110,117,109,98,101,114]
 have eL:=Bv [108,111,110,103]
 have eP:=Bv [112,108,97,99,101]
 have eO:=Bv [110,111,110,101]
 have no:=Gm
 generalize Bw b k=e at*
 obtain⟨key,till,kind,text,list,scores,fields⟩:=e
 obtain⟨q1,q2,q3,q4,q5,q6,q7,q8,q9,q10⟩:=q
 dsimp only[Cv,Cm,Ck,Cz] at*
 have i0:=Jg n
 have pi0:=L6 n (by omega)
 generalize Dx n=I0 at*
 obtain⟨n0,o0⟩:=I0
 dsimp only at*
 have vq:=Bnp scores (t,n0) ⟨q5,q6⟩
 have pv:=Byt scores (t,n0) (by omega)
 have pvn:=Br7 scores (t,n0) (by omega)
 generalize M3 scores (t,n0)=V at*
 obtain⟨vl,vf,vo⟩:=V
 dsimp only at*
 have q:EnQ ⟨key,till,4,text,list,vl,fields⟩:=⟨q1,q2,q3,q4,vq.1,vq.2,q7,q8,q9,by dsimp only;omega⟩
 have pr:=Bmy scores t (by omega)
 have p2:=Bd1 vf
 have p3:=Kt b _ (G9 vf) hb.sm q.sm q.fit
 generalize Fb b ⟨key,till,4,text,list,vl,fields⟩ (G9 vf)=P at*
 generalize Jc scores t=r at*
 cases o0
 ·simp(maxSteps:=1000000) [Ce,-List.getD_eq_getElem?_getD,-List.map_map,f169,p1,eN,eL,eP,eO,no,Bl,pi0,Dh]
 ·cases vo
  ·simp(maxSteps:=1000000) [Ce,-List.getD_eq_getElem?_getD,-List.map_map,f169,p1,eN,eL,eP,eO,no,Bl,pi0,pr,pv,pvn,Dh]
  ·simp(maxSteps:=1000000) [Ce,-List.getD_eq_getElem?_getD,-List.map_map,f169,p1,eN,eL,eP,eO,no,Bl,pi0,pr,pv,pvn,p2,p3]
theorem Bxd (xs:List Sc) (t:Bq) (n:Int) (hx:ScQ xs) (hn: -1000000000≤n∧n≤1000000000): -3000000000≤Wn xs t n∧Wn xs t n≤3000000000:=by
 unfold Wn
 split
 ·omega
 ·rename_i h
  have:=Xt xs t
  have:=hx.2 _ (Gr (xs:=xs) (i:=(Jc xs t).toNat) (d:=([],0)) (by omega))
  omega
theorem Bc0 (b:Ba) (k:Bq) (n:Bq) (t:Bq) (hb:BaG b) (hk:k.length≤40) (hn:n.length≤40) (ht:t.length≤40):Be (ev R) 169 [.d (Df b), .d (Bf ([[90,73,78,67,82,66,89],k,n,t]))]=some (Bl (Q5 b k n t)):=Bb fun H=>by
 refine Bh (fn:=f169) rfl rfl ?_
 have p1:=Gz b k hb.sm
 have q:=Dm hb (t:=k) (by omega)
 unfold Q5
 have eN:=Bv [110,117,109,98,101,114]
 have eL:=Bv [108,111,110,103]
 have eP:=Bv [112,108,97,99,101]
 have eO:=Bv [110,111,110,101]
 have no:=Gm
 generalize Bw b k=e at*
 obtain⟨key,till,kind,text,list,scores,fields⟩:=e
 obtain⟨q1,q2,q3,q4,q5,q6,q7,q8,q9,q10⟩:=q
 dsimp only[Cv,Cm,Ck,Cz] at*
 have i0:=Jg n
 have pi0:=L6 n (by omega)
 generalize Dx n=I0 at*
 obtain⟨n0,o0⟩:=I0
 dsimp only at*
 have si:=Bxd scores t n0 ⟨q5,q6⟩ i0
 have hs: ∀j:Nat,Jc scores t=(j:Int)→Wn scores t n0=n0+(scores.getD j ([],0)).2:=fun j hj=>by unfold Wn;rw[hj,Int.toNat_natCast,if_neg (by omega)]
 have hs0:Jc scores t<0→Wn scores t n0=n0:=fun h=>by unfold Wn;rw[if_pos h]
 have pv0:=Byt scores (t,Wn scores t n0) (by omega)
 have pv0n:=Br7 scores (t,Wn scores t n0) (by omega)
 have vq:=Bnp scores (t,Wn scores t n0) ⟨q5,q6⟩
 have pi2:=Ji (Wn scores t n0)
 generalize Wn scores t n0=S at*
 generalize M3 scores (t,S)=V at*
 obtain⟨vl,vf,vo⟩:=V
 dsimp only at*
 have q:EnQ ⟨key,till,4,text,list,vl,fields⟩:=⟨q1,q2,q3,q4,vq.1,vq.2,q7,q8,q9,by dsimp only;omega⟩
 have p3:=Kt b _ (Ct S) hb.sm q.sm q.fit
 generalize Fb b ⟨key,till,4,text,list,vl,fields⟩ (Ct S)=P at*
 unfold Ct at p3
 have ri:=Xt scores t
 have pr:=Bmy scores t (by omega)
 cases o0
 ·simp(maxSteps:=1000000) [Ce,-List.getD_eq_getElem?_getD,-List.map_map,f169,p1,eN,eL,eP,eO,no,Bl,pi0,Dh]
 by_cases a:Jc scores t<0
 ·generalize Jc scores t=r at*
  have a': ¬ (0:Int)≤r:=by omega
  have hs1:=hs0 a
  subst hs1
  cases vo
  ·simp(maxSteps:=1000000) [Ce,-List.getD_eq_getElem?_getD,-List.map_map,f169,p1,eN,eL,eP,eO,no,Bl,pi0,pr,eq_true a,a',pv0,pv0n,Dh]
  ·simp(maxSteps:=1000000) [Ce,-List.getD_eq_getElem?_getD,-List.map_map,f169,p1,eN,eL,eP,eO,no,Bl,pi0,pr,eq_true a,a',pv0,pv0n,pi2,p3]
 ·generalize Jc scores t=r at*
  obtain⟨j,rfl⟩: ∃j:Nat,r=(j:Int):=⟨r.toNat,by omega⟩
  have hs1:=hs j rfl
  have c: (j:Int)< (scores.length:Int):=by omega
  have c':j<scores.length:=by omega
  have c0: ¬ (j:Int)<0:=by omega
  have c1: (0:Int)≤(j:Int):=by omega
  have g:=Mx scores j c'
  try rw[Int.toNat_natCast] at*
  have w:IntKind.i64.wrap (n0+(scores.getD j ([],0)).2)=S:=by rw[←hs1];exact IntWalk.i64_in _ (by omega)
  generalize scores.getD j ([],0)=s at*
  cases vo
  ·simp(maxSteps:=1000000) [Ce,-List.getD_eq_getElem?_getD,-List.map_map,f169,p1,eN,eL,eP,eO,no,Bl,pi0,pr,c,c',c0,c1,g,w,pv0,pv0n,Dh]
  ·simp(maxSteps:=1000000) [Ce,-List.getD_eq_getElem?_getD,-List.map_map,f169,p1,eN,eL,eP,eO,no,Bl,pi0,pr,c,c',c0,c1,g,w,pv0,pv0n,pi2,p3]
theorem Bfo (b:Ba) (k:Bq) (n:Bq) (m:Bq) (hb:BaG b) (hk:k.length≤40) (hn:n.length≤40) (hm:m.length≤40):Be (ev R) 169 [.d (Df b), .d (Bf ([[90,82,65,78,71,69],k,n,m]))]=some (Bl (Ue b k n m)):=Bb fun H=>by
 refine Bh (fn:=f169) rfl rfl ?_
 have p1:=Gz b k hb.sm
 have q:=Dm hb (t:=k) (by omega)
 unfold Ue
 have eN:=Bv [110,117,109,98,101,114]
 have eL:=Bv [108,111,110,103]
 have eP:=Bv [112,108,97,99,101]
 have eO:=Bv [110,111,110,101]
 have no:=Gm
 generalize Bw b k=e at*
 obtain⟨key,till,kind,text,list,scores,fields⟩:=e
 obtain⟨q1,q2,q3,q4,q5,q6,q7,q8,q9,q10⟩:=q
 dsimp only[Cv,Cm,Ck,Cz] at*
 have i0:=Jg n
 have pi0:=L6 n (by omega)
 have i1:=Jg m
 have pi1:=L6 m (by omega)
 generalize Dx n=I0 at*
 obtain⟨n0,o0⟩:=I0
 generalize Dx m=I1 at*
 obtain⟨n1,o1⟩:=I1
 dsimp only at*
 have vq:=B0c scores n0 n1 ⟨q5,q6⟩
 have pv:=B5v scores n0 n1 (by omega)
 generalize Bto scores n0 n1=ZV at*
 have p4:=Byu ZV (by have:=vq.1;omega)
 have p2:=Xo (Mi ZV)
 generalize Mi ZV=N at*
 cases o0<;>cases o1
 ·simp(maxSteps:=1000000) [Ce,-List.getD_eq_getElem?_getD,-List.map_map,f169,p1,eN,eL,eP,eO,no,Bl,pi0,pi1,Dh]
 ·simp(maxSteps:=1000000) [Ce,-List.getD_eq_getElem?_getD,-List.map_map,f169,p1,eN,eL,eP,eO,no,Bl,pi0,pi1,Dh]
 ·simp(maxSteps:=1000000) [Ce,-List.getD_eq_getElem?_getD,-List.map_map,f169,p1,eN,eL,eP,eO,no,Bl,pi0,pi1,Dh]
 ·simp(maxSteps:=1000000) [Ce,-List.getD_eq_getElem?_getD,-List.map_map,f169,p1,eN,eL,eP,eO,no,Bl,pi0,pi1,pv,p4,p2,Jh]
theorem Un (b:Ba) (k:Bq) (n:Bq) (m:Bq) (hb:BaG b) (hk:k.length≤40) (hn:n.length≤40) (hm:m.length≤40):Be (ev R) 169 [.d (Df b), .d (Bf ([[90,82,65,78,71,69,66,89,83,67,79,82,69],k,n,m]))]=some (Bl (Jz b k n m)):=Bb fun H=>by
 refine Bh (fn:=f169) rfl rfl ?_
 have p1:=Gz b k hb.sm
 have q:=Dm hb (t:=k) (by omega)
 unfold Jz
 have eN:=Bv [110,117,109,98,101,114]
 have eL:=Bv [108,111,110,103]
 have eP:=Bv [112,108,97,99,101]
 have eO:=Bv [110,111,110,101]
 have no:=Gm
 generalize Bw b k=e at*
 obtain⟨key,till,kind,text,list,scores,fields⟩:=e
 obtain⟨q1,q2,q3,q4,q5,q6,q7,q8,q9,q10⟩:=q
 dsimp only[Cv,Cm,Ck,Cz] at*
 have i0:=Jg n
 have pi0:=L6 n (by omega)
 have i1:=Jg m
 have pi1:=L6 m (by omega)
 generalize Dx n=I0 at*
 obtain⟨n0,o0⟩:=I0
 generalize Dx m=I1 at*
 obtain⟨n1,o1⟩:=I1
 dsimp only at*
 have vq:=B5e scores n0 n1 ⟨q5,q6⟩
 have pv:=B42 scores n0 n1 (by omega)
 generalize rBy scores n0 n1=ZV at*
 have p4:=Byu ZV (by have:=vq.1;omega)
 have p2:=Xo (Mi ZV)
 generalize Mi ZV=N at*
 cases o0<;>cases o1
 ·simp(maxSteps:=1000000) [Ce,-List.getD_eq_getElem?_getD,-List.map_map,f169,p1,eN,eL,eP,eO,no,Bl,pi0,pi1,Dh]
 ·simp(maxSteps:=1000000) [Ce,-List.getD_eq_getElem?_getD,-List.map_map,f169,p1,eN,eL,eP,eO,no,Bl,pi0,pi1,Dh]
 ·simp(maxSteps:=1000000) [Ce,-List.getD_eq_getElem?_getD,-List.map_map,f169,p1,eN,eL,eP,eO,no,Bl,pi0,pi1,Dh]
 ·simp(maxSteps:=1000000) [Ce,-List.getD_eq_getElem?_getD,-List.map_map,f169,p1,eN,eL,eP,eO,no,Bl,pi0,pi1,pv,p4,p2,Jh]
def Bh0 (b:Ba) (k:Bq):Ba×Re:=(b,Ct (Bw b k).fields.length)
def R6 (xs:List Pr):List Bq:=xs.flatMap fun p=> [p.1,p.2]
def Ta (b:Ba) (k:Bq):Ba×Re:=(b,Jh (R6 (Bw b k).fields))
def Bhz (b:Ba) (k t:Bq):Ba×Re:=(b,if(Tn (Bw b k).fields t).2=true then K6 (Tn (Bw b k).fields t).1 else Nb)
def Bd6 (b:Ba) (k t:Bq):Ba×Re:=Fb b (Ck (Bw b k) (Bw b k).kind (Tm (Bw b k).fields t).1) (G9 (Tm (Bw b k).fields t).2)
def Bd7 (b:Ba) (k f t:Bq):Ba×Re:=if(M0 (Bw b k).fields (f,t)).2.2=true then Fb b (Ck (Bw b k) 5 (M0 (Bw b k).fields (f,t)).1) (G9 (M0 (Bw b k).fields (f,t)).2.1) else(b,Dh [108,111,110,103])
def Btf (xs:List Pr) (f y:Bq):Int×Bool:=Yb (Tn xs f).1 (Tn xs f).2 y
def Q0 (b:Ba) (k f y:Bq):Ba×Re:=if(Btf (Bw b k).fields f y).2=true then(if(M0 (Bw b k).fields (f,Qu (Btf (Bw b k).fields f y).1)).2.2=true then Fb b (Ck (Bw b k) 5 (M0 (Bw b k).fields (f,Qu (Btf (Bw b k).fields f y).1)).1) (Ct (Btf (Bw b k).fields f y).1) else(b,Dh [108,111,110,103])) else(b,Dh [110,117,109,98,101,114])
theorem Bpz (xs:List Pr) (f:Bq) (h:PrQ xs): (Tn xs f).1.length≤1000000:=by
 unfold Tn
 split
 ·exact(Xh (P:=fun x:Pr=>x.1.length≤1000000∧x.2.length≤1000000) h.2 (by simp) _).2
 ·simp
theorem Bks (b:Ba) (k:Bq) (hb:BaG b) (hk:k.length≤40):Be (ev R) 170 [.d (Df b), .d (Bf ([[72,76,69,78],k]))]=some (Bl (Bh0 b k)):=Bb fun H=>by
 refine Bh (fn:=f170) rfl rfl ?_
 have p1:=Gz b k hb.sm
 have q:=Dm hb (t:=k) (by omega)
 unfold Bh0
 have eN:=Bv [110,117,109,98,101,114]
 have eL:=Bv [108,111,110,103]
 have eP:=Bv [112,108,97,99,101]
 have eO:=Bv [110,111,110,101]
 have no:=Gm
 generalize Bw b k=e at*
 obtain⟨key,till,kind,text,list,scores,fields⟩:=e
 obtain⟨q1,q2,q3,q4,q5,q6,q7,q8,q9,q10⟩:=q
 dsimp only[Cv,Cm,Ck,Cz] at*
 have p2:=Ji fields.length
 simp(maxSteps:=1000000) [Ce,-List.getD_eq_getElem?_getD,-List.map_map,f170,p1,eN,eL,eP,eO,no,Bl,p2,Ct]
theorem Bkr (b:Ba) (k:Bq) (t:Bq) (hb:BaG b) (hk:k.length≤40) (ht:t.length≤40):Be (ev R) 170 [.d (Df b), .d (Bf ([[72,71,69,84],k,t]))]=some (Bl (Bhz b k t)):=Bb fun H=>by
 refine Bh (fn:=f170) rfl rfl ?_
 have p1:=Gz b k hb.sm
 have q:=Dm hb (t:=k) (by omega)
 unfold Bhz
 have eN:=Bv [110,117,109,98,101,114]
 have eL:=Bv [108,111,110,103]
 have eP:=Bv [112,108,97,99,101]
 have eO:=Bv [110,111,110,101]
 have no:=Gm
 generalize Bw b k=e at*
 obtain⟨key,till,kind,text,list,scores,fields⟩:=e
 obtain⟨q1,q2,q3,q4,q5,q6,q7,q8,q9,q10⟩:=q
 dsimp only[Cv,Cm,Ck,Cz] at*
 have pv:=By5 fields t (by omega)
 generalize Tn fields t=V at*
 obtain⟨vs,vo⟩:=V
 dsimp only at*
 have p2:=Bd0 vs
 cases vo
 ·simp(maxSteps:=1000000) [Ce,-List.getD_eq_getElem?_getD,-List.map_map,f170,p1,eN,eL,eP,eO,no,Bl,pv,Nb]
 ·simp(maxSteps:=1000000) [Ce,-List.getD_eq_getElem?_getD,-List.map_map,f170,p1,eN,eL,eP,eO,no,Bl,pv,p2,K6]
theorem Bkq (b:Ba) (k:Bq) (t:Bq) (hb:BaG b) (hk:k.length≤40) (ht:t.length≤40):Be (ev R) 170 [.d (Df b), .d (Bf ([[72,68,69,76],k,t]))]=some (Bl (Bd6 b k t)):=Bb fun H=>by
 refine Bh (fn:=f170) rfl rfl ?_
 have p1:=Gz b k hb.sm
 have q:=Dm hb (t:=k) (by omega)
 unfold Bd6
 have eN:=Bv [110,117,109,98,101,114]
 have eL:=Bv [108,111,110,103]
 have eP:=Bv [112,108,97,99,101]
 have eO:=Bv [110,111,110,101]
 have no:=Gm
 generalize Bw b k=e at*
 obtain⟨key,till,kind,text,list,scores,fields⟩:=e
 obtain⟨q1,q2,q3,q4,q5,q6,q7,q8,q9,q10⟩:=q
 dsimp only[Cv,Cm,Ck,Cz] at*
 have vq:=Btj fields t ⟨q7,q8⟩
 have pv:=B5w fields t (by omega)
 generalize Tm fields t=V at*
 obtain⟨vl,vo⟩:=V
 dsimp only at*
 have q:EnQ ⟨key,till,kind,text,list,scores,vl⟩:=⟨q1,q2,q3,q4,q5,q6,vq.1,vq.2,q9,by dsimp only;omega⟩
 have p2:=Bd1 vo
 have p3:=Kt b _ (G9 vo) hb.sm q.sm q.fit
 generalize Fb b ⟨key,till,kind,text,list,scores,vl⟩ (G9 vo)=P at*
 simp(maxSteps:=1000000) [Ce,-List.getD_eq_getElem?_getD,-List.map_map,f170,p1,eN,eL,eP,eO,no,Bl,pv,p2,p3]
theorem Bkt (b:Ba) (k:Bq) (f:Bq) (t:Bq) (hb:BaG b) (hk:k.length≤40) (hf:f.length≤40) (ht:t.length≤40):Be (ev R) 170 [.d (Df b), .d (Bf ([[72,83,69,84],k,f,t]))]=some (Bl (Bd7 b k f t)):=Bb fun H=>by
 refine Bh (fn:=f170) rfl rfl ?_
 have p1:=Gz b k hb.sm
 have q:=Dm hb (t:=k) (by omega)
 unfold Bd7
 have eN:=Bv [110,117,109,98,101,114]
 have eL:=Bv [108,111,110,103]
 have eP:=Bv [112,108,97,99,101]
 have eO:=Bv [110,111,110,101]
 have no:=Gm
 generalize Bw b k=e at*
 obtain⟨key,till,kind,text,list,scores,fields⟩:=e
 obtain⟨q1,q2,q3,q4,q5,q6,q7,q8,q9,q10⟩:=q
 dsimp only[Cv,Cm,Ck,Cz] at*
 have vq:=Bnn fields (f,t) ⟨q7,q8⟩
 have pv:=Byv fields (f,t) (by omega)
 have pvn:=Br8 fields (f,t) (by omega)
 generalize M0 fields (f,t)=V at*
 obtain⟨vl,vf,vo⟩:=V
 dsimp only at*
 have q:EnQ ⟨key,till,5,text,list,scores,vl⟩:=⟨q1,q2,q3,q4,q5,q6,vq.1,vq.2,q9,by dsimp only;omega⟩
 have p2:=Bd1 vf
 have p3:=Kt b _ (G9 vf) hb.sm q.sm q.fit
 generalize Fb b ⟨key,till,5,text,list,scores,vl⟩ (G9 vf)=P at*
 cases vo
 ·simp(maxSteps:=1000000) [Ce,-List.getD_eq_getElem?_getD,-List.map_map,f170,p1,eN,eL,eP,eO,no,Bl,pv,pvn,Dh]
 ·simp(maxSteps:=1000000) [Ce,-List.getD_eq_getElem?_getD,-List.map_map,f170,p1,eN,eL,eP,eO,no,Bl,pv,pvn,p2,p3]
theorem Bc2 (b:Ba) (k:Bq) (f:Bq) (y:Bq) (hb:BaG b) (hk:k.length≤40) (hf:f.length≤40) (hy:y.length≤40):Be (ev R) 170 [.d (Df b), .d (Bf ([[72,73,78,67,82,66,89],k,f,y]))]=some (Bl (Q0 b k f y)):=Bb fun H=>by
 refine Bh (fn:=f170) rfl rfl ?_
 have p1:=Gz b k hb.sm
 have q:=Dm hb (t:=k) (by omega)
 unfold Q0
 have eN:=Bv [110,117,109,98,101,114]
 have eL:=Bv [108,111,110,103]
 have eP:=Bv [112,108,97,99,101]
 have eO:=Bv [110,111,110,101]
 have no:=Gm
 generalize Bw b k=e at*
 obtain⟨key,till,kind,text,list,scores,fields⟩:=e
 obtain⟨q1,q2,q3,q4,q5,q6,q7,q8,q9,q10⟩:=q
 dsimp only[Cv,Cm,Ck,Cz] at*
 unfold Btf
 have gl:=Bpz fields f ⟨q7,q8⟩
 have pv:=By5 fields f (by omega)
 generalize Tn fields f=V at*
 obtain⟨gs,go⟩:=V
 dsimp only at*
 have pa:=Br6 gs go y (by omega) (by omega)
 have ai:=Beo gs go y
 generalize Yb gs go y=A at*
 obtain⟨n,ao⟩:=A
 dsimp only at*
 have pd:=Bwp n ai
 have pw:=Byv fields (f,Qu n) (by omega)
 have pwn:=Br8 fields (f,Qu n) (by omega)
 have vq:=Bnn fields (f,Qu n) ⟨q7,q8⟩
 generalize Qu n=D at*
 generalize M0 fields (f,D)=V at*
 obtain⟨vl,vf,vo⟩:=V
 dsimp only at*
 have q:EnQ ⟨key,till,5,text,list,scores,vl⟩:=⟨q1,q2,q3,q4,q5,q6,vq.1,vq.2,q9,by dsimp only;omega⟩
 have p2:=Ji n
 have p3:=Kt b _ (Ct n) hb.sm q.sm q.fit
 generalize Fb b ⟨key,till,5,text,list,scores,vl⟩ (Ct n)=P at*
 unfold Ct at p3
 cases ao
 ·simp(maxSteps:=1000000) [Ce,-List.getD_eq_getElem?_getD,-List.map_map,f170,p1,eN,eL,eP,eO,no,Bl,pv,pa,Dh]
 ·cases vo
  ·simp(maxSteps:=1000000) [Ce,-List.getD_eq_getElem?_getD,-List.map_map,f170,p1,eN,eL,eP,eO,no,Bl,pv,pa,pd,pw,pwn,Dh]
  ·simp(maxSteps:=1000000) [Ce,-List.getD_eq_getElem?_getD,-List.map_map,f170,p1,eN,eL,eP,eO,no,Bl,pv,pa,pd,pw,pwn,p2,p3]
theorem Bd3 (xs:List Pr): (R6 xs).length=2*xs.length:=by
 unfold R6
 induction xs with
 |nil=>rfl
 |cons x xs ih=>rw[List.flatMap_cons,List.length_append,ih];simp;omega
theorem Bk0 (xs:List Pr) (i:Nat) (hi:i<xs.length):R6 (xs.take (i+1))=R6 (xs.take i)++[(xs.getD i ([],[])).1,(xs.getD i ([],[])).2]:=by
 rw[Js xs i ([],[]) hi]
 simp only[R6,List.flatMap_append,List.flatMap_cons,List.flatMap_nil,List.append_nil]
theorem B1y (H:Hp) (A B C:Ev.Obj) (E:En) (hf:E.fields.length≤1000):
  Gives (fun o e X=>o= .exit 1∧X=ap H [A,B,C, .row 0 7 [.d (Fy E)], .row E.fields.length 1 (((R6 E.fields).map D.str).map V.d)]∧e.get 2= .ptr (Bc H) 0 0 0∧e.get 4= .ptr (Bc H+1) 0 0 0∧e.get 5= .ptr (Bc H+2) 0 0 0∧e.get 7= .slc (Bc H+4) E.fields.length 0 (2*E.fields.length))
   (Bg (Bp (ev R) R.glob (Bc H) Bg Ba5) [2,4,5,6,7,8] ⟨[(2, .ptr (Bc H) 0 0 0),(4, .ptr (Bc H+1) 0 0 0),(5, .ptr (Bc H+2) 0 0 0),(6, .ptr (Bc H+3) 0 0 0),(7, .slc (Bc H+4) 0 0 0),(8, .d (.int .i64 0))],ap H [A,B,C, .row 0 7 [.d (Fy E)], .row 0 1 []]⟩):=by
 refine C8 (F:=Bp (ev R) R.glob (Bc H) Bg Ba5) (lv:=[2,4,5,6,7,8]) E.fields.length
  (fun i e X=> ∃zs:List Bq,zs=R6 (E.fields.take i)∧X=ap H [A,B,C, .row 0 7 [.d (Fy E)], .row i 1 ((zs.map D.str).map V.d)]∧e.get 2= .ptr (Bc H) 0 0 0∧e.get 4= .ptr (Bc H+1) 0 0 0∧e.get 5= .ptr (Bc H+2) 0 0 0∧e.get 6= .ptr (Bc H+3) 0 0 0∧e.get 7= .slc (Bc H+4) i 0 (2*i)∧e.get 8= .d (.int .i64 i))
  _ ?_ ?_ E.fields.length 0 _ _ (by omega) ⟨[],by simp[R6],rfl,rfl,rfl,rfl,rfl,rfl,rfl⟩
 ·rintro e X ⟨zs,hz,rfl,g2,g4,g5,g6,g7,g8⟩
  rw[List.take_length] at hz
  subst hz
  generalize R6 E.fields=zs
  simp(maxSteps:=1000000) [Ce,-List.getD_eq_getElem?_getD,-List.map_map,Ba5,g2,g4,g5,g6,g7,g8]
 ·rintro i e X hi ⟨zs,hz,rfl,g2,g4,g5,g6,g7,g8⟩
  have c: (i:Int)< (E.fields.length:Int):=by omega
  have c0: (0:Int)≤(i:Int):=by omega
  have g:=Xq E.fields i hi
  have hn:=Bk0 E.fields i hi
  rw[←hz] at hn
  have hl:zs.length=2*i:=by rw[hz,Bd3,List.length_take];omega
  have w1:IntKind.i64.wrap ((i:Int)+1)=(i:Int)+1:=IntWalk.i64_in _ (by omega)
  have r: (2*i+2)*16≤Cq:=by unfold Cq;omega
  have h2:2*(i+1)=2*i+2:=by omega
  generalize E.fields.getD i ([],[])=x at*
  simp(maxSteps:=1000000) [Ce,-List.getD_eq_getElem?_getD,-List.map_map,Ba5,g2,g4,g5,g6,g7,g8,c,c0,hi,g,hn,hl,w1,r,h2]
theorem Bc1 (b:Ba) (k:Bq) (hb:BaG b) (hk:k.length≤40):Be (ev R) 170 [.d (Df b), .d (Bf [[72,71,69,84,65,76,76],k])]=some (Bl (Ta b k)):=Bb fun H=>by
 refine Bh (fn:=f170) rfl rfl ?_
 have p1:=Gz b k hb.sm
 have q:=Dm hb (t:=k) (by omega)
 unfold Ta
 generalize Bw b k=e at*
 have lp:=fun A B C=> (B1y H A B C e q.fields).out
 have p2:=fun H=>Dp (Xo (R6 e.fields)) H
 have hl:=Bd3 e.fields
 generalize R6 e.fields=zs at*
 obtain⟨o,e',X',he,rfl,rfl,g2,g4,g5,g7⟩:=lp (.row 0 2 [.d (Df b)]) (.row 0 2 [.agg [.d (.int .i64 0), .nils 7]]) (.row 0 5 [.agg [.d (.int .i64 0), .d (.int .i64 0), .d (.str []), .nils 1, .nils 5]])
 have ft:List.take (2*e.fields.length) (zs.map D.str)=zs.map D.str:=List.take_of_length_le (by simp;omega)
 have ft2:2*e.fields.length≤zs.length:=by omega
 simp(maxSteps:=1000000) [Ce,-List.getD_eq_getElem?_getD,-List.map_map,f170,p1,p2,he,g2,g4,g5,g7,Bl,Jh,ft,ft2]
end Go.Proofs.YtpajcoanfkeibaaGreatDoor.Code

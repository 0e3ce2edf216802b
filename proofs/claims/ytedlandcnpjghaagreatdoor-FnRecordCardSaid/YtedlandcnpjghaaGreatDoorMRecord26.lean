/- Lemmas (several texts in one). -/
import Derived.Test.YtedlandcnpjghaaGreatDoorMRecord7
import Derived.Test.YtedlandcnpjghaaGreatDoorMRecord25
set_option maxRecDepth 100000
set_option maxHeartbeats 2000000
set_option linter.unusedSimpArgs false
set_option linter.unusedVariables false
namespace Go.Proofs.YtedlandcnpjghaaGreatDoor.Code
open Go Go.Ev Go.Proofs
def C8 (e:En) (kind:Int) (l:List Bl):En:=⟨e.key,e.till,kind,e.text,l,e.scores,e.fields⟩
def Cn (e:En) (kind:Int) (l:List Sc):En:=⟨e.key,e.till,kind,e.text,e.list,l,e.fields⟩
def Cm (e:En) (kind:Int) (l:List Pr):En:=⟨e.key,e.till,kind,e.text,e.list,e.scores,l⟩
def Td (b:Ba) (k:Bl) (f:Bool) (ts:List Bl):Ba×Re:=if(U4 (Ca b k).list f ts).2=true then Ff b (C8 (Ca b k) 2 (U4 (Ca b k).list f ts).1) (Cv (U4 (Ca b k).list f ts).1.length) else(b,Dq [108,111,110,103])
def Bcn (b:Ba) (k:Bl) (f:Bool):Ba×Re:=if(Bc4 (Ca b k).list f).2.2=true then Ff b (C8 (Ca b k) (Ca b k).kind (Bc4 (Ca b k).list f).1) (K5 (Bc4 (Ca b k).list f).2.1) else(b,Ni)
def U0 (b:Ba) (k:Bl):Ba×Re:=(b,Cv (Ca b k).list.length)
def Beq (b:Ba) (k n t:Bl):Ba×Re:=if(Dv n).2=true then(if(Bi7 (Ca b k).list (Dv n).1 t).2=true then Ff b (C8 (Ca b k) (Ca b k).kind (Bi7 (Ca b k).list (Dv n).1 t).1) Rz else(b,Dq [112,108,97,99,101])) else(b,Dq [110,117,109,98,101,114])
def Bep (b:Ba) (k n t:Bl):Ba×Re:=if(Dv n).2=true then Ff b (C8 (Ca b k) (Ca b k).kind (Bai (Ca b k).list (Dv n).1 t).1) (Cv (Bai (Ca b k).list (Dv n).1 t).2) else(b,Dq [110,117,109,98,101,114])
def Uj (b:Ba) (k n m:Bl):Ba×Re:=if(Dv n).2=true∧(Dv m).2=true then(b,G9 (Wu (Ca b k).list (Dv n).1 (Dv m).1)) else(b,Dq [110,117,109,98,101,114])
def Y6 (b:Ba) (k n m:Bl):Ba×Re:=if(Dv n).2=true∧(Dv m).2=true then Ff b (C8 (Ca b k) (Ca b k).kind (Wu (Ca b k).list (Dv n).1 (Dv m).1)) Rz else(b,Dq [110,117,109,98,101,114])
theorem Bks (b:Ba) (k:Bl) (ts:List Bl) (hb:BaG b) (hk:k.length≤40) (hts:ts.length≤1000):Be (ev R) 61 [.d (D6 b), .d (Bf ([76,80,85,83,72]::k::ts))]=some (Bj (Td b k true ts)):=Bb fun H=>by
 refine Bo (fn:=f61) rfl rfl ?_
 have p1:=Gw b k hb.sm
 have q:=Dx hb (t:=k) (by omega)
 unfold Td
 have eN:=Cc [110,117,109,98,101,114]
 have eL:=Cc [108,111,110,103]
 have eP:=Cc [112,108,97,99,101]
 have eO:=Cc [110,111,110,101]
 have no:=Kj
 generalize Ca b k=e at*
 obtain⟨key,till,kind,text,list,scores,fields⟩:=e
 obtain⟨q1,q2,q3,q4,q5,q6,q7,q8,q9,q10⟩:=q
 dsimp only[C8,Cn,Cm,Df] at*
 have c00: (0:Int)< (ts.length:Int)+1+1:=by omega
 have c01: (1:Int)< (ts.length:Int)+1+1:=by omega
 have c02: (0:Int)≤(ts.length:Int)+1+1:=by omega
 have c03: (2:Int)≤(ts.length:Int)+1+1:=by omega
 have vq:=Bnb list true ts ⟨q3,q4⟩
 have pv:=B22 list true ts (by omega) (by omega)
 generalize U4 list true ts=V at*
 obtain⟨vl,vo⟩:=V
 dsimp only at*
 have q:EnQ ⟨key,till,2,text,vl,scores,fields⟩:=⟨q1,q2,vq.1,vq.2,q5,q6,q7,q8,q9,by dsimp only;omega⟩
 have p2:=Lr vl.length
 have p3:=Pj b _ (Cv vl.length) hb.sm q.sm q.fit
 generalize Ff b ⟨key,till,2,text,vl,scores,fields⟩ (Cv vl.length)=P at*
 unfold Cv at p3
 cases vo
 ·simp(maxSteps:=1000000) [Cq,-List.getD_eq_getElem?_getD,-List.map_map,f61,p1,eN,eL,eP,eO,no,Bj,pv,Dq,c00,c01,c02,c03]
 ·simp(maxSteps:=1000000) [Cq,-List.getD_eq_getElem?_getD,-List.map_map,f61,p1,eN,eL,eP,eO,no,Bj,pv,p2,p3,c00,c01,c02,c03]
theorem Bku (b:Ba) (k:Bl) (ts:List Bl) (hb:BaG b) (hk:k.length≤40) (hts:ts.length≤1000):Be (ev R) 61 [.d (D6 b), .d (Bf ([82,80,85,83,72]::k::ts))]=some (Bj (Td b k false ts)):=Bb fun H=>by
 refine Bo (fn:=f61) rfl rfl ?_
 have p1:=Gw b k hb.sm
 have q:=Dx hb (t:=k) (by omega)
 unfold Td
 have eN:=Cc [110,117,109,98,101,114]
 have eL:=Cc [108,111,110,103]
 have eP:=Cc [112,108,97,99,101]
 have eO:=Cc [110,111,110,101]
 have no:=Kj
 generalize Ca b k=e at*
 obtain⟨key,till,kind,text,list,scores,fields⟩:=e
 obtain⟨q1,q2,q3,q4,q5,q6,q7,q8,q9,q10⟩:=q
 dsimp only[C8,Cn,Cm,Df] at*
 have c00: (0:Int)< (ts.length:Int)+1+1:=by omega
 have c01: (1:Int)< (ts.length:Int)+1+1:=by omega
 have c02: (0:Int)≤(ts.length:Int)+1+1:=by omega
 have c03: (2:Int)≤(ts.length:Int)+1+1:=by omega
 have vq:=Bnb list false ts ⟨q3,q4⟩
 have pv:=B22 list false ts (by omega) (by omega)
 generalize U4 list false ts=V at*
 obtain⟨vl,vo⟩:=V
 dsimp only at*
 have q:EnQ ⟨key,till,2,text,vl,scores,fields⟩:=⟨q1,q2,vq.1,vq.2,q5,q6,q7,q8,q9,by dsimp only;omega⟩
 have p2:=Lr vl.length
 have p3:=Pj b _ (Cv vl.length) hb.sm q.sm q.fit
 generalize Ff b ⟨key,till,2,text,vl,scores,fields⟩ (Cv vl.length)=P at*
 unfold Cv at p3
 cases vo
 ·simp(maxSteps:=1000000) [Cq,-List.getD_eq_getElem?_getD,-List.map_map,f61,p1,eN,eL,eP,eO,no,Bj,pv,Dq,c00,c01,c02,c03]
 ·simp(maxSteps:=1000000) [Cq,-List.getD_eq_getElem?_getD,-List.map_map,f61,p1,eN,eL,eP,eO,no,Bj,pv,p2,p3,c00,c01,c02,c03]
theorem Boh (b:Ba) (k:Bl) (hb:BaG b) (hk:k.length≤40):Be (ev R) 61 [.d (D6 b), .d (Bf ([[76,80,79,80],k]))]=some (Bj (Bcn b k true)):=Bb fun H=>by
 refine Bo (fn:=f61) rfl rfl ?_
 have p1:=Gw b k hb.sm
 have q:=Dx hb (t:=k) (by omega)
 unfold Bcn
 have eN:=Cc [110,117,109,98,101,114]
 have eL:=Cc [108,111,110,103]
 have eP:=Cc [112,108,97,99,101]
 have eO:=Cc [110,111,110,101]
 have no:=Kj
 generalize Ca b k=e at*
 obtain⟨key,till,kind,text,list,scores,fields⟩:=e
 obtain⟨q1,q2,q3,q4,q5,q6,q7,q8,q9,q10⟩:=q
 dsimp only[C8,Cn,Cm,Df] at*
 have vq:=Btu list true ⟨q3,q4⟩
 have pv:=B23 list true (by omega)
 generalize Bc4 list true=V at*
 obtain⟨vl,vs,vo⟩:=V
 dsimp only at*
 have q:EnQ ⟨key,till,kind,text,vl,scores,fields⟩:=⟨q1,q2,vq.1,vq.2,q5,q6,q7,q8,q9,by dsimp only;omega⟩
 have p2:=Bow vs
 have p3:=Pj b _ (K5 vs) hb.sm q.sm q.fit
 generalize Ff b ⟨key,till,kind,text,vl,scores,fields⟩ (K5 vs)=P at*
 unfold K5 at p3
 cases vo
 ·simp(maxSteps:=1000000) [Cq,-List.getD_eq_getElem?_getD,-List.map_map,f61,p1,eN,eL,eP,eO,no,Bj,pv,Ni]
 ·simp(maxSteps:=1000000) [Cq,-List.getD_eq_getElem?_getD,-List.map_map,f61,p1,eN,eL,eP,eO,no,Bj,pv,p2,p3]
theorem Bok (b:Ba) (k:Bl) (hb:BaG b) (hk:k.length≤40):Be (ev R) 61 [.d (D6 b), .d (Bf ([[82,80,79,80],k]))]=some (Bj (Bcn b k false)):=Bb fun H=>by
 refine Bo (fn:=f61) rfl rfl ?_
 have p1:=Gw b k hb.sm
 have q:=Dx hb (t:=k) (by omega)
 unfold Bcn
 have eN:=Cc [110,117,109,98,101,114]
 have eL:=Cc [108,111,110,103]
 have eP:=Cc [112,108,97,99,101]
 have eO:=Cc [110,111,110,101]
 have no:=Kj
 generalize Ca b k=e at*
 obtain⟨key,till,kind,text,list,scores,fields⟩:=e
 obtain⟨q1,q2,q3,q4,q5,q6,q7,q8,q9,q10⟩:=q
 dsimp only[C8,Cn,Cm,Df] at*
 have vq:=Btu list false ⟨q3,q4⟩
 have pv:=B23 list false (by omega)
 generalize Bc4 list false=V at*
 obtain⟨vl,vs,vo⟩:=V
 dsimp only at*
 have q:EnQ ⟨key,till,kind,text,vl,scores,fields⟩:=⟨q1,q2,vq.1,vq.2,q5,q6,q7,q8,q9,by dsimp only;omega⟩
 have p2:=Bow vs
 have p3:=Pj b _ (K5 vs) hb.sm q.sm q.fit
 generalize Ff b ⟨key,till,kind,text,vl,scores,fields⟩ (K5 vs)=P at*
 unfold K5 at p3
 cases vo
 ·simp(maxSteps:=1000000) [Cq,-List.getD_eq_getElem?_getD,-List.map_map,f61,p1,eN,eL,eP,eO,no,Bj,pv,Ni]
 ·simp(maxSteps:=1000000) [Cq,-List.getD_eq_getElem?_getD,-List.map_map,f61,p1,eN,eL,eP,eO,no,Bj,pv,p2,p3]
theorem Bog (b:Ba) (k:Bl) (hb:BaG b) (hk:k.length≤40):Be (ev R) 61 [.d (D6 b), .d (Bf ([[76,76,69,78],k]))]=some (Bj (U0 b k)):=Bb fun H=>by
 refine Bo (fn:=f61) rfl rfl ?_
 have p1:=Gw b k hb.sm
 have q:=Dx hb (t:=k) (by omega)
 unfold U0
 have eN:=Cc [110,117,109,98,101,114]
 have eL:=Cc [108,111,110,103]
 have eP:=Cc [112,108,97,99,101]
 have eO:=Cc [110,111,110,101]
 have no:=Kj
 generalize Ca b k=e at*
 obtain⟨key,till,kind,text,list,scores,fields⟩:=e
 obtain⟨q1,q2,q3,q4,q5,q6,q7,q8,q9,q10⟩:=q
 dsimp only[C8,Cn,Cm,Df] at*
 have p2:=Lr list.length
 simp(maxSteps:=1000000) [Cq,-List.getD_eq_getElem?_getD,-List.map_map,f61,p1,eN,eL,eP,eO,no,Bj,p2,Cv]
theorem Boj (b:Ba) (k:Bl) (n:Bl) (t:Bl) (hb:BaG b) (hk:k.length≤40) (hn:n.length≤40) (ht:t.length≤40):Be (ev R) 61 [.d (D6 b), .d (Bf ([[76,83,69,84],k,n,t]))]=some (Bj (Beq b k n t)):=Bb fun H=>by
 refine Bo (fn:=f61) rfl rfl ?_
 have p1:=Gw b k hb.sm
 have q:=Dx hb (t:=k) (by omega)
 unfold Beq
 have eN:=Cc [110,117,109,98,101,114]
 have eL:=Cc [108,111,110,103]
 have eP:=Cc [112,108,97,99,101]
 have eO:=Cc [110,111,110,101]
 have no:=Kj
 generalize Ca b k=e at*
 obtain⟨key,till,kind,text,list,scores,fields⟩:=e
 obtain⟨q1,q2,q3,q4,q5,q6,q7,q8,q9,q10⟩:=q
 dsimp only[C8,Cn,Cm,Df] at*
 have i0:=G8 n
 have pi0:=R3 n (by omega)
 generalize Dv n=I0 at*
 obtain⟨n0,o0⟩:=I0
 dsimp only at*
 have vq:=Bzr list n0 t ⟨q3,q4⟩
 have pv:=B60 list n0 t (by omega) ⟨by omega,by omega⟩
 generalize Bi7 list n0 t=V at*
 obtain⟨vl,vo⟩:=V
 dsimp only at*
 have q:EnQ ⟨key,till,kind,text,vl,scores,fields⟩:=⟨q1,q2,vq.1,vq.2,q5,q6,q7,q8,q9,by dsimp only;omega⟩
 have p3:=Pj b _ (Rz) hb.sm q.sm q.fit
 generalize Ff b ⟨key,till,kind,text,vl,scores,fields⟩ (Rz)=P at*
 unfold Rz at p3
 cases o0
 ·simp(maxSteps:=1000000) [Cq,-List.getD_eq_getElem?_getD,-List.map_map,f61,p1,eN,eL,eP,eO,no,Bj,pi0,Dq]
 ·cases vo
  ·simp(maxSteps:=1000000) [Cq,-List.getD_eq_getElem?_getD,-List.map_map,f61,p1,eN,eL,eP,eO,no,Bj,pi0,pv,Dq]
  ·simp(maxSteps:=1000000) [Cq,-List.getD_eq_getElem?_getD,-List.map_map,f61,p1,eN,eL,eP,eO,no,Bj,pi0,pv,p3]
theorem Boi (b:Ba) (k:Bl) (n:Bl) (t:Bl) (hb:BaG b) (hk:k.length≤40) (hn:n.length≤40) (ht:t.length≤40):Be (ev R) 61 [.d (D6 b), .d (Bf ([[76,82,69,77],k,n,t]))]=some (Bj (Bep b k n t)):=Bb fun H=>by
 refine Bo (fn:=f61) rfl rfl ?_
 have p1:=Gw b k hb.sm
 have q:=Dx hb (t:=k) (by omega)
 unfold Bep
 have eN:=Cc [110,117,109,98,101,114]
 have eL:=Cc [108,111,110,103]
 have eP:=Cc [112,108,97,99,101]
 have eO:=Cc [110,111,110,101]
 have no:=Kj
 generalize Ca b k=e at*
 obtain⟨key,till,kind,text,list,scores,fields⟩:=e
 obtain⟨q1,q2,q3,q4,q5,q6,q7,q8,q9,q10⟩:=q
 dsimp only[C8,Cn,Cm,Df] at*
 have i0:=G8 n
 have pi0:=R3 n (by omega)
 generalize Dv n=I0 at*
 obtain⟨n0,o0⟩:=I0
 dsimp only at*
 have vq:=Bv2 list n0 t ⟨q3,q4⟩
 have pv:=B61 list n0 t (by omega)
 generalize Bai list n0 t=V at*
 obtain⟨vl,vo⟩:=V
 dsimp only at*
 have q:EnQ ⟨key,till,kind,text,vl,scores,fields⟩:=⟨q1,q2,vq.1,vq.2,q5,q6,q7,q8,q9,by dsimp only;omega⟩
 have p2:=Lr vo
 have p3:=Pj b _ (Cv vo) hb.sm q.sm q.fit
 generalize Ff b ⟨key,till,kind,text,vl,scores,fields⟩ (Cv vo)=P at*
 unfold Cv at p3
 cases o0
 ·simp(maxSteps:=1000000) [Cq,-List.getD_eq_getElem?_getD,-List.map_map,f61,p1,eN,eL,eP,eO,no,Bj,pi0,Dq]
 ·simp(maxSteps:=1000000) [Cq,-List.getD_eq_getElem?_getD,-List.map_map,f61,p1,eN,eL,eP,eO,no,Bj,pi0,pv,p2,p3]
theorem Bhz (b:Ba) (k:Bl) (n:Bl) (m:Bl) (hb:BaG b) (hk:k.length≤40) (hn:n.length≤40) (hm:m.length≤40):Be (ev R) 61 [.d (D6 b), .d (Bf ([[76,82,65,78,71,69],k,n,m]))]=some (Bj (Uj b k n m)):=Bb fun H=>by
 refine Bo (fn:=f61) rfl rfl ?_
 have p1:=Gw b k hb.sm
 have q:=Dx hb (t:=k) (by omega)
 unfold Uj
 have eN:=Cc [110,117,109,98,101,114]
 have eL:=Cc [108,111,110,103]
 have eP:=Cc [112,108,97,99,101]
 have eO:=Cc [110,111,110,101]
 have no:=Kj
 generalize Ca b k=e at*
 obtain⟨key,till,kind,text,list,scores,fields⟩:=e
 obtain⟨q1,q2,q3,q4,q5,q6,q7,q8,q9,q10⟩:=q
 dsimp only[C8,Cn,Cm,Df] at*
 have i0:=G8 n
 have pi0:=R3 n (by omega)
 have i1:=G8 m
 have pi1:=R3 m (by omega)
 generalize Dv n=I0 at*
 obtain⟨n0,o0⟩:=I0
 generalize Dv m=I1 at*
 obtain⟨n1,o1⟩:=I1
 dsimp only at*
 have pv:=B24 list n0 n1 (by omega)
 generalize Wu list n0 n1=ZV at*
 have p2:=Bfv ZV
 cases o0<;>cases o1
 ·simp(maxSteps:=1000000) [Cq,-List.getD_eq_getElem?_getD,-List.map_map,f61,p1,eN,eL,eP,eO,no,Bj,pi0,pi1,Dq]
 ·simp(maxSteps:=1000000) [Cq,-List.getD_eq_getElem?_getD,-List.map_map,f61,p1,eN,eL,eP,eO,no,Bj,pi0,pi1,Dq]
 ·simp(maxSteps:=1000000) [Cq,-List.getD_eq_getElem?_getD,-List.map_map,f61,p1,eN,eL,eP,eO,no,Bj,pi0,pi1,Dq]
 ·simp(maxSteps:=1000000) [Cq,-List.getD_eq_getElem?_getD,-List.map_map,f61,p1,eN,eL,eP,eO,no,Bj,pi0,pi1,pv,p2,G9]
theorem Bkt (b:Ba) (k:Bl) (n:Bl) (m:Bl) (hb:BaG b) (hk:k.length≤40) (hn:n.length≤40) (hm:m.length≤40):Be (ev R) 61 [.d (D6 b), .d (Bf ([[76,84,82,73,77],k,n,m]))]=some (Bj (Y6 b k n m)):=Bb fun H=>by
 refine Bo (fn:=f61) rfl rfl ?_
 have p1:=Gw b k hb.sm
 have q:=Dx hb (t:=k) (by omega)
 unfold Y6
 have eN:=Cc [110,117,109,98,101,114]
 have eL:=Cc [108,111,110,103]
 have eP:=Cc [112,108,97,99,101]
 have eO:=Cc [110,111,110,101]
 have no:=Kj
 generalize Ca b k=e at*
 obtain⟨key,till,kind,text,list,scores,fields⟩:=e
 obtain⟨q1,q2,q3,q4,q5,q6,q7,q8,q9,q10⟩:=q
 dsimp only[C8,Cn,Cm,Df] at*
 have i0:=G8 n
 have pi0:=R3 n (by omega)
 have i1:=G8 m
 have pi1:=R3 m (by omega)
 generalize Dv n=I0 at*
 obtain⟨n0,o0⟩:=I0
 generalize Dv m=I1 at*
 obtain⟨n1,o1⟩:=I1
 dsimp only at*
 have vq:=Btv list n0 n1 ⟨q3,q4⟩
 have pv:=B24 list n0 n1 (by omega)
 generalize Wu list n0 n1=ZV at*
 have q:EnQ ⟨key,till,kind,text,ZV,scores,fields⟩:=⟨q1,q2,vq.1,vq.2,q5,q6,q7,q8,q9,by dsimp only;omega⟩
 have p3:=Pj b _ (Rz) hb.sm q.sm q.fit
 generalize Ff b ⟨key,till,kind,text,ZV,scores,fields⟩ (Rz)=P at*
 unfold Rz at p3
 cases o0<;>cases o1
 ·simp(maxSteps:=1000000) [Cq,-List.getD_eq_getElem?_getD,-List.map_map,f61,p1,eN,eL,eP,eO,no,Bj,pi0,pi1,Dq]
 ·simp(maxSteps:=1000000) [Cq,-List.getD_eq_getElem?_getD,-List.map_map,f61,p1,eN,eL,eP,eO,no,Bj,pi0,pi1,Dq]
 ·simp(maxSteps:=1000000) [Cq,-List.getD_eq_getElem?_getD,-List.map_map,f61,p1,eN,eL,eP,eO,no,Bj,pi0,pi1,Dq]
 ·simp(maxSteps:=1000000) [Cq,-List.getD_eq_getElem?_getD,-List.map_map,f61,p1,eN,eL,eP,eO,no,Bj,pi0,pi1,pv,p3]
def Ber (b:Ba) (k:Bl) (ts:List Bl):Ba×Re:=if(U5 (Ca b k).list ts).2.2=true then Ff b (C8 (Ca b k) 3 (U5 (Ca b k).list ts).1) (Cv (U5 (Ca b k).list ts).2.1) else(b,Dq [108,111,110,103])
def Bes (b:Ba) (k:Bl) (ts:List Bl):Ba×Re:=Ff b (C8 (Ca b k) (Ca b k).kind (Tq (Ca b k).list ts).1) (Cv (Tq (Ca b k).list ts).2)
def Qu (b:Ba) (k:Bl):Ba×Re:=(b,G9 (Ca b k).list)
def Po (b:Ba) (k t:Bl):Ba×Re:=(b,Gy (decide (t∈(Ca b k).list)))
def X9 (b:Ba) (k m:Bl):Ba×Re:=(b,G9 (Btr (Ca b k).list (Ca b m).list))
def Yb (b:Ba) (k m:Bl):Ba×Re:=(b,G9 (Bzq (Ca b k).list (Ca b m).list))
def Bco (b:Ba) (k m:Bl):Ba×Re:=(b,G9 (Btt (Ca b k).list (Ca b m).list))
theorem Bol (b:Ba) (k:Bl) (ts:List Bl) (hb:BaG b) (hk:k.length≤40) (hts:ts.length≤1000):Be (ev R) 62 [.d (D6 b), .d (Bf ([83,65,68,68]::k::ts))]=some (Bj (Ber b k ts)):=Bb fun H=>by
 refine Bo (fn:=f62) rfl rfl ?_
 have p1:=Gw b k hb.sm
 have q:=Dx hb (t:=k) (by omega)
 unfold Ber
 have eN:=Cc [110,117,109,98,101,114]
 have eL:=Cc [108,111,110,103]
 have eP:=Cc [112,108,97,99,101]
 have eO:=Cc [110,111,110,101]
 have no:=Kj
 generalize Ca b k=e at*
 obtain⟨key,till,kind,text,list,scores,fields⟩:=e
 obtain⟨q1,q2,q3,q4,q5,q6,q7,q8,q9,q10⟩:=q
 dsimp only[C8,Cn,Cm,Df] at*
 have c00: (0:Int)< (ts.length:Int)+1+1:=by omega
 have c01: (1:Int)< (ts.length:Int)+1+1:=by omega
 have c02: (0:Int)≤(ts.length:Int)+1+1:=by omega
 have c03: (2:Int)≤(ts.length:Int)+1+1:=by omega
 have vq:=Bv3 list ts ⟨q3,q4⟩
 have pv:=B62 list ts (by omega) (by omega)
 generalize U5 list ts=V at*
 obtain⟨vl,vn,vo⟩:=V
 dsimp only at*
 have q:EnQ ⟨key,till,3,text,vl,scores,fields⟩:=⟨q1,q2,vq.1,vq.2,q5,q6,q7,q8,q9,by dsimp only;omega⟩
 have p2:=Lr vn
 have p3:=Pj b _ (Cv vn) hb.sm q.sm q.fit
 generalize Ff b ⟨key,till,3,text,vl,scores,fields⟩ (Cv vn)=P at*
 unfold Cv at p3
 cases vo
 ·simp(maxSteps:=1000000) [Cq,-List.getD_eq_getElem?_getD,-List.map_map,f62,p1,eN,eL,eP,eO,no,Bj,pv,Dq,c00,c01,c02,c03]
 ·simp(maxSteps:=1000000) [Cq,-List.getD_eq_getElem?_getD,-List.map_map,f62,p1,eN,eL,eP,eO,no,Bj,pv,p2,p3,c00,c01,c02,c03]
theorem Bom (b:Ba) (k:Bl) (ts:List Bl) (hb:BaG b) (hk:k.length≤40) (hts:ts.length≤1000):Be (ev R) 62 [.d (D6 b), .d (Bf ([83,82,69,77]::k::ts))]=some (Bj (Bes b k ts)):=Bb fun H=>by
 refine Bo (fn:=f62) rfl rfl ?_
 have p1:=Gw b k hb.sm
 have q:=Dx hb (t:=k) (by omega)
 unfold Bes
 have eN:=Cc [110,117,109,98,101,114]
 have eL:=Cc [108,111,110,103]
 have eP:=Cc [112,108,97,99,101]
 have eO:=Cc [110,111,110,101]
 have no:=Kj
 generalize Ca b k=e at*
 obtain⟨key,till,kind,text,list,scores,fields⟩:=e
 obtain⟨q1,q2,q3,q4,q5,q6,q7,q8,q9,q10⟩:=q
 dsimp only[C8,Cn,Cm,Df] at*
 have c00: (0:Int)< (ts.length:Int)+1+1:=by omega
 have c01: (1:Int)< (ts.length:Int)+1+1:=by omega
 have c02: (0:Int)≤(ts.length:Int)+1+1:=by omega
 have c03: (2:Int)≤(ts.length:Int)+1+1:=by omega
 have vq:=Btw list ts ⟨q3,q4⟩
 have pv:=B63 list ts (by omega) (by omega)
 generalize Tq list ts=V at*
 obtain⟨vl,vn⟩:=V
 dsimp only at*
 have q:EnQ ⟨key,till,kind,text,vl,scores,fields⟩:=⟨q1,q2,vq.1,vq.2,q5,q6,q7,q8,q9,by dsimp only;omega⟩
 have p2:=Lr vn
 have p3:=Pj b _ (Cv vn) hb.sm q.sm q.fit
 generalize Ff b ⟨key,till,kind,text,vl,scores,fields⟩ (Cv vn)=P at*
 unfold Cv at p3
 simp(maxSteps:=1000000) [Cq,-List.getD_eq_getElem?_getD,-List.map_map,f62,p1,eN,eL,eP,eO,no,Bj,pv,p2,p3,c00,c01,c02,c03]
theorem Bdb (b:Ba) (k:Bl) (hb:BaG b) (hk:k.length≤40):Be (ev R) 62 [.d (D6 b), .d (Bf ([[83,77,69,77,66,69,82,83],k]))]=some (Bj (Qu b k)):=Bb fun H=>by
 refine Bo (fn:=f62) rfl rfl ?_
 have p1:=Gw b k hb.sm
 have q:=Dx hb (t:=k) (by omega)
 unfold Qu
 have eN:=Cc [110,117,109,98,101,114]
 have eL:=Cc [108,111,110,103]
 have eP:=Cc [112,108,97,99,101]
 have eO:=Cc [110,111,110,101]
 have no:=Kj
 generalize Ca b k=e at*
 obtain⟨key,till,kind,text,list,scores,fields⟩:=e
 obtain⟨q1,q2,q3,q4,q5,q6,q7,q8,q9,q10⟩:=q
 dsimp only[C8,Cn,Cm,Df] at*
 have p2:=Bfv list
 simp(maxSteps:=1000000) [Cq,-List.getD_eq_getElem?_getD,-List.map_map,f62,p1,eN,eL,eP,eO,no,Bj,p2,G9]
theorem Bkv (b:Ba) (k:Bl) (hb:BaG b) (hk:k.length≤40):Be (ev R) 62 [.d (D6 b), .d (Bf ([[83,67,65,82,68],k]))]=some (Bj (U0 b k)):=Bb fun H=>by
 refine Bo (fn:=f62) rfl rfl ?_
 have p1:=Gw b k hb.sm
 have q:=Dx hb (t:=k) (by omega)
 unfold U0
 have eN:=Cc [110,117,109,98,101,114]
 have eL:=Cc [108,111,110,103]
 have eP:=Cc [112,108,97,99,101]
 have eO:=Cc [110,111,110,101]
 have no:=Kj
 generalize Ca b k=e at*
 obtain⟨key,till,kind,text,list,scores,fields⟩:=e
 obtain⟨q1,q2,q3,q4,q5,q6,q7,q8,q9,q10⟩:=q
 dsimp only[C8,Cn,Cm,Df] at*
 have p2:=Lr list.length
 simp(maxSteps:=1000000) [Cq,-List.getD_eq_getElem?_getD,-List.map_map,f62,p1,eN,eL,eP,eO,no,Bj,p2,Cv]
theorem Bci (b:Ba) (k:Bl) (t:Bl) (hb:BaG b) (hk:k.length≤40) (ht:t.length≤40):Be (ev R) 62 [.d (D6 b), .d (Bf ([[83,73,83,77,69,77,66,69,82],k,t]))]=some (Bj (Po b k t)):=Bb fun H=>by
 refine Bo (fn:=f62) rfl rfl ?_
 have p1:=Gw b k hb.sm
 have q:=Dx hb (t:=k) (by omega)
 unfold Po
 have eN:=Cc [110,117,109,98,101,114]
 have eL:=Cc [108,111,110,103]
 have eP:=Cc [112,108,97,99,101]
 have eO:=Cc [110,111,110,101]
 have no:=Kj
 generalize Ca b k=e at*
 obtain⟨key,till,kind,text,list,scores,fields⟩:=e
 obtain⟨q1,q2,q3,q4,q5,q6,q7,q8,q9,q10⟩:=q
 dsimp only[C8,Cn,Cm,Df] at*
 have pv:=Bsa list t (by omega)
 generalize decide (t∈list)=ZV at*
 have p2:=Box ZV
 simp(maxSteps:=1000000) [Cq,-List.getD_eq_getElem?_getD,-List.map_map,f62,p1,eN,eL,eP,eO,no,Bj,pv,p2]
theorem Bh0 (b:Ba) (k:Bl) (m:Bl) (hb:BaG b) (hk:k.length≤40) (hm:m.length≤40):Be (ev R) 62 [.d (D6 b), .d (Bf ([[83,73,78,84,69,82],k,m]))]=some (Bj (X9 b k m)):=Bb fun H=>by
 have p9:=Gw b m hb.sm
 have q':=Dx hb (t:=m) (by omega)
 refine Bo (fn:=f62) rfl rfl ?_
 have p1:=Gw b k hb.sm
 have q:=Dx hb (t:=k) (by omega)
 unfold X9
 have eN:=Cc [110,117,109,98,101,114]
 have eL:=Cc [108,111,110,103]
 have eP:=Cc [112,108,97,99,101]
 have eO:=Cc [110,111,110,101]
 have no:=Kj
 generalize Ca b k=e at*
 obtain⟨key,till,kind,text,list,scores,fields⟩:=e
 obtain⟨q1,q2,q3,q4,q5,q6,q7,q8,q9,q10⟩:=q
 dsimp only[C8,Cn,Cm,Df] at*
 generalize Ca b m=e2 at*
 obtain⟨key2,till2,kind2,text2,list2,scores2,fields2⟩:=e2
 obtain⟨_,_,qq,_,_,_,_,_,_,_⟩:=q'
 dsimp only at*
 have pv:=B64 list list2 (by omega) (by omega)
 generalize Btr list list2=ZV at*
 have p2:=Bfv ZV
 simp(maxSteps:=1000000) [Cq,-List.getD_eq_getElem?_getD,-List.map_map,f62,p1,eN,eL,eP,eO,no,Bj,p9,pv,p2,G9]
theorem Bh1 (b:Ba) (k:Bl) (m:Bl) (hb:BaG b) (hk:k.length≤40) (hm:m.length≤40):Be (ev R) 62 [.d (D6 b), .d (Bf ([[83,85,78,73,79,78],k,m]))]=some (Bj (Yb b k m)):=Bb fun H=>by
 have p9:=Gw b m hb.sm
 have q':=Dx hb (t:=m) (by omega)
 refine Bo (fn:=f62) rfl rfl ?_
 have p1:=Gw b k hb.sm
 have q:=Dx hb (t:=k) (by omega)
 unfold Yb
 have eN:=Cc [110,117,109,98,101,114]
 have eL:=Cc [108,111,110,103]
 have eP:=Cc [112,108,97,99,101]
 have eO:=Cc [110,111,110,101]
 have no:=Kj
 generalize Ca b k=e at*
 obtain⟨key,till,kind,text,list,scores,fields⟩:=e
 obtain⟨q1,q2,q3,q4,q5,q6,q7,q8,q9,q10⟩:=q
 dsimp only[C8,Cn,Cm,Df] at*
 generalize Ca b m=e2 at*
 obtain⟨key2,till2,kind2,text2,list2,scores2,fields2⟩:=e2
 obtain⟨_,_,qq,_,_,_,_,_,_,_⟩:=q'
 dsimp only at*
 have pv:=B2x list list2 (by omega) (by omega)
 generalize Bzq list list2=ZV at*
 have p2:=Bfv ZV
 simp(maxSteps:=1000000) [Cq,-List.getD_eq_getElem?_getD,-List.map_map,f62,p1,eN,eL,eP,eO,no,Bj,p9,pv,p2,G9]
theorem Bkw (b:Ba) (k:Bl) (m:Bl) (hb:BaG b) (hk:k.length≤40) (hm:m.length≤40):Be (ev R) 62 [.d (D6 b), .d (Bf ([[83,68,73,70,70],k,m]))]=some (Bj (Bco b k m)):=Bb fun H=>by
 have p9:=Gw b m hb.sm
 have q':=Dx hb (t:=m) (by omega)
 refine Bo (fn:=f62) rfl rfl ?_
 have p1:=Gw b k hb.sm
 have q:=Dx hb (t:=k) (by omega)
 unfold Bco
 have eN:=Cc [110,117,109,98,101,114]
 have eL:=Cc [108,111,110,103]
 have eP:=Cc [112,108,97,99,101]
 have eO:=Cc [110,111,110,101]
 have no:=Kj
 generalize Ca b k=e at*
 obtain⟨key,till,kind,text,list,scores,fields⟩:=e
 obtain⟨q1,q2,q3,q4,q5,q6,q7,q8,q9,q10⟩:=q
 dsimp only[C8,Cn,Cm,Df] at*
 generalize Ca b m=e2 at*
 obtain⟨key2,till2,kind2,text2,list2,scores2,fields2⟩:=e2
 obtain⟨_,_,qq,_,_,_,_,_,_,_⟩:=q'
 dsimp only at*
 have pv:=B2y list list2 (by omega) (by omega)
 generalize Btt list list2=ZV at*
 have p2:=Bfv ZV
 simp(maxSteps:=1000000) [Cq,-List.getD_eq_getElem?_getD,-List.map_map,f62,p1,eN,eL,eP,eO,no,Bj,p9,pv,p2,G9]
end Go.Proofs.YtedlandcnpjghaaGreatDoor.Code

/- Lemmas (several texts in one). -/
import Derived.Test.YtpajcoanfkeibaaGreatDoorMDoRename6
import Derived.Test.YtpajcoanfkeibaaGreatDoorMDoRename27
set_option maxRecDepth 100000
set_option maxHeartbeats 2000000
set_option linter.unusedSimpArgs false
set_option linter.unusedVariables false
namespace Go.Proofs.YtpajcoanfkeibaaGreatDoor.Code
open Go Go.Ev Go.Proofs
def Cv (e:En) (kind:Int) (l:List Bq):En:=⟨e.key,e.till,kind,e.text,l,e.scores,e.fields⟩
def Cm (e:En) (kind:Int) (l:List Sc):En:=⟨e.key,e.till,kind,e.text,e.list,l,e.fields⟩
def Ck (e:En) (kind:Int) (l:List Pr):En:=⟨e.key,e.till,kind,e.text,e.list,e.scores,l⟩
def Tc (b:Ba) (k:Bq) (f:Bool) (ts:List Bq):Ba×Re:=if(U0 (Bw b k).list f ts).2=true then Fb b (Cv (Bw b k) 2 (U0 (Bw b k).list f ts).1) (Ct (U0 (Bw b k).list f ts).1.length) else(b,Dh [108,111,110,103])
def Bcb (b:Ba) (k:Bq) (f:Bool):Ba×Re:=if(Bcv (Bw b k).list f).2.2=true then Fb b (Cv (Bw b k) (Bw b k).kind (Bcv (Bw b k).list f).1) (K6 (Bcv (Bw b k).list f).2.1) else(b,Nb)
def Uw (b:Ba) (k:Bq):Ba×Re:=(b,Ct (Bw b k).list.length)
def Bd9 (b:Ba) (k n t:Bq):Ba×Re:=if(Dx n).2=true then(if(Bit (Bw b k).list (Dx n).1 t).2=true then Fb b (Cv (Bw b k) (Bw b k).kind (Bit (Bw b k).list (Dx n).1 t).1) R7 else(b,Dh [112,108,97,99,101])) else(b,Dh [110,117,109,98,101,114])
def Bd8 (b:Ba) (k n t:Bq):Ba×Re:=if(Dx n).2=true then Fb b (Cv (Bw b k) (Bw b k).kind (Zx (Bw b k).list (Dx n).1 t).1) (Ct (Zx (Bw b k).list (Dx n).1 t).2) else(b,Dh [110,117,109,98,101,114])
def Uc (b:Ba) (k n m:Bq):Ba×Re:=if(Dx n).2=true∧(Dx m).2=true then(b,Jh (Wo (Bw b k).list (Dx n).1 (Dx m).1)) else(b,Dh [110,117,109,98,101,114])
def Yz (b:Ba) (k n m:Bq):Ba×Re:=if(Dx n).2=true∧(Dx m).2=true then Fb b (Cv (Bw b k) (Bw b k).kind (Wo (Bw b k).list (Dx n).1 (Dx m).1)) R7 else(b,Dh [110,117,109,98,101,114])
theorem Bhm (b:Ba) (k:Bq) (ts:List Bq) (hb:BaG b) (hk:k.length≤40) (hts:ts.length≤1000):Be (ev R) 167 [.d (Df b), .d (Bf ([76,80,85,83,72]::k::ts))]=some (Bl (Tc b k true ts)):=Bb fun H=>by
 refine Bh (fn:=f167) rfl rfl ?_
 have p1:=Gz b k hb.sm
 have q:=Dm hb (t:=k) (by omega)
 unfold Tc
 have eN:=Bv [110,117,109,98,101,114]
 have eL:=Bv [108,111,110,103]
 have eP:=Bv [112,108,97,99,101]
 have eO:=Bv [110,111,110,101]
 have no:=Gm
 generalize Bw b k=e at*
 obtain⟨key,till,kind,text,list,scores,fields⟩:=e
 obtain⟨q1,q2,q3,q4,q5,q6,q7,q8,q9,q10⟩:=q
 dsimp only[Cv,Cm,Ck,Cz] at*
 have c00: (0:Int)< (ts.length:Int)+1+1:=by omega
 have c01: (1:Int)< (ts.length:Int)+1+1:=by omega
 have c02: (0:Int)≤(ts.length:Int)+1+1:=by omega
 have c03: (2:Int)≤(ts.length:Int)+1+1:=by omega
 have vq:=Bno list true ts ⟨q3,q4⟩
 have pv:=By2 list true ts (by omega) (by omega)
 generalize U0 list true ts=V at*
 obtain⟨vl,vo⟩:=V
 dsimp only at*
 have q:EnQ ⟨key,till,2,text,vl,scores,fields⟩:=⟨q1,q2,vq.1,vq.2,q5,q6,q7,q8,q9,by dsimp only;omega⟩
 have p2:=Ji vl.length
 have p3:=Kt b _ (Ct vl.length) hb.sm q.sm q.fit
 generalize Fb b ⟨key,till,2,text,vl,scores,fields⟩ (Ct vl.length)=P at*
 unfold Ct at p3
 cases vo
 ·simp(maxSteps:=1000000) [Ce,-List.getD_eq_getElem?_getD,-List.map_map,f167,p1,eN,eL,eP,eO,no,Bl,pv,Dh,c00,c01,c02,c03]
 ·simp(maxSteps:=1000000) [Ce,-List.getD_eq_getElem?_getD,-List.map_map,f167,p1,eN,eL,eP,eO,no,Bl,pv,p2,p3,c00,c01,c02,c03]
theorem Bho (b:Ba) (k:Bq) (ts:List Bq) (hb:BaG b) (hk:k.length≤40) (hts:ts.length≤1000):Be (ev R) 167 [.d (Df b), .d (Bf ([82,80,85,83,72]::k::ts))]=some (Bl (Tc b k false ts)):=Bb fun H=>by
 refine Bh (fn:=f167) rfl rfl ?_
 have p1:=Gz b k hb.sm
 have q:=Dm hb (t:=k) (by omega)
 unfold Tc
 have eN:=Bv [110,117,109,98,101,114]
 have eL:=Bv [108,111,110,103]
 have eP:=Bv [112,108,97,99,101]
 have eO:=Bv [110,111,110,101]
 have no:=Gm
 generalize Bw b k=e at*
 obtain⟨key,till,kind,text,list,scores,fields⟩:=e
 obtain⟨q1,q2,q3,q4,q5,q6,q7,q8,q9,q10⟩:=q
 dsimp only[Cv,Cm,Ck,Cz] at*
 have c00: (0:Int)< (ts.length:Int)+1+1:=by omega
 have c01: (1:Int)< (ts.length:Int)+1+1:=by omega
 have c02: (0:Int)≤(ts.length:Int)+1+1:=by omega
 have c03: (2:Int)≤(ts.length:Int)+1+1:=by omega
 have vq:=Bno list false ts ⟨q3,q4⟩
 have pv:=By2 list false ts (by omega) (by omega)
 generalize U0 list false ts=V at*
 obtain⟨vl,vo⟩:=V
 dsimp only at*
 have q:EnQ ⟨key,till,2,text,vl,scores,fields⟩:=⟨q1,q2,vq.1,vq.2,q5,q6,q7,q8,q9,by dsimp only;omega⟩
 have p2:=Ji vl.length
 have p3:=Kt b _ (Ct vl.length) hb.sm q.sm q.fit
 generalize Fb b ⟨key,till,2,text,vl,scores,fields⟩ (Ct vl.length)=P at*
 unfold Ct at p3
 cases vo
 ·simp(maxSteps:=1000000) [Ce,-List.getD_eq_getElem?_getD,-List.map_map,f167,p1,eN,eL,eP,eO,no,Bl,pv,Dh,c00,c01,c02,c03]
 ·simp(maxSteps:=1000000) [Ce,-List.getD_eq_getElem?_getD,-List.map_map,f167,p1,eN,eL,eP,eO,no,Bl,pv,p2,p3,c00,c01,c02,c03]
theorem Bki (b:Ba) (k:Bq) (hb:BaG b) (hk:k.length≤40):Be (ev R) 167 [.d (Df b), .d (Bf ([[76,80,79,80],k]))]=some (Bl (Bcb b k true)):=Bb fun H=>by
 refine Bh (fn:=f167) rfl rfl ?_
 have p1:=Gz b k hb.sm
 have q:=Dm hb (t:=k) (by omega)
 unfold Bcb
 have eN:=Bv [110,117,109,98,101,114]
 have eL:=Bv [108,111,110,103]
 have eP:=Bv [112,108,97,99,101]
 have eO:=Bv [110,111,110,101]
 have no:=Gm
 generalize Bw b k=e at*
 obtain⟨key,till,kind,text,list,scores,fields⟩:=e
 obtain⟨q1,q2,q3,q4,q5,q6,q7,q8,q9,q10⟩:=q
 dsimp only[Cv,Cm,Ck,Cz] at*
 have vq:=Btl list true ⟨q3,q4⟩
 have pv:=By3 list true (by omega)
 generalize Bcv list true=V at*
 obtain⟨vl,vs,vo⟩:=V
 dsimp only at*
 have q:EnQ ⟨key,till,kind,text,vl,scores,fields⟩:=⟨q1,q2,vq.1,vq.2,q5,q6,q7,q8,q9,by dsimp only;omega⟩
 have p2:=Bd0 vs
 have p3:=Kt b _ (K6 vs) hb.sm q.sm q.fit
 generalize Fb b ⟨key,till,kind,text,vl,scores,fields⟩ (K6 vs)=P at*
 unfold K6 at p3
 cases vo
 ·simp(maxSteps:=1000000) [Ce,-List.getD_eq_getElem?_getD,-List.map_map,f167,p1,eN,eL,eP,eO,no,Bl,pv,Nb]
 ·simp(maxSteps:=1000000) [Ce,-List.getD_eq_getElem?_getD,-List.map_map,f167,p1,eN,eL,eP,eO,no,Bl,pv,p2,p3]
theorem Bkl (b:Ba) (k:Bq) (hb:BaG b) (hk:k.length≤40):Be (ev R) 167 [.d (Df b), .d (Bf ([[82,80,79,80],k]))]=some (Bl (Bcb b k false)):=Bb fun H=>by
 refine Bh (fn:=f167) rfl rfl ?_
 have p1:=Gz b k hb.sm
 have q:=Dm hb (t:=k) (by omega)
 unfold Bcb
 have eN:=Bv [110,117,109,98,101,114]
 have eL:=Bv [108,111,110,103]
 have eP:=Bv [112,108,97,99,101]
 have eO:=Bv [110,111,110,101]
 have no:=Gm
 generalize Bw b k=e at*
 obtain⟨key,till,kind,text,list,scores,fields⟩:=e
 obtain⟨q1,q2,q3,q4,q5,q6,q7,q8,q9,q10⟩:=q
 dsimp only[Cv,Cm,Ck,Cz] at*
 have vq:=Btl list false ⟨q3,q4⟩
 have pv:=By3 list false (by omega)
 generalize Bcv list false=V at*
 obtain⟨vl,vs,vo⟩:=V
 dsimp only at*
 have q:EnQ ⟨key,till,kind,text,vl,scores,fields⟩:=⟨q1,q2,vq.1,vq.2,q5,q6,q7,q8,q9,by dsimp only;omega⟩
 have p2:=Bd0 vs
 have p3:=Kt b _ (K6 vs) hb.sm q.sm q.fit
 generalize Fb b ⟨key,till,kind,text,vl,scores,fields⟩ (K6 vs)=P at*
 unfold K6 at p3
 cases vo
 ·simp(maxSteps:=1000000) [Ce,-List.getD_eq_getElem?_getD,-List.map_map,f167,p1,eN,eL,eP,eO,no,Bl,pv,Nb]
 ·simp(maxSteps:=1000000) [Ce,-List.getD_eq_getElem?_getD,-List.map_map,f167,p1,eN,eL,eP,eO,no,Bl,pv,p2,p3]
theorem Bkh (b:Ba) (k:Bq) (hb:BaG b) (hk:k.length≤40):Be (ev R) 167 [.d (Df b), .d (Bf ([[76,76,69,78],k]))]=some (Bl (Uw b k)):=Bb fun H=>by
 refine Bh (fn:=f167) rfl rfl ?_
 have p1:=Gz b k hb.sm
 have q:=Dm hb (t:=k) (by omega)
 unfold Uw
 have eN:=Bv [110,117,109,98,101,114]
 have eL:=Bv [108,111,110,103]
 have eP:=Bv [112,108,97,99,101]
 have eO:=Bv [110,111,110,101]
 have no:=Gm
 generalize Bw b k=e at*
 obtain⟨key,till,kind,text,list,scores,fields⟩:=e
 obtain⟨q1,q2,q3,q4,q5,q6,q7,q8,q9,q10⟩:=q
 dsimp only[Cv,Cm,Ck,Cz] at*
 have p2:=Ji list.length
 simp(maxSteps:=1000000) [Ce,-List.getD_eq_getElem?_getD,-List.map_map,f167,p1,eN,eL,eP,eO,no,Bl,p2,Ct]
theorem Bkk (b:Ba) (k:Bq) (n:Bq) (t:Bq) (hb:BaG b) (hk:k.length≤40) (hn:n.length≤40) (ht:t.length≤40):Be (ev R) 167 [.d (Df b), .d (Bf ([[76,83,69,84],k,n,t]))]=some (Bl (Bd9 b k n t)):=Bb fun H=>by
 refine Bh (fn:=f167) rfl rfl ?_
 have p1:=Gz b k hb.sm
 have q:=Dm hb (t:=k) (by omega)
 unfold Bd9
 have eN:=Bv [110,117,109,98,101,114]
 have eL:=Bv [108,111,110,103]
 have eP:=Bv [112,108,97,99,101]
 have eO:=Bv [110,111,110,101]
 have no:=Gm
 generalize Bw b k=e at*
 obtain⟨key,till,kind,text,list,scores,fields⟩:=e
 obtain⟨q1,q2,q3,q4,q5,q6,q7,q8,q9,q10⟩:=q
 dsimp only[Cv,Cm,Ck,Cz] at*
 have i0:=Jg n
 have pi0:=L6 n (by omega)
 generalize Dx n=I0 at*
 obtain⟨n0,o0⟩:=I0
 dsimp only at*
 have vq:=B0b list n0 t ⟨q3,q4⟩
 have pv:=B5n list n0 t (by omega) ⟨by omega,by omega⟩
 generalize Bit list n0 t=V at*
 obtain⟨vl,vo⟩:=V
 dsimp only at*
 have q:EnQ ⟨key,till,kind,text,vl,scores,fields⟩:=⟨q1,q2,vq.1,vq.2,q5,q6,q7,q8,q9,by dsimp only;omega⟩
 have p3:=Kt b _ (R7) hb.sm q.sm q.fit
 generalize Fb b ⟨key,till,kind,text,vl,scores,fields⟩ (R7)=P at*
 unfold R7 at p3
 cases o0
 ·simp(maxSteps:=1000000) [Ce,-List.getD_eq_getElem?_getD,-List.map_map,f167,p1,eN,eL,eP,eO,no,Bl,pi0,Dh]
 ·cases vo
  ·simp(maxSteps:=1000000) [Ce,-List.getD_eq_getElem?_getD,-List.map_map,f167,p1,eN,eL,eP,eO,no,Bl,pi0,pv,Dh]
  ·simp(maxSteps:=1000000) [Ce,-List.getD_eq_getElem?_getD,-List.map_map,f167,p1,eN,eL,eP,eO,no,Bl,pi0,pv,p3]
theorem Bkj (b:Ba) (k:Bq) (n:Bq) (t:Bq) (hb:BaG b) (hk:k.length≤40) (hn:n.length≤40) (ht:t.length≤40):Be (ev R) 167 [.d (Df b), .d (Bf ([[76,82,69,77],k,n,t]))]=some (Bl (Bd8 b k n t)):=Bb fun H=>by
 refine Bh (fn:=f167) rfl rfl ?_
 have p1:=Gz b k hb.sm
 have q:=Dm hb (t:=k) (by omega)
 unfold Bd8
 have eN:=Bv [110,117,109,98,101,114]
 have eL:=Bv [108,111,110,103]
 have eP:=Bv [112,108,97,99,101]
 have eO:=Bv [110,111,110,101]
 have no:=Gm
 generalize Bw b k=e at*
 obtain⟨key,till,kind,text,list,scores,fields⟩:=e
 obtain⟨q1,q2,q3,q4,q5,q6,q7,q8,q9,q10⟩:=q
 dsimp only[Cv,Cm,Ck,Cz] at*
 have i0:=Jg n
 have pi0:=L6 n (by omega)
 generalize Dx n=I0 at*
 obtain⟨n0,o0⟩:=I0
 dsimp only at*
 have vq:=Bxh list n0 t ⟨q3,q4⟩
 have pv:=B5o list n0 t (by omega)
 generalize Zx list n0 t=V at*
 obtain⟨vl,vo⟩:=V
 dsimp only at*
 have q:EnQ ⟨key,till,kind,text,vl,scores,fields⟩:=⟨q1,q2,vq.1,vq.2,q5,q6,q7,q8,q9,by dsimp only;omega⟩
 have p2:=Ji vo
 have p3:=Kt b _ (Ct vo) hb.sm q.sm q.fit
 generalize Fb b ⟨key,till,kind,text,vl,scores,fields⟩ (Ct vo)=P at*
 unfold Ct at p3
 cases o0
 ·simp(maxSteps:=1000000) [Ce,-List.getD_eq_getElem?_getD,-List.map_map,f167,p1,eN,eL,eP,eO,no,Bl,pi0,Dh]
 ·simp(maxSteps:=1000000) [Ce,-List.getD_eq_getElem?_getD,-List.map_map,f167,p1,eN,eL,eP,eO,no,Bl,pi0,pv,p2,p3]
theorem Bfl (b:Ba) (k:Bq) (n:Bq) (m:Bq) (hb:BaG b) (hk:k.length≤40) (hn:n.length≤40) (hm:m.length≤40):Be (ev R) 167 [.d (Df b), .d (Bf ([[76,82,65,78,71,69],k,n,m]))]=some (Bl (Uc b k n m)):=Bb fun H=>by
 refine Bh (fn:=f167) rfl rfl ?_
 have p1:=Gz b k hb.sm
 have q:=Dm hb (t:=k) (by omega)
 unfold Uc
 have eN:=Bv [110,117,109,98,101,114]
 have eL:=Bv [108,111,110,103]
 have eP:=Bv [112,108,97,99,101]
 have eO:=Bv [110,111,110,101]
 have no:=Gm
 generalize Bw b k=e at*
 obtain⟨key,till,kind,text,list,scores,fields⟩:=e
 obtain⟨q1,q2,q3,q4,q5,q6,q7,q8,q9,q10⟩:=q
 dsimp only[Cv,Cm,Ck,Cz] at*
 have i0:=Jg n
 have pi0:=L6 n (by omega)
 have i1:=Jg m
 have pi1:=L6 m (by omega)
 generalize Dx n=I0 at*
 obtain⟨n0,o0⟩:=I0
 generalize Dx m=I1 at*
 obtain⟨n1,o1⟩:=I1
 dsimp only at*
 have pv:=By4 list n0 n1 (by omega)
 generalize Wo list n0 n1=ZV at*
 have p2:=Xo ZV
 cases o0<;>cases o1
 ·simp(maxSteps:=1000000) [Ce,-List.getD_eq_getElem?_getD,-List.map_map,f167,p1,eN,eL,eP,eO,no,Bl,pi0,pi1,Dh]
 ·simp(maxSteps:=1000000) [Ce,-List.getD_eq_getElem?_getD,-List.map_map,f167,p1,eN,eL,eP,eO,no,Bl,pi0,pi1,Dh]
 ·simp(maxSteps:=1000000) [Ce,-List.getD_eq_getElem?_getD,-List.map_map,f167,p1,eN,eL,eP,eO,no,Bl,pi0,pi1,Dh]
 ·simp(maxSteps:=1000000) [Ce,-List.getD_eq_getElem?_getD,-List.map_map,f167,p1,eN,eL,eP,eO,no,Bl,pi0,pi1,pv,p2,Jh]
theorem Bhn (b:Ba) (k:Bq) (n:Bq) (m:Bq) (hb:BaG b) (hk:k.length≤40) (hn:n.length≤40) (hm:m.length≤40):Be (ev R) 167 [.d (Df b), .d (Bf ([[76,84,82,73,77],k,n,m]))]=some (Bl (Yz b k n m)):=Bb fun H=>by
 refine Bh (fn:=f167) rfl rfl ?_
 have p1:=Gz b k hb.sm
 have q:=Dm hb (t:=k) (by omega)
 unfold Yz
 have eN:=Bv [110,117,109,98,101,114]
 have eL:=Bv [108,111,110,103]
 have eP:=Bv [112,108,97,99,101]
 have eO:=Bv [110,111,110,101]
 have no:=Gm
 generalize Bw b k=e at*
 obtain⟨key,till,kind,text,list,scores,fields⟩:=e
 obtain⟨q1,q2,q3,q4,q5,q6,q7,q8,q9,q10⟩:=q
 dsimp only[Cv,Cm,Ck,Cz] at*
 have i0:=Jg n
 have pi0:=L6 n (by omega)
 have i1:=Jg m
 have pi1:=L6 m (by omega)
 generalize Dx n=I0 at*
 obtain⟨n0,o0⟩:=I0
 generalize Dx m=I1 at*
 obtain⟨n1,o1⟩:=I1
 dsimp only at*
 have vq:=Btm list n0 n1 ⟨q3,q4⟩
 have pv:=By4 list n0 n1 (by omega)
 generalize Wo list n0 n1=ZV at*
 have q:EnQ ⟨key,till,kind,text,ZV,scores,fields⟩:=⟨q1,q2,vq.1,vq.2,q5,q6,q7,q8,q9,by dsimp only;omega⟩
 have p3:=Kt b _ (R7) hb.sm q.sm q.fit
 generalize Fb b ⟨key,till,kind,text,ZV,scores,fields⟩ (R7)=P at*
 unfold R7 at p3
 cases o0<;>cases o1
 ·simp(maxSteps:=1000000) [Ce,-List.getD_eq_getElem?_getD,-List.map_map,f167,p1,eN,eL,eP,eO,no,Bl,pi0,pi1,Dh]
 ·simp(maxSteps:=1000000) [Ce,-List.getD_eq_getElem?_getD,-List.map_map,f167,p1,eN,eL,eP,eO,no,Bl,pi0,pi1,Dh]
 ·simp(maxSteps:=1000000) [Ce,-List.getD_eq_getElem?_getD,-List.map_map,f167,p1,eN,eL,eP,eO,no,Bl,pi0,pi1,Dh]
 ·simp(maxSteps:=1000000) [Ce,-List.getD_eq_getElem?_getD,-List.map_map,f167,p1,eN,eL,eP,eO,no,Bl,pi0,pi1,pv,p3]
def Bea (b:Ba) (k:Bq) (ts:List Bq):Ba×Re:=if(U1 (Bw b k).list ts).2.2=true then Fb b (Cv (Bw b k) 3 (U1 (Bw b k).list ts).1) (Ct (U1 (Bw b k).list ts).2.1) else(b,Dh [108,111,110,103])
def Beb (b:Ba) (k:Bq) (ts:List Bq):Ba×Re:=Fb b (Cv (Bw b k) (Bw b k).kind (Tp (Bw b k).list ts).1) (Ct (Tp (Bw b k).list ts).2)
def Q4 (b:Ba) (k:Bq):Ba×Re:=(b,Jh (Bw b k).list)
def Pp (b:Ba) (k t:Bq):Ba×Re:=(b,G9 (decide (t∈(Bw b k).list)))
def Xu (b:Ba) (k m:Bq):Ba×Re:=(b,Jh (Bti (Bw b k).list (Bw b m).list))
def Xw (b:Ba) (k m:Bq):Ba×Re:=(b,Jh (B0a (Bw b k).list (Bw b m).list))
def Bcd (b:Ba) (k m:Bq):Ba×Re:=(b,Jh (Btk (Bw b k).list (Bw b m).list))
theorem Bkm (b:Ba) (k:Bq) (ts:List Bq) (hb:BaG b) (hk:k.length≤40) (hts:ts.length≤1000):Be (ev R) 168 [.d (Df b), .d (Bf ([83,65,68,68]::k::ts))]=some (Bl (Bea b k ts)):=Bb fun H=>by
 refine Bh (fn:=f168) rfl rfl ?_
 have p1:=Gz b k hb.sm
 have q:=Dm hb (t:=k) (by omega)
 unfold Bea
 have eN:=Bv [110,117,109,98,101,114]
 have eL:=Bv [108,111,110,103]
 have eP:=Bv [112,108,97,99,101]
 have eO:=Bv [110,111,110,101]
 have no:=Gm
 generalize Bw b k=e at*
 obtain⟨key,till,kind,text,list,scores,fields⟩:=e
 obtain⟨q1,q2,q3,q4,q5,q6,q7,q8,q9,q10⟩:=q
 dsimp only[Cv,Cm,Ck,Cz] at*
 have c00: (0:Int)< (ts.length:Int)+1+1:=by omega
 have c01: (1:Int)< (ts.length:Int)+1+1:=by omega
 have c02: (0:Int)≤(ts.length:Int)+1+1:=by omega
 have c03: (2:Int)≤(ts.length:Int)+1+1:=by omega
 have vq:=Bxi list ts ⟨q3,q4⟩
 have pv:=B5p list ts (by omega) (by omega)
 generalize U1 list ts=V at*
 obtain⟨vl,vn,vo⟩:=V
 dsimp only at*
 have q:EnQ ⟨key,till,3,text,vl,scores,fields⟩:=⟨q1,q2,vq.1,vq.2,q5,q6,q7,q8,q9,by dsimp only;omega⟩
 have p2:=Ji vn
 have p3:=Kt b _ (Ct vn) hb.sm q.sm q.fit
 generalize Fb b ⟨key,till,3,text,vl,scores,fields⟩ (Ct vn)=P at*
 unfold Ct at p3
 cases vo
 ·simp(maxSteps:=1000000) [Ce,-List.getD_eq_getElem?_getD,-List.map_map,f168,p1,eN,eL,eP,eO,no,Bl,pv,Dh,c00,c01,c02,c03]
 ·simp(maxSteps:=1000000) [Ce,-List.getD_eq_getElem?_getD,-List.map_map,f168,p1,eN,eL,eP,eO,no,Bl,pv,p2,p3,c00,c01,c02,c03]
theorem Bkn (b:Ba) (k:Bq) (ts:List Bq) (hb:BaG b) (hk:k.length≤40) (hts:ts.length≤1000):Be (ev R) 168 [.d (Df b), .d (Bf ([83,82,69,77]::k::ts))]=some (Bl (Beb b k ts)):=Bb fun H=>by
 refine Bh (fn:=f168) rfl rfl ?_
 have p1:=Gz b k hb.sm
 have q:=Dm hb (t:=k) (by omega)
 unfold Beb
 have eN:=Bv [110,117,109,98,101,114]
 have eL:=Bv [108,111,110,103]
 have eP:=Bv [112,108,97,99,101]
 have eO:=Bv [110,111,110,101]
 have no:=Gm
 generalize Bw b k=e at*
 obtain⟨key,till,kind,text,list,scores,fields⟩:=e
 obtain⟨q1,q2,q3,q4,q5,q6,q7,q8,q9,q10⟩:=q
 dsimp only[Cv,Cm,Ck,Cz] at*
 have c00: (0:Int)< (ts.length:Int)+1+1:=by omega
 have c01: (1:Int)< (ts.length:Int)+1+1:=by omega
 have c02: (0:Int)≤(ts.length:Int)+1+1:=by omega
 have c03: (2:Int)≤(ts.length:Int)+1+1:=by omega
 have vq:=Btn list ts ⟨q3,q4⟩
 have pv:=B5q list ts (by omega) (by omega)
 generalize Tp list ts=V at*
 obtain⟨vl,vn⟩:=V
 dsimp only at*
 have q:EnQ ⟨key,till,kind,text,vl,scores,fields⟩:=⟨q1,q2,vq.1,vq.2,q5,q6,q7,q8,q9,by dsimp only;omega⟩
 have p2:=Ji vn
 have p3:=Kt b _ (Ct vn) hb.sm q.sm q.fit
 generalize Fb b ⟨key,till,kind,text,vl,scores,fields⟩ (Ct vn)=P at*
 unfold Ct at p3
 simp(maxSteps:=1000000) [Ce,-List.getD_eq_getElem?_getD,-List.map_map,f168,p1,eN,eL,eP,eO,no,Bl,pv,p2,p3,c00,c01,c02,c03]
theorem Bb3 (b:Ba) (k:Bq) (hb:BaG b) (hk:k.length≤40):Be (ev R) 168 [.d (Df b), .d (Bf ([[83,77,69,77,66,69,82,83],k]))]=some (Bl (Q4 b k)):=Bb fun H=>by
 refine Bh (fn:=f168) rfl rfl ?_
 have p1:=Gz b k hb.sm
 have q:=Dm hb (t:=k) (by omega)
 unfold Q4
 have eN:=Bv [110,117,109,98,101,114]
 have eL:=Bv [108,111,110,103]
 have eP:=Bv [112,108,97,99,101]
 have eO:=Bv [110,111,110,101]
 have no:=Gm
 generalize Bw b k=e at*
 obtain⟨key,till,kind,text,list,scores,fields⟩:=e
 obtain⟨q1,q2,q3,q4,q5,q6,q7,q8,q9,q10⟩:=q
 dsimp only[Cv,Cm,Ck,Cz] at*
 have p2:=Xo list
 simp(maxSteps:=1000000) [Ce,-List.getD_eq_getElem?_getD,-List.map_map,f168,p1,eN,eL,eP,eO,no,Bl,p2,Jh]
theorem Bhp (b:Ba) (k:Bq) (hb:BaG b) (hk:k.length≤40):Be (ev R) 168 [.d (Df b), .d (Bf ([[83,67,65,82,68],k]))]=some (Bl (Uw b k)):=Bb fun H=>by
 refine Bh (fn:=f168) rfl rfl ?_
 have p1:=Gz b k hb.sm
 have q:=Dm hb (t:=k) (by omega)
 unfold Uw
 have eN:=Bv [110,117,109,98,101,114]
 have eL:=Bv [108,111,110,103]
 have eP:=Bv [112,108,97,99,101]
 have eO:=Bv [110,111,110,101]
 have no:=Gm
 generalize Bw b k=e at*
 obtain⟨key,till,kind,text,list,scores,fields⟩:=e
 obtain⟨q1,q2,q3,q4,q5,q6,q7,q8,q9,q10⟩:=q
 dsimp only[Cv,Cm,Ck,Cz] at*
 have p2:=Ji list.length
 simp(maxSteps:=1000000) [Ce,-List.getD_eq_getElem?_getD,-List.map_map,f168,p1,eN,eL,eP,eO,no,Bl,p2,Ct]
theorem Z9 (b:Ba) (k:Bq) (t:Bq) (hb:BaG b) (hk:k.length≤40) (ht:t.length≤40):Be (ev R) 168 [.d (Df b), .d (Bf ([[83,73,83,77,69,77,66,69,82],k,t]))]=some (Bl (Pp b k t)):=Bb fun H=>by
 refine Bh (fn:=f168) rfl rfl ?_
 have p1:=Gz b k hb.sm
 have q:=Dm hb (t:=k) (by omega)
 unfold Pp
 have eN:=Bv [110,117,109,98,101,114]
 have eL:=Bv [108,111,110,103]
 have eP:=Bv [112,108,97,99,101]
 have eO:=Bv [110,111,110,101]
 have no:=Gm
 generalize Bw b k=e at*
 obtain⟨key,till,kind,text,list,scores,fields⟩:=e
 obtain⟨q1,q2,q3,q4,q5,q6,q7,q8,q9,q10⟩:=q
 dsimp only[Cv,Cm,Ck,Cz] at*
 have pv:=Bhu list t (by omega)
 generalize decide (t∈list)=ZV at*
 have p2:=Bd1 ZV
 simp(maxSteps:=1000000) [Ce,-List.getD_eq_getElem?_getD,-List.map_map,f168,p1,eN,eL,eP,eO,no,Bl,pv,p2]
theorem Bfm (b:Ba) (k:Bq) (m:Bq) (hb:BaG b) (hk:k.length≤40) (hm:m.length≤40):Be (ev R) 168 [.d (Df b), .d (Bf ([[83,73,78,84,69,82],k,m]))]=some (Bl (Xu b k m)):=Bb fun H=>by
 have p9:=Gz b m hb.sm
 have q':=Dm hb (t:=m) (by omega)
 refine Bh (fn:=f168) rfl rfl ?_
 have p1:=Gz b k hb.sm
 have q:=Dm hb (t:=k) (by omega)
 unfold Xu
 have eN:=Bv [110,117,109,98,101,114]
 have eL:=Bv [108,111,110,103]
 have eP:=Bv [112,108,97,99,101]
 have eO:=Bv [110,111,110,101]
 have no:=Gm
 generalize Bw b k=e at*
 obtain⟨key,till,kind,text,list,scores,fields⟩:=e
 obtain⟨q1,q2,q3,q4,q5,q6,q7,q8,q9,q10⟩:=q
 dsimp only[Cv,Cm,Ck,Cz] at*
 generalize Bw b m=e2 at*
 obtain⟨key2,till2,kind2,text2,list2,scores2,fields2⟩:=e2
 obtain⟨_,_,qq,_,_,_,_,_,_,_⟩:=q'
 dsimp only at*
 have pv:=B5r list list2 (by omega) (by omega)
 generalize Bti list list2=ZV at*
 have p2:=Xo ZV
 simp(maxSteps:=1000000) [Ce,-List.getD_eq_getElem?_getD,-List.map_map,f168,p1,eN,eL,eP,eO,no,Bl,p9,pv,p2,Jh]
theorem Bfn (b:Ba) (k:Bq) (m:Bq) (hb:BaG b) (hk:k.length≤40) (hm:m.length≤40):Be (ev R) 168 [.d (Df b), .d (Bf ([[83,85,78,73,79,78],k,m]))]=some (Bl (Xw b k m)):=Bb fun H=>by
 have p9:=Gz b m hb.sm
 have q':=Dm hb (t:=m) (by omega)
 refine Bh (fn:=f168) rfl rfl ?_
 have p1:=Gz b k hb.sm
 have q:=Dm hb (t:=k) (by omega)
 unfold Xw
 have eN:=Bv [110,117,109,98,101,114]
 have eL:=Bv [108,111,110,103]
 have eP:=Bv [112,108,97,99,101]
 have eO:=Bv [110,111,110,101]
 have no:=Gm
 generalize Bw b k=e at*
 obtain⟨key,till,kind,text,list,scores,fields⟩:=e
 obtain⟨q1,q2,q3,q4,q5,q6,q7,q8,q9,q10⟩:=q
 dsimp only[Cv,Cm,Ck,Cz] at*
 generalize Bw b m=e2 at*
 obtain⟨key2,till2,kind2,text2,list2,scores2,fields2⟩:=e2
 obtain⟨_,_,qq,_,_,_,_,_,_,_⟩:=q'
 dsimp only at*
 have pv:=B5s list list2 (by omega) (by omega)
 generalize B0a list list2=ZV at*
 have p2:=Xo ZV
 simp(maxSteps:=1000000) [Ce,-List.getD_eq_getElem?_getD,-List.map_map,f168,p1,eN,eL,eP,eO,no,Bl,p9,pv,p2,Jh]
theorem Bhq (b:Ba) (k:Bq) (m:Bq) (hb:BaG b) (hk:k.length≤40) (hm:m.length≤40):Be (ev R) 168 [.d (Df b), .d (Bf ([[83,68,73,70,70],k,m]))]=some (Bl (Bcd b k m)):=Bb fun H=>by
 have p9:=Gz b m hb.sm
 have q':=Dm hb (t:=m) (by omega)
 refine Bh (fn:=f168) rfl rfl ?_
 have p1:=Gz b k hb.sm
 have q:=Dm hb (t:=k) (by omega)
 unfold Bcd
 have eN:=Bv [110,117,109,98,101,114]
 have eL:=Bv [108,111,110,103]
 have eP:=Bv [112,108,97,99,101]
 have eO:=Bv [110,111,110,101]
 have no:=Gm
 generalize Bw b k=e at*
 obtain⟨key,till,kind,text,list,scores,fields⟩:=e
 obtain⟨q1,q2,q3,q4,q5,q6,q7,q8,q9,q10⟩:=q
 dsimp only[Cv,Cm,Ck,Cz] at*
 generalize Bw b m=e2 at*
 obtain⟨key2,till2,kind2,text2,list2,scores2,fields2⟩:=e2
 obtain⟨_,_,qq,_,_,_,_,_,_,_⟩:=q'
 dsimp only at*
 have pv:=B5t list list2 (by omega) (by omega)
 generalize Btk list list2=ZV at*
 have p2:=Xo ZV
 simp(maxSteps:=1000000) [Ce,-List.getD_eq_getElem?_getD,-List.map_map,f168,p1,eN,eL,eP,eO,no,Bl,p9,pv,p2,Jh]
end Go.Proofs.YtpajcoanfkeibaaGreatDoor.Code

/- Lemmas (several texts in one). -/
import Derived.Test.YtjdmiodinhlchaaGreatMBasePut7
import Derived.Test.YtjdmiodinhlchaaGreatMBasePut23
set_option maxRecDepth 100000
set_option maxHeartbeats 2000000
set_option linter.unusedSimpArgs false
set_option linter.unusedVariables false
namespace Go.Proofs.YtjdmiodinhlchaaGreat.Code
open Go Go.Ev Go.Proofs
def Df (e:En) (kind:Int) (l:List Bp):En:=⟨e.key,e.till,kind,e.text,l,e.scores,e.fields⟩
def Ct (e:En) (kind:Int) (l:List Sc):En:=⟨e.key,e.till,kind,e.text,e.list,l,e.fields⟩
def Cs (e:En) (kind:Int) (l:List Pr):En:=⟨e.key,e.till,kind,e.text,e.list,e.scores,l⟩
def Sn (b:Ba) (k:Bp) (f:Bool) (ts:List Bp):Ba×Re:=if(Un (Ca b k).list f ts).2=true then Fq b (Df (Ca b k) 2 (Un (Ca b k).list f ts).1) (Dc (Un (Ca b k).list f ts).1.length) else(b,Du [108,111,110,103])
def Bb1 (b:Ba) (k:Bp) (f:Bool):Ba×Re:=if(Bcj (Ca b k).list f).2.2=true then Fq b (Df (Ca b k) (Ca b k).kind (Bcj (Ca b k).list f).1) (K8 (Bcj (Ca b k).list f).2.1) else(b,M5)
def Uk (b:Ba) (k:Bp):Ba×Re:=(b,Dc (Ca b k).list.length)
def Bdw (b:Ba) (k n t:Bp):Ba×Re:=if(Fe n).2=true then(if(Bic (Ca b k).list (Fe n).1 t).2=true then Fq b (Df (Ca b k) (Ca b k).kind (Bic (Ca b k).list (Fe n).1 t).1) Rw else(b,Du [112,108,97,99,101])) else(b,Du [110,117,109,98,101,114])
def Bdv (b:Ba) (k n t:Bp):Ba×Re:=if(Fe n).2=true then Fq b (Df (Ca b k) (Ca b k).kind (Zi (Ca b k).list (Fe n).1 t).1) (Dc (Zi (Ca b k).list (Fe n).1 t).2) else(b,Du [110,117,109,98,101,114])
def Tu (b:Ba) (k n m:Bp):Ba×Re:=if(Fe n).2=true∧(Fe m).2=true then(b,Jj (U4 (Ca b k).list (Fe n).1 (Fe m).1)) else(b,Du [110,117,109,98,101,114])
def Yh (b:Ba) (k n m:Bp):Ba×Re:=if(Fe n).2=true∧(Fe m).2=true then Fq b (Df (Ca b k) (Ca b k).kind (U4 (Ca b k).list (Fe n).1 (Fe m).1)) Rw else(b,Du [110,117,109,98,101,114])
theorem Bg4 (b:Ba) (k:Bp) (ts:List Bp) (hb:BaG b) (hk:k.length≤40) (hts:ts.length≤1000):Be (ev R) 111 [.d (Dx b), .d (Bf ([76,80,85,83,72]::k::ts))]=some (Bl (Sn b k true ts)):=Bb fun H=>by
 refine Bh (fn:=f111) rfl rfl ?_
 have p1:=G9 b k hb.sm
 have q:=Dz hb (t:=k) (by omega)
 unfold Sn
 have eN:=Bu [110,117,109,98,101,114]
 have eL:=Bu [108,111,110,103]
 have eP:=Bu [112,108,97,99,101]
 have eO:=Bu [110,111,110,101]
 have no:=Gj
 generalize Ca b k=e at*
 obtain⟨key,till,kind,text,list,scores,fields⟩:=e
 obtain⟨q1,q2,q3,q4,q5,q6,q7,q8,q9,q10⟩:=q
 dsimp only[Df,Ct,Cs,Dk] at*
 have c00: (0:Int)< (ts.length:Int)+1+1:=by omega
 have c01: (1:Int)< (ts.length:Int)+1+1:=by omega
 have c02: (0:Int)≤(ts.length:Int)+1+1:=by omega
 have c03: (2:Int)≤(ts.length:Int)+1+1:=by omega
 have vq:=Bna list true ts ⟨q3,q4⟩
 have pv:=Byh list true ts (by omega) (by omega)
 generalize Un list true ts=V at*
 obtain⟨vl,vo⟩:=V
 dsimp only at*
 have q:EnQ ⟨key,till,2,text,vl,scores,fields⟩:=⟨q1,q2,vq.1,vq.2,q5,q6,q7,q8,q9,by dsimp only;omega⟩
 have p2:=Jl vl.length
 have p3:=Ku b _ (Dc vl.length) hb.sm q.sm q.fit
 generalize Fq b ⟨key,till,2,text,vl,scores,fields⟩ (Dc vl.length)=P at*
 unfold Dc at p3
 cases vo
 ·simp(maxSteps:=1000000) [Cm,-List.getD_eq_getElem?_getD,-List.map_map,f111,p1,eN,eL,eP,eO,no,Bl,pv,Du,c00,c01,c02,c03]
 ·simp(maxSteps:=1000000) [Cm,-List.getD_eq_getElem?_getD,-List.map_map,f111,p1,eN,eL,eP,eO,no,Bl,pv,p2,p3,c00,c01,c02,c03]
theorem Bg6 (b:Ba) (k:Bp) (ts:List Bp) (hb:BaG b) (hk:k.length≤40) (hts:ts.length≤1000):Be (ev R) 111 [.d (Dx b), .d (Bf ([82,80,85,83,72]::k::ts))]=some (Bl (Sn b k false ts)):=Bb fun H=>by
 refine Bh (fn:=f111) rfl rfl ?_
 have p1:=G9 b k hb.sm
 have q:=Dz hb (t:=k) (by omega)
 unfold Sn
 have eN:=Bu [110,117,109,98,101,114]
 have eL:=Bu [108,111,110,103]
 have eP:=Bu [112,108,97,99,101]
 have eO:=Bu [110,111,110,101]
 have no:=Gj
 generalize Ca b k=e at*
 obtain⟨key,till,kind,text,list,scores,fields⟩:=e
 obtain⟨q1,q2,q3,q4,q5,q6,q7,q8,q9,q10⟩:=q
 dsimp only[Df,Ct,Cs,Dk] at*
 have c00: (0:Int)< (ts.length:Int)+1+1:=by omega
 have c01: (1:Int)< (ts.length:Int)+1+1:=by omega
 have c02: (0:Int)≤(ts.length:Int)+1+1:=by omega
 have c03: (2:Int)≤(ts.length:Int)+1+1:=by omega
 have vq:=Bna list false ts ⟨q3,q4⟩
 have pv:=Byh list false ts (by omega) (by omega)
 generalize Un list false ts=V at*
 obtain⟨vl,vo⟩:=V
 dsimp only at*
 have q:EnQ ⟨key,till,2,text,vl,scores,fields⟩:=⟨q1,q2,vq.1,vq.2,q5,q6,q7,q8,q9,by dsimp only;omega⟩
 have p2:=Jl vl.length
 have p3:=Ku b _ (Dc vl.length) hb.sm q.sm q.fit
 generalize Fq b ⟨key,till,2,text,vl,scores,fields⟩ (Dc vl.length)=P at*
 unfold Dc at p3
 cases vo
 ·simp(maxSteps:=1000000) [Cm,-List.getD_eq_getElem?_getD,-List.map_map,f111,p1,eN,eL,eP,eO,no,Bl,pv,Du,c00,c01,c02,c03]
 ·simp(maxSteps:=1000000) [Cm,-List.getD_eq_getElem?_getD,-List.map_map,f111,p1,eN,eL,eP,eO,no,Bl,pv,p2,p3,c00,c01,c02,c03]
theorem Bj7 (b:Ba) (k:Bp) (hb:BaG b) (hk:k.length≤40):Be (ev R) 111 [.d (Dx b), .d (Bf ([[76,80,79,80],k]))]=some (Bl (Bb1 b k true)):=Bb fun H=>by
 refine Bh (fn:=f111) rfl rfl ?_
 have p1:=G9 b k hb.sm
 have q:=Dz hb (t:=k) (by omega)
 unfold Bb1
 have eN:=Bu [110,117,109,98,101,114]
 have eL:=Bu [108,111,110,103]
 have eP:=Bu [112,108,97,99,101]
 have eO:=Bu [110,111,110,101]
 have no:=Gj
 generalize Ca b k=e at*
 obtain⟨key,till,kind,text,list,scores,fields⟩:=e
 obtain⟨q1,q2,q3,q4,q5,q6,q7,q8,q9,q10⟩:=q
 dsimp only[Df,Ct,Cs,Dk] at*
 have vq:=Bs6 list true ⟨q3,q4⟩
 have pv:=Byi list true (by omega)
 generalize Bcj list true=V at*
 obtain⟨vl,vs,vo⟩:=V
 dsimp only at*
 have q:EnQ ⟨key,till,kind,text,vl,scores,fields⟩:=⟨q1,q2,vq.1,vq.2,q5,q6,q7,q8,q9,by dsimp only;omega⟩
 have p2:=Bdn vs
 have p3:=Ku b _ (K8 vs) hb.sm q.sm q.fit
 generalize Fq b ⟨key,till,kind,text,vl,scores,fields⟩ (K8 vs)=P at*
 unfold K8 at p3
 cases vo
 ·simp(maxSteps:=1000000) [Cm,-List.getD_eq_getElem?_getD,-List.map_map,f111,p1,eN,eL,eP,eO,no,Bl,pv,M5]
 ·simp(maxSteps:=1000000) [Cm,-List.getD_eq_getElem?_getD,-List.map_map,f111,p1,eN,eL,eP,eO,no,Bl,pv,p2,p3]
theorem Bka (b:Ba) (k:Bp) (hb:BaG b) (hk:k.length≤40):Be (ev R) 111 [.d (Dx b), .d (Bf ([[82,80,79,80],k]))]=some (Bl (Bb1 b k false)):=Bb fun H=>by
 refine Bh (fn:=f111) rfl rfl ?_
 have p1:=G9 b k hb.sm
 have q:=Dz hb (t:=k) (by omega)
 unfold Bb1
 have eN:=Bu [110,117,109,98,101,114]
 have eL:=Bu [108,111,110,103]
 have eP:=Bu [112,108,97,99,101]
 have eO:=Bu [110,111,110,101]
 have no:=Gj
 generalize Ca b k=e at*
 obtain⟨key,till,kind,text,list,scores,fields⟩:=e
 obtain⟨q1,q2,q3,q4,q5,q6,q7,q8,q9,q10⟩:=q
 dsimp only[Df,Ct,Cs,Dk] at*
 have vq:=Bs6 list false ⟨q3,q4⟩
 have pv:=Byi list false (by omega)
 generalize Bcj list false=V at*
 obtain⟨vl,vs,vo⟩:=V
 dsimp only at*
 have q:EnQ ⟨key,till,kind,text,vl,scores,fields⟩:=⟨q1,q2,vq.1,vq.2,q5,q6,q7,q8,q9,by dsimp only;omega⟩
 have p2:=Bdn vs
 have p3:=Ku b _ (K8 vs) hb.sm q.sm q.fit
 generalize Fq b ⟨key,till,kind,text,vl,scores,fields⟩ (K8 vs)=P at*
 unfold K8 at p3
 cases vo
 ·simp(maxSteps:=1000000) [Cm,-List.getD_eq_getElem?_getD,-List.map_map,f111,p1,eN,eL,eP,eO,no,Bl,pv,M5]
 ·simp(maxSteps:=1000000) [Cm,-List.getD_eq_getElem?_getD,-List.map_map,f111,p1,eN,eL,eP,eO,no,Bl,pv,p2,p3]
theorem Bj6 (b:Ba) (k:Bp) (hb:BaG b) (hk:k.length≤40):Be (ev R) 111 [.d (Dx b), .d (Bf ([[76,76,69,78],k]))]=some (Bl (Uk b k)):=Bb fun H=>by
 refine Bh (fn:=f111) rfl rfl ?_
 have p1:=G9 b k hb.sm
 have q:=Dz hb (t:=k) (by omega)
 unfold Uk
 have eN:=Bu [110,117,109,98,101,114]
 have eL:=Bu [108,111,110,103]
 have eP:=Bu [112,108,97,99,101]
 have eO:=Bu [110,111,110,101]
 have no:=Gj
 generalize Ca b k=e at*
 obtain⟨key,till,kind,text,list,scores,fields⟩:=e
 obtain⟨q1,q2,q3,q4,q5,q6,q7,q8,q9,q10⟩:=q
 dsimp only[Df,Ct,Cs,Dk] at*
 have p2:=Jl list.length
 simp(maxSteps:=1000000) [Cm,-List.getD_eq_getElem?_getD,-List.map_map,f111,p1,eN,eL,eP,eO,no,Bl,p2,Dc]
theorem Bj9 (b:Ba) (k:Bp) (n:Bp) (t:Bp) (hb:BaG b) (hk:k.length≤40) (hn:n.length≤40) (ht:t.length≤40):Be (ev R) 111 [.d (Dx b), .d (Bf ([[76,83,69,84],k,n,t]))]=some (Bl (Bdw b k n t)):=Bb fun H=>by
 refine Bh (fn:=f111) rfl rfl ?_
 have p1:=G9 b k hb.sm
 have q:=Dz hb (t:=k) (by omega)
 unfold Bdw
 have eN:=Bu [110,117,109,98,101,114]
 have eL:=Bu [108,111,110,103]
 have eP:=Bu [112,108,97,99,101]
 have eO:=Bu [110,111,110,101]
 have no:=Gj
 generalize Ca b k=e at*
 obtain⟨key,till,kind,text,list,scores,fields⟩:=e
 obtain⟨q1,q2,q3,q4,q5,q6,q7,q8,q9,q10⟩:=q
 dsimp only[Df,Ct,Cs,Dk] at*
 have i0:=Ji n
 have pi0:=Lx n (by omega)
 generalize Fe n=I0 at*
 obtain⟨n0,o0⟩:=I0
 dsimp only at*
 have vq:=Bzz list n0 t ⟨q3,q4⟩
 have pv:=B4g list n0 t (by omega) ⟨by omega,by omega⟩
 generalize Bic list n0 t=V at*
 obtain⟨vl,vo⟩:=V
 dsimp only at*
 have q:EnQ ⟨key,till,kind,text,vl,scores,fields⟩:=⟨q1,q2,vq.1,vq.2,q5,q6,q7,q8,q9,by dsimp only;omega⟩
 have p3:=Ku b _ (Rw) hb.sm q.sm q.fit
 generalize Fq b ⟨key,till,kind,text,vl,scores,fields⟩ (Rw)=P at*
 unfold Rw at p3
 cases o0
 ·simp(maxSteps:=1000000) [Cm,-List.getD_eq_getElem?_getD,-List.map_map,f111,p1,eN,eL,eP,eO,no,Bl,pi0,Du]
 ·cases vo
  ·simp(maxSteps:=1000000) [Cm,-List.getD_eq_getElem?_getD,-List.map_map,f111,p1,eN,eL,eP,eO,no,Bl,pi0,pv,Du]
  ·simp(maxSteps:=1000000) [Cm,-List.getD_eq_getElem?_getD,-List.map_map,f111,p1,eN,eL,eP,eO,no,Bl,pi0,pv,p3]
theorem Bj8 (b:Ba) (k:Bp) (n:Bp) (t:Bp) (hb:BaG b) (hk:k.length≤40) (hn:n.length≤40) (ht:t.length≤40):Be (ev R) 111 [.d (Dx b), .d (Bf ([[76,82,69,77],k,n,t]))]=some (Bl (Bdv b k n t)):=Bb fun H=>by
 refine Bh (fn:=f111) rfl rfl ?_
 have p1:=G9 b k hb.sm
 have q:=Dz hb (t:=k) (by omega)
 unfold Bdv
 have eN:=Bu [110,117,109,98,101,114]
 have eL:=Bu [108,111,110,103]
 have eP:=Bu [112,108,97,99,101]
 have eO:=Bu [110,111,110,101]
 have no:=Gj
 generalize Ca b k=e at*
 obtain⟨key,till,kind,text,list,scores,fields⟩:=e
 obtain⟨q1,q2,q3,q4,q5,q6,q7,q8,q9,q10⟩:=q
 dsimp only[Df,Ct,Cs,Dk] at*
 have i0:=Ji n
 have pi0:=Lx n (by omega)
 generalize Fe n=I0 at*
 obtain⟨n0,o0⟩:=I0
 dsimp only at*
 have vq:=Bw0 list n0 t ⟨q3,q4⟩
 have pv:=B4h list n0 t (by omega)
 generalize Zi list n0 t=V at*
 obtain⟨vl,vo⟩:=V
 dsimp only at*
 have q:EnQ ⟨key,till,kind,text,vl,scores,fields⟩:=⟨q1,q2,vq.1,vq.2,q5,q6,q7,q8,q9,by dsimp only;omega⟩
 have p2:=Jl vo
 have p3:=Ku b _ (Dc vo) hb.sm q.sm q.fit
 generalize Fq b ⟨key,till,kind,text,vl,scores,fields⟩ (Dc vo)=P at*
 unfold Dc at p3
 cases o0
 ·simp(maxSteps:=1000000) [Cm,-List.getD_eq_getElem?_getD,-List.map_map,f111,p1,eN,eL,eP,eO,no,Bl,pi0,Du]
 ·simp(maxSteps:=1000000) [Cm,-List.getD_eq_getElem?_getD,-List.map_map,f111,p1,eN,eL,eP,eO,no,Bl,pi0,pv,p2,p3]
theorem Be4 (b:Ba) (k:Bp) (n:Bp) (m:Bp) (hb:BaG b) (hk:k.length≤40) (hn:n.length≤40) (hm:m.length≤40):Be (ev R) 111 [.d (Dx b), .d (Bf ([[76,82,65,78,71,69],k,n,m]))]=some (Bl (Tu b k n m)):=Bb fun H=>by
 refine Bh (fn:=f111) rfl rfl ?_
 have p1:=G9 b k hb.sm
 have q:=Dz hb (t:=k) (by omega)
 unfold Tu
 have eN:=Bu [110,117,109,98,101,114]
 have eL:=Bu [108,111,110,103]
 have eP:=Bu [112,108,97,99,101]
 have eO:=Bu [110,111,110,101]
 have no:=Gj
 generalize Ca b k=e at*
 obtain⟨key,till,kind,text,list,scores,fields⟩:=e
 obtain⟨q1,q2,q3,q4,q5,q6,q7,q8,q9,q10⟩:=q
 dsimp only[Df,Ct,Cs,Dk] at*
 have i0:=Ji n
 have pi0:=Lx n (by omega)
 have i1:=Ji m
 have pi1:=Lx m (by omega)
 generalize Fe n=I0 at*
 obtain⟨n0,o0⟩:=I0
 generalize Fe m=I1 at*
 obtain⟨n1,o1⟩:=I1
 dsimp only at*
 have pv:=Byj list n0 n1 (by omega)
 generalize U4 list n0 n1=ZV at*
 have p2:=Xb ZV
 cases o0<;>cases o1
 ·simp(maxSteps:=1000000) [Cm,-List.getD_eq_getElem?_getD,-List.map_map,f111,p1,eN,eL,eP,eO,no,Bl,pi0,pi1,Du]
 ·simp(maxSteps:=1000000) [Cm,-List.getD_eq_getElem?_getD,-List.map_map,f111,p1,eN,eL,eP,eO,no,Bl,pi0,pi1,Du]
 ·simp(maxSteps:=1000000) [Cm,-List.getD_eq_getElem?_getD,-List.map_map,f111,p1,eN,eL,eP,eO,no,Bl,pi0,pi1,Du]
 ·simp(maxSteps:=1000000) [Cm,-List.getD_eq_getElem?_getD,-List.map_map,f111,p1,eN,eL,eP,eO,no,Bl,pi0,pi1,pv,p2,Jj]
theorem Bg5 (b:Ba) (k:Bp) (n:Bp) (m:Bp) (hb:BaG b) (hk:k.length≤40) (hn:n.length≤40) (hm:m.length≤40):Be (ev R) 111 [.d (Dx b), .d (Bf ([[76,84,82,73,77],k,n,m]))]=some (Bl (Yh b k n m)):=Bb fun H=>by
 refine Bh (fn:=f111) rfl rfl ?_
 have p1:=G9 b k hb.sm
 have q:=Dz hb (t:=k) (by omega)
 unfold Yh
 have eN:=Bu [110,117,109,98,101,114]
 have eL:=Bu [108,111,110,103]
 have eP:=Bu [112,108,97,99,101]
 have eO:=Bu [110,111,110,101]
 have no:=Gj
 generalize Ca b k=e at*
 obtain⟨key,till,kind,text,list,scores,fields⟩:=e
 obtain⟨q1,q2,q3,q4,q5,q6,q7,q8,q9,q10⟩:=q
 dsimp only[Df,Ct,Cs,Dk] at*
 have i0:=Ji n
 have pi0:=Lx n (by omega)
 have i1:=Ji m
 have pi1:=Lx m (by omega)
 generalize Fe n=I0 at*
 obtain⟨n0,o0⟩:=I0
 generalize Fe m=I1 at*
 obtain⟨n1,o1⟩:=I1
 dsimp only at*
 have vq:=Bs7 list n0 n1 ⟨q3,q4⟩
 have pv:=Byj list n0 n1 (by omega)
 generalize U4 list n0 n1=ZV at*
 have q:EnQ ⟨key,till,kind,text,ZV,scores,fields⟩:=⟨q1,q2,vq.1,vq.2,q5,q6,q7,q8,q9,by dsimp only;omega⟩
 have p3:=Ku b _ (Rw) hb.sm q.sm q.fit
 generalize Fq b ⟨key,till,kind,text,ZV,scores,fields⟩ (Rw)=P at*
 unfold Rw at p3
 cases o0<;>cases o1
 ·simp(maxSteps:=1000000) [Cm,-List.getD_eq_getElem?_getD,-List.map_map,f111,p1,eN,eL,eP,eO,no,Bl,pi0,pi1,Du]
 ·simp(maxSteps:=1000000) [Cm,-List.getD_eq_getElem?_getD,-List.map_map,f111,p1,eN,eL,eP,eO,no,Bl,pi0,pi1,Du]
 ·simp(maxSteps:=1000000) [Cm,-List.getD_eq_getElem?_getD,-List.map_map,f111,p1,eN,eL,eP,eO,no,Bl,pi0,pi1,Du]
 ·simp(maxSteps:=1000000) [Cm,-List.getD_eq_getElem?_getD,-List.map_map,f111,p1,eN,eL,eP,eO,no,Bl,pi0,pi1,pv,p3]
def Bdx (b:Ba) (k:Bp) (ts:List Bp):Ba×Re:=if(Uo (Ca b k).list ts).2.2=true then Fq b (Df (Ca b k) 3 (Uo (Ca b k).list ts).1) (Dc (Uo (Ca b k).list ts).2.1) else(b,Du [108,111,110,103])
def Bdy (b:Ba) (k:Bp) (ts:List Bp):Ba×Re:=Fq b (Df (Ca b k) (Ca b k).kind (Td (Ca b k).list ts).1) (Dc (Td (Ca b k).list ts).2)
def Qn (b:Ba) (k:Bp):Ba×Re:=(b,Jj (Ca b k).list)
def Pe (b:Ba) (k t:Bp):Ba×Re:=(b,Jb (decide (t∈(Ca b k).list)))
def Xh (b:Ba) (k m:Bp):Ba×Re:=(b,Jj (Bs3 (Ca b k).list (Ca b m).list))
def Xk (b:Ba) (k m:Bp):Ba×Re:=(b,Jj (Bzy (Ca b k).list (Ca b m).list))
def Bb2 (b:Ba) (k m:Bp):Ba×Re:=(b,Jj (Bs5 (Ca b k).list (Ca b m).list))
theorem Bkb (b:Ba) (k:Bp) (ts:List Bp) (hb:BaG b) (hk:k.length≤40) (hts:ts.length≤1000):Be (ev R) 112 [.d (Dx b), .d (Bf ([83,65,68,68]::k::ts))]=some (Bl (Bdx b k ts)):=Bb fun H=>by
 refine Bh (fn:=f112) rfl rfl ?_
 have p1:=G9 b k hb.sm
 have q:=Dz hb (t:=k) (by omega)
 unfold Bdx
 have eN:=Bu [110,117,109,98,101,114]
 have eL:=Bu [108,111,110,103]
 have eP:=Bu [112,108,97,99,101]
 have eO:=Bu [110,111,110,101]
 have no:=Gj
 generalize Ca b k=e at*
 obtain⟨key,till,kind,text,list,scores,fields⟩:=e
 obtain⟨q1,q2,q3,q4,q5,q6,q7,q8,q9,q10⟩:=q
 dsimp only[Df,Ct,Cs,Dk] at*
 have c00: (0:Int)< (ts.length:Int)+1+1:=by omega
 have c01: (1:Int)< (ts.length:Int)+1+1:=by omega
 have c02: (0:Int)≤(ts.length:Int)+1+1:=by omega
 have c03: (2:Int)≤(ts.length:Int)+1+1:=by omega
 have vq:=Bw1 list ts ⟨q3,q4⟩
 have pv:=B4i list ts (by omega) (by omega)
 generalize Uo list ts=V at*
 obtain⟨vl,vn,vo⟩:=V
 dsimp only at*
 have q:EnQ ⟨key,till,3,text,vl,scores,fields⟩:=⟨q1,q2,vq.1,vq.2,q5,q6,q7,q8,q9,by dsimp only;omega⟩
 have p2:=Jl vn
 have p3:=Ku b _ (Dc vn) hb.sm q.sm q.fit
 generalize Fq b ⟨key,till,3,text,vl,scores,fields⟩ (Dc vn)=P at*
 unfold Dc at p3
 cases vo
 ·simp(maxSteps:=1000000) [Cm,-List.getD_eq_getElem?_getD,-List.map_map,f112,p1,eN,eL,eP,eO,no,Bl,pv,Du,c00,c01,c02,c03]
 ·simp(maxSteps:=1000000) [Cm,-List.getD_eq_getElem?_getD,-List.map_map,f112,p1,eN,eL,eP,eO,no,Bl,pv,p2,p3,c00,c01,c02,c03]
theorem Bkc (b:Ba) (k:Bp) (ts:List Bp) (hb:BaG b) (hk:k.length≤40) (hts:ts.length≤1000):Be (ev R) 112 [.d (Dx b), .d (Bf ([83,82,69,77]::k::ts))]=some (Bl (Bdy b k ts)):=Bb fun H=>by
 refine Bh (fn:=f112) rfl rfl ?_
 have p1:=G9 b k hb.sm
 have q:=Dz hb (t:=k) (by omega)
 unfold Bdy
 have eN:=Bu [110,117,109,98,101,114]
 have eL:=Bu [108,111,110,103]
 have eP:=Bu [112,108,97,99,101]
 have eO:=Bu [110,111,110,101]
 have no:=Gj
 generalize Ca b k=e at*
 obtain⟨key,till,kind,text,list,scores,fields⟩:=e
 obtain⟨q1,q2,q3,q4,q5,q6,q7,q8,q9,q10⟩:=q
 dsimp only[Df,Ct,Cs,Dk] at*
 have c00: (0:Int)< (ts.length:Int)+1+1:=by omega
 have c01: (1:Int)< (ts.length:Int)+1+1:=by omega
 have c02: (0:Int)≤(ts.length:Int)+1+1:=by omega
 have c03: (2:Int)≤(ts.length:Int)+1+1:=by omega
 have vq:=Bs8 list ts ⟨q3,q4⟩
 have pv:=B4j list ts (by omega) (by omega)
 generalize Td list ts=V at*
 obtain⟨vl,vn⟩:=V
 dsimp only at*
 have q:EnQ ⟨key,till,kind,text,vl,scores,fields⟩:=⟨q1,q2,vq.1,vq.2,q5,q6,q7,q8,q9,by dsimp only;omega⟩
 have p2:=Jl vn
 have p3:=Ku b _ (Dc vn) hb.sm q.sm q.fit
 generalize Fq b ⟨key,till,kind,text,vl,scores,fields⟩ (Dc vn)=P at*
 unfold Dc at p3
 simp(maxSteps:=1000000) [Cm,-List.getD_eq_getElem?_getD,-List.map_map,f112,p1,eN,eL,eP,eO,no,Bl,pv,p2,p3,c00,c01,c02,c03]
theorem Bbu (b:Ba) (k:Bp) (hb:BaG b) (hk:k.length≤40):Be (ev R) 112 [.d (Dx b), .d (Bf ([[83,77,69,77,66,69,82,83],k]))]=some (Bl (Qn b k)):=Bb fun H=>by
 refine Bh (fn:=f112) rfl rfl ?_
 have p1:=G9 b k hb.sm
 have q:=Dz hb (t:=k) (by omega)
 unfold Qn
 have eN:=Bu [110,117,109,98,101,114]
 have eL:=Bu [108,111,110,103]
 have eP:=Bu [112,108,97,99,101]
 have eO:=Bu [110,111,110,101]
 have no:=Gj
 generalize Ca b k=e at*
 obtain⟨key,till,kind,text,list,scores,fields⟩:=e
 obtain⟨q1,q2,q3,q4,q5,q6,q7,q8,q9,q10⟩:=q
 dsimp only[Df,Ct,Cs,Dk] at*
 have p2:=Xb list
 simp(maxSteps:=1000000) [Cm,-List.getD_eq_getElem?_getD,-List.map_map,f112,p1,eN,eL,eP,eO,no,Bl,p2,Jj]
theorem Bg7 (b:Ba) (k:Bp) (hb:BaG b) (hk:k.length≤40):Be (ev R) 112 [.d (Dx b), .d (Bf ([[83,67,65,82,68],k]))]=some (Bl (Uk b k)):=Bb fun H=>by
 refine Bh (fn:=f112) rfl rfl ?_
 have p1:=G9 b k hb.sm
 have q:=Dz hb (t:=k) (by omega)
 unfold Uk
 have eN:=Bu [110,117,109,98,101,114]
 have eL:=Bu [108,111,110,103]
 have eP:=Bu [112,108,97,99,101]
 have eO:=Bu [110,111,110,101]
 have no:=Gj
 generalize Ca b k=e at*
 obtain⟨key,till,kind,text,list,scores,fields⟩:=e
 obtain⟨q1,q2,q3,q4,q5,q6,q7,q8,q9,q10⟩:=q
 dsimp only[Df,Ct,Cs,Dk] at*
 have p2:=Jl list.length
 simp(maxSteps:=1000000) [Cm,-List.getD_eq_getElem?_getD,-List.map_map,f112,p1,eN,eL,eP,eO,no,Bl,p2,Dc]
theorem Zq (b:Ba) (k:Bp) (t:Bp) (hb:BaG b) (hk:k.length≤40) (ht:t.length≤40):Be (ev R) 112 [.d (Dx b), .d (Bf ([[83,73,83,77,69,77,66,69,82],k,t]))]=some (Bl (Pe b k t)):=Bb fun H=>by
 refine Bh (fn:=f112) rfl rfl ?_
 have p1:=G9 b k hb.sm
 have q:=Dz hb (t:=k) (by omega)
 unfold Pe
 have eN:=Bu [110,117,109,98,101,114]
 have eL:=Bu [108,111,110,103]
 have eP:=Bu [112,108,97,99,101]
 have eO:=Bu [110,111,110,101]
 have no:=Gj
 generalize Ca b k=e at*
 obtain⟨key,till,kind,text,list,scores,fields⟩:=e
 obtain⟨q1,q2,q3,q4,q5,q6,q7,q8,q9,q10⟩:=q
 dsimp only[Df,Ct,Cs,Dk] at*
 have pv:=Bhc list t (by omega)
 generalize decide (t∈list)=ZV at*
 have p2:=Bdo ZV
 simp(maxSteps:=1000000) [Cm,-List.getD_eq_getElem?_getD,-List.map_map,f112,p1,eN,eL,eP,eO,no,Bl,pv,p2]
theorem Be5 (b:Ba) (k:Bp) (m:Bp) (hb:BaG b) (hk:k.length≤40) (hm:m.length≤40):Be (ev R) 112 [.d (Dx b), .d (Bf ([[83,73,78,84,69,82],k,m]))]=some (Bl (Xh b k m)):=Bb fun H=>by
 have p9:=G9 b m hb.sm
 have q':=Dz hb (t:=m) (by omega)
 refine Bh (fn:=f112) rfl rfl ?_
 have p1:=G9 b k hb.sm
 have q:=Dz hb (t:=k) (by omega)
 unfold Xh
 have eN:=Bu [110,117,109,98,101,114]
 have eL:=Bu [108,111,110,103]
 have eP:=Bu [112,108,97,99,101]
 have eO:=Bu [110,111,110,101]
 have no:=Gj
 generalize Ca b k=e at*
 obtain⟨key,till,kind,text,list,scores,fields⟩:=e
 obtain⟨q1,q2,q3,q4,q5,q6,q7,q8,q9,q10⟩:=q
 dsimp only[Df,Ct,Cs,Dk] at*
 generalize Ca b m=e2 at*
 obtain⟨key2,till2,kind2,text2,list2,scores2,fields2⟩:=e2
 obtain⟨_,_,qq,_,_,_,_,_,_,_⟩:=q'
 dsimp only at*
 have pv:=B4k list list2 (by omega) (by omega)
 generalize Bs3 list list2=ZV at*
 have p2:=Xb ZV
 simp(maxSteps:=1000000) [Cm,-List.getD_eq_getElem?_getD,-List.map_map,f112,p1,eN,eL,eP,eO,no,Bl,p9,pv,p2,Jj]
theorem Be6 (b:Ba) (k:Bp) (m:Bp) (hb:BaG b) (hk:k.length≤40) (hm:m.length≤40):Be (ev R) 112 [.d (Dx b), .d (Bf ([[83,85,78,73,79,78],k,m]))]=some (Bl (Xk b k m)):=Bb fun H=>by
 have p9:=G9 b m hb.sm
 have q':=Dz hb (t:=m) (by omega)
 refine Bh (fn:=f112) rfl rfl ?_
 have p1:=G9 b k hb.sm
 have q:=Dz hb (t:=k) (by omega)
 unfold Xk
 have eN:=Bu [110,117,109,98,101,114]
 have eL:=Bu [108,111,110,103]
 have eP:=Bu [112,108,97,99,101]
 have eO:=Bu [110,111,110,101]
 have no:=Gj
 generalize Ca b k=e at*
 obtain⟨key,till,kind,text,list,scores,fields⟩:=e
 obtain⟨q1,q2,q3,q4,q5,q6,q7,q8,q9,q10⟩:=q
 dsimp only[Df,Ct,Cs,Dk] at*
 generalize Ca b m=e2 at*
 obtain⟨key2,till2,kind2,text2,list2,scores2,fields2⟩:=e2
 obtain⟨_,_,qq,_,_,_,_,_,_,_⟩:=q'
 dsimp only at*
 have pv:=B4l list list2 (by omega) (by omega)
 generalize Bzy list list2=ZV at*
 have p2:=Xb ZV
 simp(maxSteps:=1000000) [Cm,-List.getD_eq_getElem?_getD,-List.map_map,f112,p1,eN,eL,eP,eO,no,Bl,p9,pv,p2,Jj]
theorem Bg8 (b:Ba) (k:Bp) (m:Bp) (hb:BaG b) (hk:k.length≤40) (hm:m.length≤40):Be (ev R) 112 [.d (Dx b), .d (Bf ([[83,68,73,70,70],k,m]))]=some (Bl (Bb2 b k m)):=Bb fun H=>by
 have p9:=G9 b m hb.sm
 have q':=Dz hb (t:=m) (by omega)
 refine Bh (fn:=f112) rfl rfl ?_
 have p1:=G9 b k hb.sm
 have q:=Dz hb (t:=k) (by omega)
 unfold Bb2
 have eN:=Bu [110,117,109,98,101,114]
 have eL:=Bu [108,111,110,103]
 have eP:=Bu [112,108,97,99,101]
 have eO:=Bu [110,111,110,101]
 have no:=Gj
 generalize Ca b k=e at*
 obtain⟨key,till,kind,text,list,scores,fields⟩:=e
 obtain⟨q1,q2,q3,q4,q5,q6,q7,q8,q9,q10⟩:=q
 dsimp only[Df,Ct,Cs,Dk] at*
 generalize Ca b m=e2 at*
 obtain⟨key2,till2,kind2,text2,list2,scores2,fields2⟩:=e2
 obtain⟨_,_,qq,_,_,_,_,_,_,_⟩:=q'
 dsimp only at*
 have pv:=B4m list list2 (by omega) (by omega)
 generalize Bs5 list list2=ZV at*
 have p2:=Xb ZV
 simp(maxSteps:=1000000) [Cm,-List.getD_eq_getElem?_getD,-List.map_map,f112,p1,eN,eL,eP,eO,no,Bl,p9,pv,p2,Jj]
end Go.Proofs.YtjdmiodinhlchaaGreat.Code

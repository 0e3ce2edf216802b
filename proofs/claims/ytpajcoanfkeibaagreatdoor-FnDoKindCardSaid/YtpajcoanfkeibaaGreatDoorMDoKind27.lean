/- Lemmas (several texts in one). -/
import Derived.Test.YtpajcoanfkeibaaGreatDoorMDoKind6
import Derived.Test.YtpajcoanfkeibaaGreatDoorMDoKind26
set_option maxRecDepth 100000
set_option maxHeartbeats 2000000
set_option linter.unusedSimpArgs false
set_option linter.unusedVariables false
open List renaming getD_eq_getElem?_getD → Cda, map_map → Cdb
namespace Go.Proofs.YtpajcoanfkeibaaGreatDoor.Code
open Go Go.Ev Go.Proofs
def Cv (e:En) (kind:Int) (l:List Br):En:=⟨e.key,e.till,kind,e.text,l,e.scores,e.fields⟩
def Ck (e:En) (kind:Int) (l:List Sc):En:=⟨e.key,e.till,kind,e.text,e.list,l,e.fields⟩
def Cj (e:En) (kind:Int) (l:List Pr):En:=⟨e.key,e.till,kind,e.text,e.list,e.scores,l⟩
def Ti (b:Ba) (k:Br) (f:Bool) (ts:List Br):Ba×Re:=if(U3 (Bz b k).list f ts).2=true then Fe b (Cv (Bz b k) 2 (U3 (Bz b k).list f ts).1) (Cs (U3 (Bz b k).list f ts).1.length) else(b,Di [108,111,110,103])
def Bcp (b:Ba) (k:Br) (f:Bool):Ba×Re:=if(Bda (Bz b k).list f).2.2=true then Fe b (Cv (Bz b k) (Bz b k).kind (Bda (Bz b k).list f).1) (K8 (Bda (Bz b k).list f).2.1) else(b,Nb)
def Uz (b:Ba) (k:Br):Ba×Re:=(b,Cs (Bz b k).list.length)
def Bew (b:Ba) (k n t:Br):Ba×Re:=if(Dw n).2=true then(if(Bjl (Bz b k).list (Dw n).1 t).2=true then Fe b (Cv (Bz b k) (Bz b k).kind (Bjl (Bz b k).list (Dw n).1 t).1) Sa else(b,Di [112,108,97,99,101])) else(b,Di [110,117,109,98,101,114])
def Bev (b:Ba) (k n t:Br):Ba×Re:=if(Dw n).2=true then Fe b (Cv (Bz b k) (Bz b k).kind (Baa (Bz b k).list (Dw n).1 t).1) (Cs (Baa (Bz b k).list (Dw n).1 t).2) else(b,Di [110,117,109,98,101,114])
def Uj (b:Ba) (k n m:Br):Ba×Re:=if(Dw n).2=true∧(Dw m).2=true then(b,Je (Wu (Bz b k).list (Dw n).1 (Dw m).1)) else(b,Di [110,117,109,98,101,114])
def Y6 (b:Ba) (k n m:Br):Ba×Re:=if(Dw n).2=true∧(Dw m).2=true then Fe b (Cv (Bz b k) (Bz b k).kind (Wu (Bz b k).list (Dw n).1 (Dw m).1)) Sa else(b,Di [110,117,109,98,101,114])
theorem Bid (b:Ba) (k:Br) (ts:List Br) (hb:BaG b) (hk:k.length≤40) (hts:ts.length≤1000):Be (ev R) 167 [.d (Df b), .d (Bf ([76,80,85,83,72]::k::ts))]=some (Bo (Ti b k true ts)):=Bb fun H=>by
 refine Bh (fn:=f167) rfl rfl ?_
 have p1:=Gv b k hb.sm
 have q:=Dn hb (t:=k) (by omega)
 unfold Ti
 have eN:=Bu [110,117,109,98,101,114]
 have eL:=Bu [108,111,110,103]
 have eP:=Bu [112,108,97,99,101]
 have eO:=Bu [110,111,110,101]
 have no:=Gh
 generalize Bz b k=e at*
 obtain⟨key,till,kind,text,list,scores,fields⟩:=e
 obtain⟨q1,q2,q3,q4,q5,q6,q7,q8,q9,q10⟩:=q
 dsimp only[Cv,Ck,Cj,Cz] at*
 have c00: (0:Int)< (ts.length:Int)+1+1:=by omega
 have c01: (1:Int)< (ts.length:Int)+1+1:=by omega
 have c02: (0:Int)≤(ts.length:Int)+1+1:=by omega
 have c03: (2:Int)≤(ts.length:Int)+1+1:=by omega
 have vq:=Bof list true ts ⟨q3,q4⟩
 have pv:=B0d list true ts (by omega) (by omega)
 generalize U3 list true ts=V at*
 obtain⟨vl,vo⟩:=V
 dsimp only at*
 have q:EnQ ⟨key,till,2,text,vl,scores,fields⟩:=⟨q1,q2,vq.1,vq.2,q5,q6,q7,q8,q9,by dsimp only;omega⟩
 have p2:=Jf vl.length
 have p3:=Kt b _ (Cs vl.length) hb.sm q.sm q.fit
 generalize Fe b ⟨key,till,2,text,vl,scores,fields⟩ (Cs vl.length)=P at*
 unfold Cs at p3
 cases vo
 ·simp(maxSteps:=1000000) [Ci,-Cda,-Cdb,f167,p1,eN,eL,eP,eO,no,Bo,pv,Di,c00,c01,c02,c03]
 ·simp(maxSteps:=1000000) [Ci,-Cda,-Cdb,f167,p1,eN,eL,eP,eO,no,Bo,pv,p2,p3,c00,c01,c02,c03]
theorem Bif (b:Ba) (k:Br) (ts:List Br) (hb:BaG b) (hk:k.length≤40) (hts:ts.length≤1000):Be (ev R) 167 [.d (Df b), .d (Bf ([82,80,85,83,72]::k::ts))]=some (Bo (Ti b k false ts)):=Bb fun H=>by
 refine Bh (fn:=f167) rfl rfl ?_
 have p1:=Gv b k hb.sm
 have q:=Dn hb (t:=k) (by omega)
 unfold Ti
 have eN:=Bu [110,117,109,98,101,114]
 have eL:=Bu [108,111,110,103]
 have eP:=Bu [112,108,97,99,101]
 have eO:=Bu [110,111,110,101]
 have no:=Gh
 generalize Bz b k=e at*
 obtain⟨key,till,kind,text,list,scores,fields⟩:=e
 obtain⟨q1,q2,q3,q4,q5,q6,q7,q8,q9,q10⟩:=q
 dsimp only[Cv,Ck,Cj,Cz] at*
 have c00: (0:Int)< (ts.length:Int)+1+1:=by omega
 have c01: (1:Int)< (ts.length:Int)+1+1:=by omega
 have c02: (0:Int)≤(ts.length:Int)+1+1:=by omega
 have c03: (2:Int)≤(ts.length:Int)+1+1:=by omega
 have vq:=Bof list false ts ⟨q3,q4⟩
 have pv:=B0d list false ts (by omega) (by omega)
 generalize U3 list false ts=V at*
 obtain⟨vl,vo⟩:=V
 dsimp only at*
 have q:EnQ ⟨key,till,2,text,vl,scores,fields⟩:=⟨q1,q2,vq.1,vq.2,q5,q6,q7,q8,q9,by dsimp only;omega⟩
 have p2:=Jf vl.length
 have p3:=Kt b _ (Cs vl.length) hb.sm q.sm q.fit
 generalize Fe b ⟨key,till,2,text,vl,scores,fields⟩ (Cs vl.length)=P at*
 unfold Cs at p3
 cases vo
 ·simp(maxSteps:=1000000) [Ci,-Cda,-Cdb,f167,p1,eN,eL,eP,eO,no,Bo,pv,Di,c00,c01,c02,c03]
 ·simp(maxSteps:=1000000) [Ci,-Cda,-Cdb,f167,p1,eN,eL,eP,eO,no,Bo,pv,p2,p3,c00,c01,c02,c03]
theorem Blc (b:Ba) (k:Br) (hb:BaG b) (hk:k.length≤40):Be (ev R) 167 [.d (Df b), .d (Bf ([[76,80,79,80],k]))]=some (Bo (Bcp b k true)):=Bb fun H=>by
 refine Bh (fn:=f167) rfl rfl ?_
 have p1:=Gv b k hb.sm
 have q:=Dn hb (t:=k) (by omega)
 unfold Bcp
 have eN:=Bu [110,117,109,98,101,114]
 have eL:=Bu [108,111,110,103]
 have eP:=Bu [112,108,97,99,101]
 have eO:=Bu [110,111,110,101]
 have no:=Gh
 generalize Bz b k=e at*
 obtain⟨key,till,kind,text,list,scores,fields⟩:=e
 obtain⟨q1,q2,q3,q4,q5,q6,q7,q8,q9,q10⟩:=q
 dsimp only[Cv,Ck,Cj,Cz] at*
 have vq:=Buo list true ⟨q3,q4⟩
 have pv:=B0e list true (by omega)
 generalize Bda list true=V at*
 obtain⟨vl,vs,vo⟩:=V
 dsimp only at*
 have q:EnQ ⟨key,till,kind,text,vl,scores,fields⟩:=⟨q1,q2,vq.1,vq.2,q5,q6,q7,q8,q9,by dsimp only;omega⟩
 have p2:=Ben vs
 have p3:=Kt b _ (K8 vs) hb.sm q.sm q.fit
 generalize Fe b ⟨key,till,kind,text,vl,scores,fields⟩ (K8 vs)=P at*
 unfold K8 at p3
 cases vo
 ·simp(maxSteps:=1000000) [Ci,-Cda,-Cdb,f167,p1,eN,eL,eP,eO,no,Bo,pv,Nb]
 ·simp(maxSteps:=1000000) [Ci,-Cda,-Cdb,f167,p1,eN,eL,eP,eO,no,Bo,pv,p2,p3]
theorem Blf (b:Ba) (k:Br) (hb:BaG b) (hk:k.length≤40):Be (ev R) 167 [.d (Df b), .d (Bf ([[82,80,79,80],k]))]=some (Bo (Bcp b k false)):=Bb fun H=>by
 refine Bh (fn:=f167) rfl rfl ?_
 have p1:=Gv b k hb.sm
 have q:=Dn hb (t:=k) (by omega)
 unfold Bcp
 have eN:=Bu [110,117,109,98,101,114]
 have eL:=Bu [108,111,110,103]
 have eP:=Bu [112,108,97,99,101]
 have eO:=Bu [110,111,110,101]
 have no:=Gh
 generalize Bz b k=e at*
 obtain⟨key,till,kind,text,list,scores,fields⟩:=e
 obtain⟨q1,q2,q3,q4,q5,q6,q7,q8,q9,q10⟩:=q
 dsimp only[Cv,Ck,Cj,Cz] at*
 have vq:=Buo list false ⟨q3,q4⟩
 have pv:=B0e list false (by omega)
 generalize Bda list false=V at*
 obtain⟨vl,vs,vo⟩:=V
 dsimp only at*
 have q:EnQ ⟨key,till,kind,text,vl,scores,fields⟩:=⟨q1,q2,vq.1,vq.2,q5,q6,q7,q8,q9,by dsimp only;omega⟩
 have p2:=Ben vs
 have p3:=Kt b _ (K8 vs) hb.sm q.sm q.fit
 generalize Fe b ⟨key,till,kind,text,vl,scores,fields⟩ (K8 vs)=P at*
 unfold K8 at p3
 cases vo
 ·simp(maxSteps:=1000000) [Ci,-Cda,-Cdb,f167,p1,eN,eL,eP,eO,no,Bo,pv,Nb]
 ·simp(maxSteps:=1000000) [Ci,-Cda,-Cdb,f167,p1,eN,eL,eP,eO,no,Bo,pv,p2,p3]
theorem Blb (b:Ba) (k:Br) (hb:BaG b) (hk:k.length≤40):Be (ev R) 167 [.d (Df b), .d (Bf ([[76,76,69,78],k]))]=some (Bo (Uz b k)):=Bb fun H=>by
 refine Bh (fn:=f167) rfl rfl ?_
 have p1:=Gv b k hb.sm
 have q:=Dn hb (t:=k) (by omega)
 unfold Uz
 have eN:=Bu [110,117,109,98,101,114]
 have eL:=Bu [108,111,110,103]
 have eP:=Bu [112,108,97,99,101]
 have eO:=Bu [110,111,110,101]
 have no:=Gh
 generalize Bz b k=e at*
 obtain⟨key,till,kind,text,list,scores,fields⟩:=e
 obtain⟨q1,q2,q3,q4,q5,q6,q7,q8,q9,q10⟩:=q
 dsimp only[Cv,Ck,Cj,Cz] at*
 have p2:=Jf list.length
 simp(maxSteps:=1000000) [Ci,-Cda,-Cdb,f167,p1,eN,eL,eP,eO,no,Bo,p2,Cs]
theorem Ble (b:Ba) (k:Br) (n:Br) (t:Br) (hb:BaG b) (hk:k.length≤40) (hn:n.length≤40) (ht:t.length≤40):Be (ev R) 167 [.d (Df b), .d (Bf ([[76,83,69,84],k,n,t]))]=some (Bo (Bew b k n t)):=Bb fun H=>by
 refine Bh (fn:=f167) rfl rfl ?_
 have p1:=Gv b k hb.sm
 have q:=Dn hb (t:=k) (by omega)
 unfold Bew
 have eN:=Bu [110,117,109,98,101,114]
 have eL:=Bu [108,111,110,103]
 have eP:=Bu [112,108,97,99,101]
 have eO:=Bu [110,111,110,101]
 have no:=Gh
 generalize Bz b k=e at*
 obtain⟨key,till,kind,text,list,scores,fields⟩:=e
 obtain⟨q1,q2,q3,q4,q5,q6,q7,q8,q9,q10⟩:=q
 dsimp only[Cv,Ck,Cj,Cz] at*
 have i0:=Jd n
 have pi0:=Md n (by omega)
 generalize Dw n=I0 at*
 obtain⟨n0,o0⟩:=I0
 dsimp only at*
 have vq:=B1r list n0 t ⟨q3,q4⟩
 have pv:=B7k list n0 t (by omega) ⟨by omega,by omega⟩
 generalize Bjl list n0 t=V at*
 obtain⟨vl,vo⟩:=V
 dsimp only at*
 have q:EnQ ⟨key,till,kind,text,vl,scores,fields⟩:=⟨q1,q2,vq.1,vq.2,q5,q6,q7,q8,q9,by dsimp only;omega⟩
 have p3:=Kt b _ (Sa) hb.sm q.sm q.fit
 generalize Fe b ⟨key,till,kind,text,vl,scores,fields⟩ (Sa)=P at*
 unfold Sa at p3
 cases o0
 ·simp(maxSteps:=1000000) [Ci,-Cda,-Cdb,f167,p1,eN,eL,eP,eO,no,Bo,pi0,Di]
 ·cases vo
  ·simp(maxSteps:=1000000) [Ci,-Cda,-Cdb,f167,p1,eN,eL,eP,eO,no,Bo,pi0,pv,Di]
  ·simp(maxSteps:=1000000) [Ci,-Cda,-Cdb,f167,p1,eN,eL,eP,eO,no,Bo,pi0,pv,p3]
theorem Bld (b:Ba) (k:Br) (n:Br) (t:Br) (hb:BaG b) (hk:k.length≤40) (hn:n.length≤40) (ht:t.length≤40):Be (ev R) 167 [.d (Df b), .d (Bf ([[76,82,69,77],k,n,t]))]=some (Bo (Bev b k n t)):=Bb fun H=>by
 refine Bh (fn:=f167) rfl rfl ?_
 have p1:=Gv b k hb.sm
 have q:=Dn hb (t:=k) (by omega)
 unfold Bev
 have eN:=Bu [110,117,109,98,101,114]
 have eL:=Bu [108,111,110,103]
 have eP:=Bu [112,108,97,99,101]
 have eO:=Bu [110,111,110,101]
 have no:=Gh
 generalize Bz b k=e at*
 obtain⟨key,till,kind,text,list,scores,fields⟩:=e
 obtain⟨q1,q2,q3,q4,q5,q6,q7,q8,q9,q10⟩:=q
 dsimp only[Cv,Ck,Cj,Cz] at*
 have i0:=Jd n
 have pi0:=Md n (by omega)
 generalize Dw n=I0 at*
 obtain⟨n0,o0⟩:=I0
 dsimp only at*
 have vq:=Byo list n0 t ⟨q3,q4⟩
 have pv:=B7l list n0 t (by omega)
 generalize Baa list n0 t=V at*
 obtain⟨vl,vo⟩:=V
 dsimp only at*
 have q:EnQ ⟨key,till,kind,text,vl,scores,fields⟩:=⟨q1,q2,vq.1,vq.2,q5,q6,q7,q8,q9,by dsimp only;omega⟩
 have p2:=Jf vo
 have p3:=Kt b _ (Cs vo) hb.sm q.sm q.fit
 generalize Fe b ⟨key,till,kind,text,vl,scores,fields⟩ (Cs vo)=P at*
 unfold Cs at p3
 cases o0
 ·simp(maxSteps:=1000000) [Ci,-Cda,-Cdb,f167,p1,eN,eL,eP,eO,no,Bo,pi0,Di]
 ·simp(maxSteps:=1000000) [Ci,-Cda,-Cdb,f167,p1,eN,eL,eP,eO,no,Bo,pi0,pv,p2,p3]
theorem Bf9 (b:Ba) (k:Br) (n:Br) (m:Br) (hb:BaG b) (hk:k.length≤40) (hn:n.length≤40) (hm:m.length≤40):Be (ev R) 167 [.d (Df b), .d (Bf ([[76,82,65,78,71,69],k,n,m]))]=some (Bo (Uj b k n m)):=Bb fun H=>by
 refine Bh (fn:=f167) rfl rfl ?_
 have p1:=Gv b k hb.sm
 have q:=Dn hb (t:=k) (by omega)
 unfold Uj
 have eN:=Bu [110,117,109,98,101,114]
 have eL:=Bu [108,111,110,103]
 have eP:=Bu [112,108,97,99,101]
 have eO:=Bu [110,111,110,101]
 have no:=Gh
 generalize Bz b k=e at*
 obtain⟨key,till,kind,text,list,scores,fields⟩:=e
 obtain⟨q1,q2,q3,q4,q5,q6,q7,q8,q9,q10⟩:=q
 dsimp only[Cv,Ck,Cj,Cz] at*
 have i0:=Jd n
 have pi0:=Md n (by omega)
 have i1:=Jd m
 have pi1:=Md m (by omega)
 generalize Dw n=I0 at*
 obtain⟨n0,o0⟩:=I0
 generalize Dw m=I1 at*
 obtain⟨n1,o1⟩:=I1
 dsimp only at*
 have pv:=B0f list n0 n1 (by omega)
 generalize Wu list n0 n1=ZV at*
 have p2:=Xx ZV
 cases o0<;>cases o1
 ·simp(maxSteps:=1000000) [Ci,-Cda,-Cdb,f167,p1,eN,eL,eP,eO,no,Bo,pi0,pi1,Di]
 ·simp(maxSteps:=1000000) [Ci,-Cda,-Cdb,f167,p1,eN,eL,eP,eO,no,Bo,pi0,pi1,Di]
 ·simp(maxSteps:=1000000) [Ci,-Cda,-Cdb,f167,p1,eN,eL,eP,eO,no,Bo,pi0,pi1,Di]
 ·simp(maxSteps:=1000000) [Ci,-Cda,-Cdb,f167,p1,eN,eL,eP,eO,no,Bo,pi0,pi1,pv,p2,Je]
theorem Bie (b:Ba) (k:Br) (n:Br) (m:Br) (hb:BaG b) (hk:k.length≤40) (hn:n.length≤40) (hm:m.length≤40):Be (ev R) 167 [.d (Df b), .d (Bf ([[76,84,82,73,77],k,n,m]))]=some (Bo (Y6 b k n m)):=Bb fun H=>by
 refine Bh (fn:=f167) rfl rfl ?_
 have p1:=Gv b k hb.sm
 have q:=Dn hb (t:=k) (by omega)
 unfold Y6
 have eN:=Bu [110,117,109,98,101,114]
 have eL:=Bu [108,111,110,103]
 have eP:=Bu [112,108,97,99,101]
 have eO:=Bu [110,111,110,101]
 have no:=Gh
 generalize Bz b k=e at*
 obtain⟨key,till,kind,text,list,scores,fields⟩:=e
 obtain⟨q1,q2,q3,q4,q5,q6,q7,q8,q9,q10⟩:=q
 dsimp only[Cv,Ck,Cj,Cz] at*
 have i0:=Jd n
 have pi0:=Md n (by omega)
 have i1:=Jd m
 have pi1:=Md m (by omega)
 generalize Dw n=I0 at*
 obtain⟨n0,o0⟩:=I0
 generalize Dw m=I1 at*
 obtain⟨n1,o1⟩:=I1
 dsimp only at*
 have vq:=Bup list n0 n1 ⟨q3,q4⟩
 have pv:=B0f list n0 n1 (by omega)
 generalize Wu list n0 n1=ZV at*
 have q:EnQ ⟨key,till,kind,text,ZV,scores,fields⟩:=⟨q1,q2,vq.1,vq.2,q5,q6,q7,q8,q9,by dsimp only;omega⟩
 have p3:=Kt b _ (Sa) hb.sm q.sm q.fit
 generalize Fe b ⟨key,till,kind,text,ZV,scores,fields⟩ (Sa)=P at*
 unfold Sa at p3
 cases o0<;>cases o1
 ·simp(maxSteps:=1000000) [Ci,-Cda,-Cdb,f167,p1,eN,eL,eP,eO,no,Bo,pi0,pi1,Di]
 ·simp(maxSteps:=1000000) [Ci,-Cda,-Cdb,f167,p1,eN,eL,eP,eO,no,Bo,pi0,pi1,Di]
 ·simp(maxSteps:=1000000) [Ci,-Cda,-Cdb,f167,p1,eN,eL,eP,eO,no,Bo,pi0,pi1,Di]
 ·simp(maxSteps:=1000000) [Ci,-Cda,-Cdb,f167,p1,eN,eL,eP,eO,no,Bo,pi0,pi1,pv,p3]
def Bex (b:Ba) (k:Br) (ts:List Br):Ba×Re:=if(U4 (Bz b k).list ts).2.2=true then Fe b (Cv (Bz b k) 3 (U4 (Bz b k).list ts).1) (Cs (U4 (Bz b k).list ts).2.1) else(b,Di [108,111,110,103])
def Bey (b:Ba) (k:Br) (ts:List Br):Ba×Re:=Fe b (Cv (Bz b k) (Bz b k).kind (Tw (Bz b k).list ts).1) (Cs (Tw (Bz b k).list ts).2)
def Qw (b:Ba) (k:Br):Ba×Re:=(b,Je (Bz b k).list)
def Pp (b:Ba) (k t:Br):Ba×Re:=(b,G5 (decide (t∈(Bz b k).list)))
def X6 (b:Ba) (k m:Br):Ba×Re:=(b,Je (Bul (Bz b k).list (Bz b m).list))
def X8 (b:Ba) (k m:Br):Ba×Re:=(b,Je (B1q (Bz b k).list (Bz b m).list))
def Bcq (b:Ba) (k m:Br):Ba×Re:=(b,Je (Bun (Bz b k).list (Bz b m).list))
theorem Blg (b:Ba) (k:Br) (ts:List Br) (hb:BaG b) (hk:k.length≤40) (hts:ts.length≤1000):Be (ev R) 168 [.d (Df b), .d (Bf ([83,65,68,68]::k::ts))]=some (Bo (Bex b k ts)):=Bb fun H=>by
 refine Bh (fn:=f168) rfl rfl ?_
 have p1:=Gv b k hb.sm
 have q:=Dn hb (t:=k) (by omega)
 unfold Bex
 have eN:=Bu [110,117,109,98,101,114]
 have eL:=Bu [108,111,110,103]
 have eP:=Bu [112,108,97,99,101]
 have eO:=Bu [110,111,110,101]
 have no:=Gh
 generalize Bz b k=e at*
 obtain⟨key,till,kind,text,list,scores,fields⟩:=e
 obtain⟨q1,q2,q3,q4,q5,q6,q7,q8,q9,q10⟩:=q
 dsimp only[Cv,Ck,Cj,Cz] at*
 have c00: (0:Int)< (ts.length:Int)+1+1:=by omega
 have c01: (1:Int)< (ts.length:Int)+1+1:=by omega
 have c02: (0:Int)≤(ts.length:Int)+1+1:=by omega
 have c03: (2:Int)≤(ts.length:Int)+1+1:=by omega
 have vq:=Byp list ts ⟨q3,q4⟩
 have pv:=B7m list ts (by omega) (by omega)
 generalize U4 list ts=V at*
 obtain⟨vl,vn,vo⟩:=V
 dsimp only at*
 have q:EnQ ⟨key,till,3,text,vl,scores,fields⟩:=⟨q1,q2,vq.1,vq.2,q5,q6,q7,q8,q9,by dsimp only;omega⟩
 have p2:=Jf vn
 have p3:=Kt b _ (Cs vn) hb.sm q.sm q.fit
 generalize Fe b ⟨key,till,3,text,vl,scores,fields⟩ (Cs vn)=P at*
 unfold Cs at p3
 cases vo
 ·simp(maxSteps:=1000000) [Ci,-Cda,-Cdb,f168,p1,eN,eL,eP,eO,no,Bo,pv,Di,c00,c01,c02,c03]
 ·simp(maxSteps:=1000000) [Ci,-Cda,-Cdb,f168,p1,eN,eL,eP,eO,no,Bo,pv,p2,p3,c00,c01,c02,c03]
theorem Blh (b:Ba) (k:Br) (ts:List Br) (hb:BaG b) (hk:k.length≤40) (hts:ts.length≤1000):Be (ev R) 168 [.d (Df b), .d (Bf ([83,82,69,77]::k::ts))]=some (Bo (Bey b k ts)):=Bb fun H=>by
 refine Bh (fn:=f168) rfl rfl ?_
 have p1:=Gv b k hb.sm
 have q:=Dn hb (t:=k) (by omega)
 unfold Bey
 have eN:=Bu [110,117,109,98,101,114]
 have eL:=Bu [108,111,110,103]
 have eP:=Bu [112,108,97,99,101]
 have eO:=Bu [110,111,110,101]
 have no:=Gh
 generalize Bz b k=e at*
 obtain⟨key,till,kind,text,list,scores,fields⟩:=e
 obtain⟨q1,q2,q3,q4,q5,q6,q7,q8,q9,q10⟩:=q
 dsimp only[Cv,Ck,Cj,Cz] at*
 have c00: (0:Int)< (ts.length:Int)+1+1:=by omega
 have c01: (1:Int)< (ts.length:Int)+1+1:=by omega
 have c02: (0:Int)≤(ts.length:Int)+1+1:=by omega
 have c03: (2:Int)≤(ts.length:Int)+1+1:=by omega
 have vq:=Buq list ts ⟨q3,q4⟩
 have pv:=B7n list ts (by omega) (by omega)
 generalize Tw list ts=V at*
 obtain⟨vl,vn⟩:=V
 dsimp only at*
 have q:EnQ ⟨key,till,kind,text,vl,scores,fields⟩:=⟨q1,q2,vq.1,vq.2,q5,q6,q7,q8,q9,by dsimp only;omega⟩
 have p2:=Jf vn
 have p3:=Kt b _ (Cs vn) hb.sm q.sm q.fit
 generalize Fe b ⟨key,till,kind,text,vl,scores,fields⟩ (Cs vn)=P at*
 unfold Cs at p3
 simp(maxSteps:=1000000) [Ci,-Cda,-Cdb,f168,p1,eN,eL,eP,eO,no,Bo,pv,p2,p3,c00,c01,c02,c03]
theorem Bch (b:Ba) (k:Br) (hb:BaG b) (hk:k.length≤40):Be (ev R) 168 [.d (Df b), .d (Bf ([[83,77,69,77,66,69,82,83],k]))]=some (Bo (Qw b k)):=Bb fun H=>by
 refine Bh (fn:=f168) rfl rfl ?_
 have p1:=Gv b k hb.sm
 have q:=Dn hb (t:=k) (by omega)
 unfold Qw
 have eN:=Bu [110,117,109,98,101,114]
 have eL:=Bu [108,111,110,103]
 have eP:=Bu [112,108,97,99,101]
 have eO:=Bu [110,111,110,101]
 have no:=Gh
 generalize Bz b k=e at*
 obtain⟨key,till,kind,text,list,scores,fields⟩:=e
 obtain⟨q1,q2,q3,q4,q5,q6,q7,q8,q9,q10⟩:=q
 dsimp only[Cv,Ck,Cj,Cz] at*
 have p2:=Xx list
 simp(maxSteps:=1000000) [Ci,-Cda,-Cdb,f168,p1,eN,eL,eP,eO,no,Bo,p2,Je]
theorem Bih (b:Ba) (k:Br) (hb:BaG b) (hk:k.length≤40):Be (ev R) 168 [.d (Df b), .d (Bf ([[83,67,65,82,68],k]))]=some (Bo (Uz b k)):=Bb fun H=>by
 refine Bh (fn:=f168) rfl rfl ?_
 have p1:=Gv b k hb.sm
 have q:=Dn hb (t:=k) (by omega)
 unfold Uz
 have eN:=Bu [110,117,109,98,101,114]
 have eL:=Bu [108,111,110,103]
 have eP:=Bu [112,108,97,99,101]
 have eO:=Bu [110,111,110,101]
 have no:=Gh
 generalize Bz b k=e at*
 obtain⟨key,till,kind,text,list,scores,fields⟩:=e
 obtain⟨q1,q2,q3,q4,q5,q6,q7,q8,q9,q10⟩:=q
 dsimp only[Cv,Ck,Cj,Cz] at*
 have p2:=Jf list.length
 simp(maxSteps:=1000000) [Ci,-Cda,-Cdb,f168,p1,eN,eL,eP,eO,no,Bo,p2,Cs]
theorem Bak (b:Ba) (k:Br) (t:Br) (hb:BaG b) (hk:k.length≤40) (ht:t.length≤40):Be (ev R) 168 [.d (Df b), .d (Bf ([[83,73,83,77,69,77,66,69,82],k,t]))]=some (Bo (Pp b k t)):=Bb fun H=>by
 refine Bh (fn:=f168) rfl rfl ?_
 have p1:=Gv b k hb.sm
 have q:=Dn hb (t:=k) (by omega)
 unfold Pp
 have eN:=Bu [110,117,109,98,101,114]
 have eL:=Bu [108,111,110,103]
 have eP:=Bu [112,108,97,99,101]
 have eO:=Bu [110,111,110,101]
 have no:=Gh
 generalize Bz b k=e at*
 obtain⟨key,till,kind,text,list,scores,fields⟩:=e
 obtain⟨q1,q2,q3,q4,q5,q6,q7,q8,q9,q10⟩:=q
 dsimp only[Cv,Ck,Cj,Cz] at*
 have pv:=Bim list t (by omega)
 generalize decide (t∈list)=ZV at*
 have p2:=Beo ZV
 simp(maxSteps:=1000000) [Ci,-Cda,-Cdb,f168,p1,eN,eL,eP,eO,no,Bo,pv,p2]
theorem Bga (b:Ba) (k:Br) (m:Br) (hb:BaG b) (hk:k.length≤40) (hm:m.length≤40):Be (ev R) 168 [.d (Df b), .d (Bf ([[83,73,78,84,69,82],k,m]))]=some (Bo (X6 b k m)):=Bb fun H=>by
 have p9:=Gv b m hb.sm
 have q':=Dn hb (t:=m) (by omega)
 refine Bh (fn:=f168) rfl rfl ?_
 have p1:=Gv b k hb.sm
 have q:=Dn hb (t:=k) (by omega)
 unfold X6
 have eN:=Bu [110,117,109,98,101,114]
 have eL:=Bu [108,111,110,103]
 have eP:=Bu [112,108,97,99,101]
 have eO:=Bu [110,111,110,101]
 have no:=Gh
 generalize Bz b k=e at*
 obtain⟨key,till,kind,text,list,scores,fields⟩:=e
 obtain⟨q1,q2,q3,q4,q5,q6,q7,q8,q9,q10⟩:=q
 dsimp only[Cv,Ck,Cj,Cz] at*
 generalize Bz b m=e2 at*
 obtain⟨key2,till2,kind2,text2,list2,scores2,fields2⟩:=e2
 obtain⟨_,_,qq,_,_,_,_,_,_,_⟩:=q'
 dsimp only at*
 have pv:=B7o list list2 (by omega) (by omega)
 generalize Bul list list2=ZV at*
 have p2:=Xx ZV
 simp(maxSteps:=1000000) [Ci,-Cda,-Cdb,f168,p1,eN,eL,eP,eO,no,Bo,p9,pv,p2,Je]
theorem Bgb (b:Ba) (k:Br) (m:Br) (hb:BaG b) (hk:k.length≤40) (hm:m.length≤40):Be (ev R) 168 [.d (Df b), .d (Bf ([[83,85,78,73,79,78],k,m]))]=some (Bo (X8 b k m)):=Bb fun H=>by
 have p9:=Gv b m hb.sm
 have q':=Dn hb (t:=m) (by omega)
 refine Bh (fn:=f168) rfl rfl ?_
 have p1:=Gv b k hb.sm
 have q:=Dn hb (t:=k) (by omega)
 unfold X8
 have eN:=Bu [110,117,109,98,101,114]
 have eL:=Bu [108,111,110,103]
 have eP:=Bu [112,108,97,99,101]
 have eO:=Bu [110,111,110,101]
 have no:=Gh
 generalize Bz b k=e at*
 obtain⟨key,till,kind,text,list,scores,fields⟩:=e
 obtain⟨q1,q2,q3,q4,q5,q6,q7,q8,q9,q10⟩:=q
 dsimp only[Cv,Ck,Cj,Cz] at*
 generalize Bz b m=e2 at*
 obtain⟨key2,till2,kind2,text2,list2,scores2,fields2⟩:=e2
 obtain⟨_,_,qq,_,_,_,_,_,_,_⟩:=q'
 dsimp only at*
 have pv:=B7p list list2 (by omega) (by omega)
 generalize B1q list list2=ZV at*
 have p2:=Xx ZV
 simp(maxSteps:=1000000) [Ci,-Cda,-Cdb,f168,p1,eN,eL,eP,eO,no,Bo,p9,pv,p2,Je]
theorem Bii (b:Ba) (k:Br) (m:Br) (hb:BaG b) (hk:k.length≤40) (hm:m.length≤40):Be (ev R) 168 [.d (Df b), .d (Bf ([[83,68,73,70,70],k,m]))]=some (Bo (Bcq b k m)):=Bb fun H=>by
 have p9:=Gv b m hb.sm
 have q':=Dn hb (t:=m) (by omega)
 refine Bh (fn:=f168) rfl rfl ?_
 have p1:=Gv b k hb.sm
 have q:=Dn hb (t:=k) (by omega)
 unfold Bcq
 have eN:=Bu [110,117,109,98,101,114]
 have eL:=Bu [108,111,110,103]
 have eP:=Bu [112,108,97,99,101]
 have eO:=Bu [110,111,110,101]
 have no:=Gh
 generalize Bz b k=e at*
 obtain⟨key,till,kind,text,list,scores,fields⟩:=e
 obtain⟨q1,q2,q3,q4,q5,q6,q7,q8,q9,q10⟩:=q
 dsimp only[Cv,Ck,Cj,Cz] at*
 generalize Bz b m=e2 at*
 obtain⟨key2,till2,kind2,text2,list2,scores2,fields2⟩:=e2
 obtain⟨_,_,qq,_,_,_,_,_,_,_⟩:=q'
 dsimp only at*
 have pv:=B7q list list2 (by omega) (by omega)
 generalize Bun list list2=ZV at*
 have p2:=Xx ZV
 simp(maxSteps:=1000000) [Ci,-Cda,-Cdb,f168,p1,eN,eL,eP,eO,no,Bo,p9,pv,p2,Je]
end Go.Proofs.YtpajcoanfkeibaaGreatDoor.Code

/- Lemmas (several texts in one). -/
import Derived.Test.YtjdmiodinhlchaaGreatMBaseDrop7
import Derived.Test.YtjdmiodinhlchaaGreatMBaseDrop24
set_option maxRecDepth 100000
set_option maxHeartbeats 2000000
set_option linter.unusedSimpArgs false
set_option linter.unusedVariables false
namespace Go.Proofs.YtjdmiodinhlchaaGreat.Code
open Go Go.Ev Go.Proofs
def Ch (e:En) (kind:Int) (l:List Bm):En:=⟨e.key,e.till,kind,e.text,l,e.scores,e.fields⟩
def B8 (e:En) (kind:Int) (l:List Sc):En:=⟨e.key,e.till,kind,e.text,e.list,l,e.fields⟩
def B7 (e:En) (kind:Int) (l:List Pr):En:=⟨e.key,e.till,kind,e.text,e.list,e.scores,l⟩
def N2 (b:Ba) (k:Bm) (f:Bool) (ts:List Bm):Ba×Re:=if(Qa (Bt b k).list f ts).2=true then Dg b (Ch (Bt b k) 2 (Qa (Bt b k).list f ts).1) (Cf (Qa (Bt b k).list f ts).1.length) else(b,Cu [108,111,110,103])
def Wx (b:Ba) (k:Bm) (f:Bool):Ba×Re:=if(Xg (Bt b k).list f).2.2=true then Dg b (Ch (Bt b k) (Bt b k).kind (Xg (Bt b k).list f).1) (Jd (Xg (Bt b k).list f).2.1) else(b,Kn)
def P6 (b:Ba) (k:Bm):Ba×Re:=(b,Cf (Bt b k).list.length)
def Yv (b:Ba) (k n t:Bm):Ba×Re:=if(C8 n).2=true then(if(Bc7 (Bt b k).list (C8 n).1 t).2=true then Dg b (Ch (Bt b k) (Bt b k).kind (Bc7 (Bt b k).list (C8 n).1 t).1) Nk else(b,Cu [112,108,97,99,101])) else(b,Cu [110,117,109,98,101,114])
def Yu (b:Ba) (k n t:Bm):Ba×Re:=if(C8 n).2=true then Dg b (Ch (Bt b k) (Bt b k).kind (Tj (Bt b k).list (C8 n).1 t).1) (Cf (Tj (Bt b k).list (C8 n).1 t).2) else(b,Cu [110,117,109,98,101,114])
def Pp (b:Ba) (k n m:Bm):Ba×Re:=if(C8 n).2=true∧(C8 m).2=true then(b,F1 (Qq (Bt b k).list (C8 n).1 (C8 m).1)) else(b,Cu [110,117,109,98,101,114])
def Sk (b:Ba) (k n m:Bm):Ba×Re:=if(C8 n).2=true∧(C8 m).2=true then Dg b (Ch (Bt b k) (Bt b k).kind (Qq (Bt b k).list (C8 n).1 (C8 m).1)) Nk else(b,Cu [110,117,109,98,101,114])
theorem Bb1 (b:Ba) (k:Bm) (ts:List Bm) (hb:BaG b) (hk:k.length≤40) (hts:ts.length≤1000):Be (ev R) 111 [.d (Cv b), .d (Bf ([76,80,85,83,72]::k::ts))]=some (Bk (N2 b k true ts)):=Bb fun H=>by
 refine Bi (fn:=f111) rfl rfl ?_
 have p1:=Fm b k hb.sm
 have q:=C0 hb (t:=k) (by omega)
 unfold N2
 have eN:=Br [110,117,109,98,101,114]
 have eL:=Br [108,111,110,103]
 have eP:=Br [112,108,97,99,101]
 have eO:=Br [110,111,110,101]
 have no:=Fa
 generalize Bt b k=e at*
 obtain⟨key,till,kind,text,list,scores,fields⟩:=e
 obtain⟨q1,q2,q3,q4,q5,q6,q7,q8,q9,q10⟩:=q
 dsimp only[Ch,B8,B7,Cj] at*
 have c00: (0:Int)< (ts.length:Int)+1+1:=by omega
 have c01: (1:Int)< (ts.length:Int)+1+1:=by omega
 have c02: (0:Int)≤(ts.length:Int)+1+1:=by omega
 have c03: (2:Int)≤(ts.length:Int)+1+1:=by omega
 have vq:=Bhz list true ts ⟨q3,q4⟩
 have pv:=Bsj list true ts (by omega) (by omega)
 generalize Qa list true ts=V at*
 obtain⟨vl,vo⟩:=V
 dsimp only at*
 have q:EnQ ⟨key,till,2,text,vl,scores,fields⟩:=⟨q1,q2,vq.1,vq.2,q5,q6,q7,q8,q9,by dsimp only;omega⟩
 have p2:=F6 vl.length
 have p3:=G5 b _ (Cf vl.length) hb.sm q.sm q.fit
 generalize Dg b ⟨key,till,2,text,vl,scores,fields⟩ (Cf vl.length)=P at*
 unfold Cf at p3
 cases vo
 ·simp(maxSteps:=1000000) [Ca,-List.getD_eq_getElem?_getD,-List.map_map,f111,p1,eN,eL,eP,eO,no,Bk,pv,Cu,c00,c01,c02,c03]
 ·simp(maxSteps:=1000000) [Ca,-List.getD_eq_getElem?_getD,-List.map_map,f111,p1,eN,eL,eP,eO,no,Bk,pv,p2,p3,c00,c01,c02,c03]
theorem Bb3 (b:Ba) (k:Bm) (ts:List Bm) (hb:BaG b) (hk:k.length≤40) (hts:ts.length≤1000):Be (ev R) 111 [.d (Cv b), .d (Bf ([82,80,85,83,72]::k::ts))]=some (Bk (N2 b k false ts)):=Bb fun H=>by
 refine Bi (fn:=f111) rfl rfl ?_
 have p1:=Fm b k hb.sm
 have q:=C0 hb (t:=k) (by omega)
 unfold N2
 have eN:=Br [110,117,109,98,101,114]
 have eL:=Br [108,111,110,103]
 have eP:=Br [112,108,97,99,101]
 have eO:=Br [110,111,110,101]
 have no:=Fa
 generalize Bt b k=e at*
 obtain⟨key,till,kind,text,list,scores,fields⟩:=e
 obtain⟨q1,q2,q3,q4,q5,q6,q7,q8,q9,q10⟩:=q
 dsimp only[Ch,B8,B7,Cj] at*
 have c00: (0:Int)< (ts.length:Int)+1+1:=by omega
 have c01: (1:Int)< (ts.length:Int)+1+1:=by omega
 have c02: (0:Int)≤(ts.length:Int)+1+1:=by omega
 have c03: (2:Int)≤(ts.length:Int)+1+1:=by omega
 have vq:=Bhz list false ts ⟨q3,q4⟩
 have pv:=Bsj list false ts (by omega) (by omega)
 generalize Qa list false ts=V at*
 obtain⟨vl,vo⟩:=V
 dsimp only at*
 have q:EnQ ⟨key,till,2,text,vl,scores,fields⟩:=⟨q1,q2,vq.1,vq.2,q5,q6,q7,q8,q9,by dsimp only;omega⟩
 have p2:=F6 vl.length
 have p3:=G5 b _ (Cf vl.length) hb.sm q.sm q.fit
 generalize Dg b ⟨key,till,2,text,vl,scores,fields⟩ (Cf vl.length)=P at*
 unfold Cf at p3
 cases vo
 ·simp(maxSteps:=1000000) [Ca,-List.getD_eq_getElem?_getD,-List.map_map,f111,p1,eN,eL,eP,eO,no,Bk,pv,Cu,c00,c01,c02,c03]
 ·simp(maxSteps:=1000000) [Ca,-List.getD_eq_getElem?_getD,-List.map_map,f111,p1,eN,eL,eP,eO,no,Bk,pv,p2,p3,c00,c01,c02,c03]
theorem Bey (b:Ba) (k:Bm) (hb:BaG b) (hk:k.length≤40):Be (ev R) 111 [.d (Cv b), .d (Bf ([[76,80,79,80],k]))]=some (Bk (Wx b k true)):=Bb fun H=>by
 refine Bi (fn:=f111) rfl rfl ?_
 have p1:=Fm b k hb.sm
 have q:=C0 hb (t:=k) (by omega)
 unfold Wx
 have eN:=Br [110,117,109,98,101,114]
 have eL:=Br [108,111,110,103]
 have eP:=Br [112,108,97,99,101]
 have eO:=Br [110,111,110,101]
 have no:=Fa
 generalize Bt b k=e at*
 obtain⟨key,till,kind,text,list,scores,fields⟩:=e
 obtain⟨q1,q2,q3,q4,q5,q6,q7,q8,q9,q10⟩:=q
 dsimp only[Ch,B8,B7,Cj] at*
 have vq:=Bnk list true ⟨q3,q4⟩
 have pv:=Bsk list true (by omega)
 generalize Xg list true=V at*
 obtain⟨vl,vs,vo⟩:=V
 dsimp only at*
 have q:EnQ ⟨key,till,kind,text,vl,scores,fields⟩:=⟨q1,q2,vq.1,vq.2,q5,q6,q7,q8,q9,by dsimp only;omega⟩
 have p2:=Ym vs
 have p3:=G5 b _ (Jd vs) hb.sm q.sm q.fit
 generalize Dg b ⟨key,till,kind,text,vl,scores,fields⟩ (Jd vs)=P at*
 unfold Jd at p3
 cases vo
 ·simp(maxSteps:=1000000) [Ca,-List.getD_eq_getElem?_getD,-List.map_map,f111,p1,eN,eL,eP,eO,no,Bk,pv,Kn]
 ·simp(maxSteps:=1000000) [Ca,-List.getD_eq_getElem?_getD,-List.map_map,f111,p1,eN,eL,eP,eO,no,Bk,pv,p2,p3]
theorem Be1 (b:Ba) (k:Bm) (hb:BaG b) (hk:k.length≤40):Be (ev R) 111 [.d (Cv b), .d (Bf ([[82,80,79,80],k]))]=some (Bk (Wx b k false)):=Bb fun H=>by
 refine Bi (fn:=f111) rfl rfl ?_
 have p1:=Fm b k hb.sm
 have q:=C0 hb (t:=k) (by omega)
 unfold Wx
 have eN:=Br [110,117,109,98,101,114]
 have eL:=Br [108,111,110,103]
 have eP:=Br [112,108,97,99,101]
 have eO:=Br [110,111,110,101]
 have no:=Fa
 generalize Bt b k=e at*
 obtain⟨key,till,kind,text,list,scores,fields⟩:=e
 obtain⟨q1,q2,q3,q4,q5,q6,q7,q8,q9,q10⟩:=q
 dsimp only[Ch,B8,B7,Cj] at*
 have vq:=Bnk list false ⟨q3,q4⟩
 have pv:=Bsk list false (by omega)
 generalize Xg list false=V at*
 obtain⟨vl,vs,vo⟩:=V
 dsimp only at*
 have q:EnQ ⟨key,till,kind,text,vl,scores,fields⟩:=⟨q1,q2,vq.1,vq.2,q5,q6,q7,q8,q9,by dsimp only;omega⟩
 have p2:=Ym vs
 have p3:=G5 b _ (Jd vs) hb.sm q.sm q.fit
 generalize Dg b ⟨key,till,kind,text,vl,scores,fields⟩ (Jd vs)=P at*
 unfold Jd at p3
 cases vo
 ·simp(maxSteps:=1000000) [Ca,-List.getD_eq_getElem?_getD,-List.map_map,f111,p1,eN,eL,eP,eO,no,Bk,pv,Kn]
 ·simp(maxSteps:=1000000) [Ca,-List.getD_eq_getElem?_getD,-List.map_map,f111,p1,eN,eL,eP,eO,no,Bk,pv,p2,p3]
theorem Bex (b:Ba) (k:Bm) (hb:BaG b) (hk:k.length≤40):Be (ev R) 111 [.d (Cv b), .d (Bf ([[76,76,69,78],k]))]=some (Bk (P6 b k)):=Bb fun H=>by
 refine Bi (fn:=f111) rfl rfl ?_
 have p1:=Fm b k hb.sm
 have q:=C0 hb (t:=k) (by omega)
 unfold P6
 have eN:=Br [110,117,109,98,101,114]
 have eL:=Br [108,111,110,103]
 have eP:=Br [112,108,97,99,101]
 have eO:=Br [110,111,110,101]
 have no:=Fa
 generalize Bt b k=e at*
 obtain⟨key,till,kind,text,list,scores,fields⟩:=e
 obtain⟨q1,q2,q3,q4,q5,q6,q7,q8,q9,q10⟩:=q
 dsimp only[Ch,B8,B7,Cj] at*
 have p2:=F6 list.length
 simp(maxSteps:=1000000) [Ca,-List.getD_eq_getElem?_getD,-List.map_map,f111,p1,eN,eL,eP,eO,no,Bk,p2,Cf]
theorem Be0 (b:Ba) (k:Bm) (n:Bm) (t:Bm) (hb:BaG b) (hk:k.length≤40) (hn:n.length≤40) (ht:t.length≤40):Be (ev R) 111 [.d (Cv b), .d (Bf ([[76,83,69,84],k,n,t]))]=some (Bk (Yv b k n t)):=Bb fun H=>by
 refine Bi (fn:=f111) rfl rfl ?_
 have p1:=Fm b k hb.sm
 have q:=C0 hb (t:=k) (by omega)
 unfold Yv
 have eN:=Br [110,117,109,98,101,114]
 have eL:=Br [108,111,110,103]
 have eP:=Br [112,108,97,99,101]
 have eO:=Br [110,111,110,101]
 have no:=Fa
 generalize Bt b k=e at*
 obtain⟨key,till,kind,text,list,scores,fields⟩:=e
 obtain⟨q1,q2,q3,q4,q5,q6,q7,q8,q9,q10⟩:=q
 dsimp only[Ch,B8,B7,Cj] at*
 have i0:=F0 n
 have pi0:=Jx n (by omega)
 generalize C8 n=I0 at*
 obtain⟨n0,o0⟩:=I0
 dsimp only at*
 have vq:=Btu list n0 t ⟨q3,q4⟩
 have pv:=Bx8 list n0 t (by omega) ⟨by omega,by omega⟩
 generalize Bc7 list n0 t=V at*
 obtain⟨vl,vo⟩:=V
 dsimp only at*
 have q:EnQ ⟨key,till,kind,text,vl,scores,fields⟩:=⟨q1,q2,vq.1,vq.2,q5,q6,q7,q8,q9,by dsimp only;omega⟩
 have p3:=G5 b _ (Nk) hb.sm q.sm q.fit
 generalize Dg b ⟨key,till,kind,text,vl,scores,fields⟩ (Nk)=P at*
 unfold Nk at p3
 cases o0
 ·simp(maxSteps:=1000000) [Ca,-List.getD_eq_getElem?_getD,-List.map_map,f111,p1,eN,eL,eP,eO,no,Bk,pi0,Cu]
 ·cases vo
  ·simp(maxSteps:=1000000) [Ca,-List.getD_eq_getElem?_getD,-List.map_map,f111,p1,eN,eL,eP,eO,no,Bk,pi0,pv,Cu]
  ·simp(maxSteps:=1000000) [Ca,-List.getD_eq_getElem?_getD,-List.map_map,f111,p1,eN,eL,eP,eO,no,Bk,pi0,pv,p3]
theorem Bez (b:Ba) (k:Bm) (n:Bm) (t:Bm) (hb:BaG b) (hk:k.length≤40) (hn:n.length≤40) (ht:t.length≤40):Be (ev R) 111 [.d (Cv b), .d (Bf ([[76,82,69,77],k,n,t]))]=some (Bk (Yu b k n t)):=Bb fun H=>by
 refine Bi (fn:=f111) rfl rfl ?_
 have p1:=Fm b k hb.sm
 have q:=C0 hb (t:=k) (by omega)
 unfold Yu
 have eN:=Br [110,117,109,98,101,114]
 have eL:=Br [108,111,110,103]
 have eP:=Br [112,108,97,99,101]
 have eO:=Br [110,111,110,101]
 have no:=Fa
 generalize Bt b k=e at*
 obtain⟨key,till,kind,text,list,scores,fields⟩:=e
 obtain⟨q1,q2,q3,q4,q5,q6,q7,q8,q9,q10⟩:=q
 dsimp only[Ch,B8,B7,Cj] at*
 have i0:=F0 n
 have pi0:=Jx n (by omega)
 generalize C8 n=I0 at*
 obtain⟨n0,o0⟩:=I0
 dsimp only at*
 have vq:=Bq4 list n0 t ⟨q3,q4⟩
 have pv:=Bx9 list n0 t (by omega)
 generalize Tj list n0 t=V at*
 obtain⟨vl,vo⟩:=V
 dsimp only at*
 have q:EnQ ⟨key,till,kind,text,vl,scores,fields⟩:=⟨q1,q2,vq.1,vq.2,q5,q6,q7,q8,q9,by dsimp only;omega⟩
 have p2:=F6 vo
 have p3:=G5 b _ (Cf vo) hb.sm q.sm q.fit
 generalize Dg b ⟨key,till,kind,text,vl,scores,fields⟩ (Cf vo)=P at*
 unfold Cf at p3
 cases o0
 ·simp(maxSteps:=1000000) [Ca,-List.getD_eq_getElem?_getD,-List.map_map,f111,p1,eN,eL,eP,eO,no,Bk,pi0,Cu]
 ·simp(maxSteps:=1000000) [Ca,-List.getD_eq_getElem?_getD,-List.map_map,f111,p1,eN,eL,eP,eO,no,Bk,pi0,pv,p2,p3]
theorem Z2 (b:Ba) (k:Bm) (n:Bm) (m:Bm) (hb:BaG b) (hk:k.length≤40) (hn:n.length≤40) (hm:m.length≤40):Be (ev R) 111 [.d (Cv b), .d (Bf ([[76,82,65,78,71,69],k,n,m]))]=some (Bk (Pp b k n m)):=Bb fun H=>by
 refine Bi (fn:=f111) rfl rfl ?_
 have p1:=Fm b k hb.sm
 have q:=C0 hb (t:=k) (by omega)
 unfold Pp
 have eN:=Br [110,117,109,98,101,114]
 have eL:=Br [108,111,110,103]
 have eP:=Br [112,108,97,99,101]
 have eO:=Br [110,111,110,101]
 have no:=Fa
 generalize Bt b k=e at*
 obtain⟨key,till,kind,text,list,scores,fields⟩:=e
 obtain⟨q1,q2,q3,q4,q5,q6,q7,q8,q9,q10⟩:=q
 dsimp only[Ch,B8,B7,Cj] at*
 have i0:=F0 n
 have pi0:=Jx n (by omega)
 have i1:=F0 m
 have pi1:=Jx m (by omega)
 generalize C8 n=I0 at*
 obtain⟨n0,o0⟩:=I0
 generalize C8 m=I1 at*
 obtain⟨n1,o1⟩:=I1
 dsimp only at*
 have pv:=Bsl list n0 n1 (by omega)
 generalize Qq list n0 n1=ZV at*
 have p2:=Rf ZV
 cases o0<;>cases o1
 ·simp(maxSteps:=1000000) [Ca,-List.getD_eq_getElem?_getD,-List.map_map,f111,p1,eN,eL,eP,eO,no,Bk,pi0,pi1,Cu]
 ·simp(maxSteps:=1000000) [Ca,-List.getD_eq_getElem?_getD,-List.map_map,f111,p1,eN,eL,eP,eO,no,Bk,pi0,pi1,Cu]
 ·simp(maxSteps:=1000000) [Ca,-List.getD_eq_getElem?_getD,-List.map_map,f111,p1,eN,eL,eP,eO,no,Bk,pi0,pi1,Cu]
 ·simp(maxSteps:=1000000) [Ca,-List.getD_eq_getElem?_getD,-List.map_map,f111,p1,eN,eL,eP,eO,no,Bk,pi0,pi1,pv,p2,F1]
theorem Bb2 (b:Ba) (k:Bm) (n:Bm) (m:Bm) (hb:BaG b) (hk:k.length≤40) (hn:n.length≤40) (hm:m.length≤40):Be (ev R) 111 [.d (Cv b), .d (Bf ([[76,84,82,73,77],k,n,m]))]=some (Bk (Sk b k n m)):=Bb fun H=>by
 refine Bi (fn:=f111) rfl rfl ?_
 have p1:=Fm b k hb.sm
 have q:=C0 hb (t:=k) (by omega)
 unfold Sk
 have eN:=Br [110,117,109,98,101,114]
 have eL:=Br [108,111,110,103]
 have eP:=Br [112,108,97,99,101]
 have eO:=Br [110,111,110,101]
 have no:=Fa
 generalize Bt b k=e at*
 obtain⟨key,till,kind,text,list,scores,fields⟩:=e
 obtain⟨q1,q2,q3,q4,q5,q6,q7,q8,q9,q10⟩:=q
 dsimp only[Ch,B8,B7,Cj] at*
 have i0:=F0 n
 have pi0:=Jx n (by omega)
 have i1:=F0 m
 have pi1:=Jx m (by omega)
 generalize C8 n=I0 at*
 obtain⟨n0,o0⟩:=I0
 generalize C8 m=I1 at*
 obtain⟨n1,o1⟩:=I1
 dsimp only at*
 have vq:=Bnl list n0 n1 ⟨q3,q4⟩
 have pv:=Bsl list n0 n1 (by omega)
 generalize Qq list n0 n1=ZV at*
 have q:EnQ ⟨key,till,kind,text,ZV,scores,fields⟩:=⟨q1,q2,vq.1,vq.2,q5,q6,q7,q8,q9,by dsimp only;omega⟩
 have p3:=G5 b _ (Nk) hb.sm q.sm q.fit
 generalize Dg b ⟨key,till,kind,text,ZV,scores,fields⟩ (Nk)=P at*
 unfold Nk at p3
 cases o0<;>cases o1
 ·simp(maxSteps:=1000000) [Ca,-List.getD_eq_getElem?_getD,-List.map_map,f111,p1,eN,eL,eP,eO,no,Bk,pi0,pi1,Cu]
 ·simp(maxSteps:=1000000) [Ca,-List.getD_eq_getElem?_getD,-List.map_map,f111,p1,eN,eL,eP,eO,no,Bk,pi0,pi1,Cu]
 ·simp(maxSteps:=1000000) [Ca,-List.getD_eq_getElem?_getD,-List.map_map,f111,p1,eN,eL,eP,eO,no,Bk,pi0,pi1,Cu]
 ·simp(maxSteps:=1000000) [Ca,-List.getD_eq_getElem?_getD,-List.map_map,f111,p1,eN,eL,eP,eO,no,Bk,pi0,pi1,pv,p3]
def Yw (b:Ba) (k:Bm) (ts:List Bm):Ba×Re:=if(Qb (Bt b k).list ts).2.2=true then Dg b (Ch (Bt b k) 3 (Qb (Bt b k).list ts).1) (Cf (Qb (Bt b k).list ts).2.1) else(b,Cu [108,111,110,103])
def Yx (b:Ba) (k:Bm) (ts:List Bm):Ba×Re:=Dg b (Ch (Bt b k) (Bt b k).kind (Pb (Bt b k).list ts).1) (Cf (Pb (Bt b k).list ts).2)
def Mk (b:Ba) (k:Bm):Ba×Re:=(b,F1 (Bt b k).list)
def Li (b:Ba) (k t:Bm):Ba×Re:=(b,Fr (decide (t∈(Bt b k).list)))
def Rl (b:Ba) (k m:Bm):Ba×Re:=(b,F1 (Bnh (Bt b k).list (Bt b m).list))
def Rn (b:Ba) (k m:Bm):Ba×Re:=(b,F1 (Btt (Bt b k).list (Bt b m).list))
def Wy (b:Ba) (k m:Bm):Ba×Re:=(b,F1 (Bnj (Bt b k).list (Bt b m).list))
theorem Be2 (b:Ba) (k:Bm) (ts:List Bm) (hb:BaG b) (hk:k.length≤40) (hts:ts.length≤1000):Be (ev R) 112 [.d (Cv b), .d (Bf ([83,65,68,68]::k::ts))]=some (Bk (Yw b k ts)):=Bb fun H=>by
 refine Bi (fn:=f112) rfl rfl ?_
 have p1:=Fm b k hb.sm
 have q:=C0 hb (t:=k) (by omega)
 unfold Yw
 have eN:=Br [110,117,109,98,101,114]
 have eL:=Br [108,111,110,103]
 have eP:=Br [112,108,97,99,101]
 have eO:=Br [110,111,110,101]
 have no:=Fa
 generalize Bt b k=e at*
 obtain⟨key,till,kind,text,list,scores,fields⟩:=e
 obtain⟨q1,q2,q3,q4,q5,q6,q7,q8,q9,q10⟩:=q
 dsimp only[Ch,B8,B7,Cj] at*
 have c00: (0:Int)< (ts.length:Int)+1+1:=by omega
 have c01: (1:Int)< (ts.length:Int)+1+1:=by omega
 have c02: (0:Int)≤(ts.length:Int)+1+1:=by omega
 have c03: (2:Int)≤(ts.length:Int)+1+1:=by omega
 have vq:=Bq5 list ts ⟨q3,q4⟩
 have pv:=Bya list ts (by omega) (by omega)
 generalize Qb list ts=V at*
 obtain⟨vl,vn,vo⟩:=V
 dsimp only at*
 have q:EnQ ⟨key,till,3,text,vl,scores,fields⟩:=⟨q1,q2,vq.1,vq.2,q5,q6,q7,q8,q9,by dsimp only;omega⟩
 have p2:=F6 vn
 have p3:=G5 b _ (Cf vn) hb.sm q.sm q.fit
 generalize Dg b ⟨key,till,3,text,vl,scores,fields⟩ (Cf vn)=P at*
 unfold Cf at p3
 cases vo
 ·simp(maxSteps:=1000000) [Ca,-List.getD_eq_getElem?_getD,-List.map_map,f112,p1,eN,eL,eP,eO,no,Bk,pv,Cu,c00,c01,c02,c03]
 ·simp(maxSteps:=1000000) [Ca,-List.getD_eq_getElem?_getD,-List.map_map,f112,p1,eN,eL,eP,eO,no,Bk,pv,p2,p3,c00,c01,c02,c03]
theorem Be3 (b:Ba) (k:Bm) (ts:List Bm) (hb:BaG b) (hk:k.length≤40) (hts:ts.length≤1000):Be (ev R) 112 [.d (Cv b), .d (Bf ([83,82,69,77]::k::ts))]=some (Bk (Yx b k ts)):=Bb fun H=>by
 refine Bi (fn:=f112) rfl rfl ?_
 have p1:=Fm b k hb.sm
 have q:=C0 hb (t:=k) (by omega)
 unfold Yx
 have eN:=Br [110,117,109,98,101,114]
 have eL:=Br [108,111,110,103]
 have eP:=Br [112,108,97,99,101]
 have eO:=Br [110,111,110,101]
 have no:=Fa
 generalize Bt b k=e at*
 obtain⟨key,till,kind,text,list,scores,fields⟩:=e
 obtain⟨q1,q2,q3,q4,q5,q6,q7,q8,q9,q10⟩:=q
 dsimp only[Ch,B8,B7,Cj] at*
 have c00: (0:Int)< (ts.length:Int)+1+1:=by omega
 have c01: (1:Int)< (ts.length:Int)+1+1:=by omega
 have c02: (0:Int)≤(ts.length:Int)+1+1:=by omega
 have c03: (2:Int)≤(ts.length:Int)+1+1:=by omega
 have vq:=Bnm list ts ⟨q3,q4⟩
 have pv:=Byb list ts (by omega) (by omega)
 generalize Pb list ts=V at*
 obtain⟨vl,vn⟩:=V
 dsimp only at*
 have q:EnQ ⟨key,till,kind,text,vl,scores,fields⟩:=⟨q1,q2,vq.1,vq.2,q5,q6,q7,q8,q9,by dsimp only;omega⟩
 have p2:=F6 vn
 have p3:=G5 b _ (Cf vn) hb.sm q.sm q.fit
 generalize Dg b ⟨key,till,kind,text,vl,scores,fields⟩ (Cf vn)=P at*
 unfold Cf at p3
 simp(maxSteps:=1000000) [Ca,-List.getD_eq_getElem?_getD,-List.map_map,f112,p1,eN,eL,eP,eO,no,Bk,pv,p2,p3,c00,c01,c02,c03]
theorem Wq (b:Ba) (k:Bm) (hb:BaG b) (hk:k.length≤40):Be (ev R) 112 [.d (Cv b), .d (Bf ([[83,77,69,77,66,69,82,83],k]))]=some (Bk (Mk b k)):=Bb fun H=>by
 refine Bi (fn:=f112) rfl rfl ?_
 have p1:=Fm b k hb.sm
 have q:=C0 hb (t:=k) (by omega)
 unfold Mk
 have eN:=Br [110,117,109,98,101,114]
 have eL:=Br [108,111,110,103]
 have eP:=Br [112,108,97,99,101]
 have eO:=Br [110,111,110,101]
 have no:=Fa
 generalize Bt b k=e at*
 obtain⟨key,till,kind,text,list,scores,fields⟩:=e
 obtain⟨q1,q2,q3,q4,q5,q6,q7,q8,q9,q10⟩:=q
 dsimp only[Ch,B8,B7,Cj] at*
 have p2:=Rf list
 simp(maxSteps:=1000000) [Ca,-List.getD_eq_getElem?_getD,-List.map_map,f112,p1,eN,eL,eP,eO,no,Bk,p2,F1]
theorem Bb4 (b:Ba) (k:Bm) (hb:BaG b) (hk:k.length≤40):Be (ev R) 112 [.d (Cv b), .d (Bf ([[83,67,65,82,68],k]))]=some (Bk (P6 b k)):=Bb fun H=>by
 refine Bi (fn:=f112) rfl rfl ?_
 have p1:=Fm b k hb.sm
 have q:=C0 hb (t:=k) (by omega)
 unfold P6
 have eN:=Br [110,117,109,98,101,114]
 have eL:=Br [108,111,110,103]
 have eP:=Br [112,108,97,99,101]
 have eO:=Br [110,111,110,101]
 have no:=Fa
 generalize Bt b k=e at*
 obtain⟨key,till,kind,text,list,scores,fields⟩:=e
 obtain⟨q1,q2,q3,q4,q5,q6,q7,q8,q9,q10⟩:=q
 dsimp only[Ch,B8,B7,Cj] at*
 have p2:=F6 list.length
 simp(maxSteps:=1000000) [Ca,-List.getD_eq_getElem?_getD,-List.map_map,f112,p1,eN,eL,eP,eO,no,Bk,p2,Cf]
theorem Ts (b:Ba) (k:Bm) (t:Bm) (hb:BaG b) (hk:k.length≤40) (ht:t.length≤40):Be (ev R) 112 [.d (Cv b), .d (Bf ([[83,73,83,77,69,77,66,69,82],k,t]))]=some (Bk (Li b k t)):=Bb fun H=>by
 refine Bi (fn:=f112) rfl rfl ?_
 have p1:=Fm b k hb.sm
 have q:=C0 hb (t:=k) (by omega)
 unfold Li
 have eN:=Br [110,117,109,98,101,114]
 have eL:=Br [108,111,110,103]
 have eP:=Br [112,108,97,99,101]
 have eO:=Br [110,111,110,101]
 have no:=Fa
 generalize Bt b k=e at*
 obtain⟨key,till,kind,text,list,scores,fields⟩:=e
 obtain⟨q1,q2,q3,q4,q5,q6,q7,q8,q9,q10⟩:=q
 dsimp only[Ch,B8,B7,Cj] at*
 have pv:=Bb9 list t (by omega)
 generalize decide (t∈list)=ZV at*
 have p2:=Yn ZV
 simp(maxSteps:=1000000) [Ca,-List.getD_eq_getElem?_getD,-List.map_map,f112,p1,eN,eL,eP,eO,no,Bk,pv,p2]
theorem Z3 (b:Ba) (k:Bm) (m:Bm) (hb:BaG b) (hk:k.length≤40) (hm:m.length≤40):Be (ev R) 112 [.d (Cv b), .d (Bf ([[83,73,78,84,69,82],k,m]))]=some (Bk (Rl b k m)):=Bb fun H=>by
 have p9:=Fm b m hb.sm
 have q':=C0 hb (t:=m) (by omega)
 refine Bi (fn:=f112) rfl rfl ?_
 have p1:=Fm b k hb.sm
 have q:=C0 hb (t:=k) (by omega)
 unfold Rl
 have eN:=Br [110,117,109,98,101,114]
 have eL:=Br [108,111,110,103]
 have eP:=Br [112,108,97,99,101]
 have eO:=Br [110,111,110,101]
 have no:=Fa
 generalize Bt b k=e at*
 obtain⟨key,till,kind,text,list,scores,fields⟩:=e
 obtain⟨q1,q2,q3,q4,q5,q6,q7,q8,q9,q10⟩:=q
 dsimp only[Ch,B8,B7,Cj] at*
 generalize Bt b m=e2 at*
 obtain⟨key2,till2,kind2,text2,list2,scores2,fields2⟩:=e2
 obtain⟨_,_,qq,_,_,_,_,_,_,_⟩:=q'
 dsimp only at*
 have pv:=Byc list list2 (by omega) (by omega)
 generalize Bnh list list2=ZV at*
 have p2:=Rf ZV
 simp(maxSteps:=1000000) [Ca,-List.getD_eq_getElem?_getD,-List.map_map,f112,p1,eN,eL,eP,eO,no,Bk,p9,pv,p2,F1]
theorem Z4 (b:Ba) (k:Bm) (m:Bm) (hb:BaG b) (hk:k.length≤40) (hm:m.length≤40):Be (ev R) 112 [.d (Cv b), .d (Bf ([[83,85,78,73,79,78],k,m]))]=some (Bk (Rn b k m)):=Bb fun H=>by
 have p9:=Fm b m hb.sm
 have q':=C0 hb (t:=m) (by omega)
 refine Bi (fn:=f112) rfl rfl ?_
 have p1:=Fm b k hb.sm
 have q:=C0 hb (t:=k) (by omega)
 unfold Rn
 have eN:=Br [110,117,109,98,101,114]
 have eL:=Br [108,111,110,103]
 have eP:=Br [112,108,97,99,101]
 have eO:=Br [110,111,110,101]
 have no:=Fa
 generalize Bt b k=e at*
 obtain⟨key,till,kind,text,list,scores,fields⟩:=e
 obtain⟨q1,q2,q3,q4,q5,q6,q7,q8,q9,q10⟩:=q
 dsimp only[Ch,B8,B7,Cj] at*
 generalize Bt b m=e2 at*
 obtain⟨key2,till2,kind2,text2,list2,scores2,fields2⟩:=e2
 obtain⟨_,_,qq,_,_,_,_,_,_,_⟩:=q'
 dsimp only at*
 have pv:=Byd list list2 (by omega) (by omega)
 generalize Btt list list2=ZV at*
 have p2:=Rf ZV
 simp(maxSteps:=1000000) [Ca,-List.getD_eq_getElem?_getD,-List.map_map,f112,p1,eN,eL,eP,eO,no,Bk,p9,pv,p2,F1]
theorem Bb5 (b:Ba) (k:Bm) (m:Bm) (hb:BaG b) (hk:k.length≤40) (hm:m.length≤40):Be (ev R) 112 [.d (Cv b), .d (Bf ([[83,68,73,70,70],k,m]))]=some (Bk (Wy b k m)):=Bb fun H=>by
 have p9:=Fm b m hb.sm
 have q':=C0 hb (t:=m) (by omega)
 refine Bi (fn:=f112) rfl rfl ?_
 have p1:=Fm b k hb.sm
 have q:=C0 hb (t:=k) (by omega)
 unfold Wy
 have eN:=Br [110,117,109,98,101,114]
 have eL:=Br [108,111,110,103]
 have eP:=Br [112,108,97,99,101]
 have eO:=Br [110,111,110,101]
 have no:=Fa
 generalize Bt b k=e at*
 obtain⟨key,till,kind,text,list,scores,fields⟩:=e
 obtain⟨q1,q2,q3,q4,q5,q6,q7,q8,q9,q10⟩:=q
 dsimp only[Ch,B8,B7,Cj] at*
 generalize Bt b m=e2 at*
 obtain⟨key2,till2,kind2,text2,list2,scores2,fields2⟩:=e2
 obtain⟨_,_,qq,_,_,_,_,_,_,_⟩:=q'
 dsimp only at*
 have pv:=Bye list list2 (by omega) (by omega)
 generalize Bnj list list2=ZV at*
 have p2:=Rf ZV
 simp(maxSteps:=1000000) [Ca,-List.getD_eq_getElem?_getD,-List.map_map,f112,p1,eN,eL,eP,eO,no,Bk,p9,pv,p2,F1]
end Go.Proofs.YtjdmiodinhlchaaGreat.Code

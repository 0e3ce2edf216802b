/- Lemmas (several texts in one). -/
import Derived.Test.YtpajcoanfkeibaaGreatDoorMDoSet6
import Derived.Test.YtpajcoanfkeibaaGreatDoorMDoSet27
set_option maxRecDepth 100000
set_option maxHeartbeats 2000000
set_option linter.unusedSimpArgs false
set_option linter.unusedVariables false
namespace Go.Proofs.YtpajcoanfkeibaaGreatDoor.Code
open Go Go.Ev Go.Proofs
def Cx (e:En) (kind:Int) (l:List Bq):En:=⟨e.key,e.till,kind,e.text,l,e.scores,e.fields⟩
def Ck (e:En) (kind:Int) (l:List Sc):En:=⟨e.key,e.till,kind,e.text,e.list,l,e.fields⟩
def Cj (e:En) (kind:Int) (l:List Pr):En:=⟨e.key,e.till,kind,e.text,e.list,e.scores,l⟩
def Tm (b:Ba) (k:Bq) (f:Bool) (ts:List Bq):Ba×Re:=if(U6 (Bz b k).list f ts).2=true then Fs b (Cx (Bz b k) 2 (U6 (Bz b k).list f ts).1) (Cu (U6 (Bz b k).list f ts).1.length) else(b,Dp [108,111,110,103])
def Bcl (b:Ba) (k:Bq) (f:Bool):Ba×Re:=if(Bc5 (Bz b k).list f).2.2=true then Fs b (Cx (Bz b k) (Bz b k).kind (Bc5 (Bz b k).list f).1) (Lg (Bc5 (Bz b k).list f).2.1) else(b,Nq)
def U2 (b:Ba) (k:Bq):Ba×Re:=(b,Cu (Bz b k).list.length)
def Beo (b:Ba) (k n t:Bq):Ba×Re:=if(Fb n).2=true then(if(Bja (Bz b k).list (Fb n).1 t).2=true then Fs b (Cx (Bz b k) (Bz b k).kind (Bja (Bz b k).list (Fb n).1 t).1) Sk else(b,Dp [112,108,97,99,101])) else(b,Dp [110,117,109,98,101,114])
def Ben (b:Ba) (k n t:Bq):Ba×Re:=if(Fb n).2=true then Fs b (Cx (Bz b k) (Bz b k).kind (Z7 (Bz b k).list (Fb n).1 t).1) (Cu (Z7 (Bz b k).list (Fb n).1 t).2) else(b,Dp [110,117,109,98,101,114])
def Un (b:Ba) (k n m:Bq):Ba×Re:=if(Fb n).2=true∧(Fb m).2=true then(b,Jr (Wv (Bz b k).list (Fb n).1 (Fb m).1)) else(b,Dp [110,117,109,98,101,114])
def Y4 (b:Ba) (k n m:Bq):Ba×Re:=if(Fb n).2=true∧(Fb m).2=true then Fs b (Cx (Bz b k) (Bz b k).kind (Wv (Bz b k).list (Fb n).1 (Fb m).1)) Sk else(b,Dp [110,117,109,98,101,114])
theorem Bh1 (b:Ba) (k:Bq) (ts:List Bq) (hb:BaG b) (hk:k.length≤40) (hts:ts.length≤1000):Bc (ev R) 167 [.d (Db b), .d (Bf ([76,80,85,83,72]::k::ts))]=some (Bo (Tm b k true ts)):=Bb fun H=>by
 refine Bh (fn:=f167) rfl rfl ?_
 have p1:=Jd b k hb.sm
 have q:=Dv hb (t:=k) (by omega)
 unfold Tm
 have eN:=Bv [110,117,109,98,101,114]
 have eL:=Bv [108,111,110,103]
 have eP:=Bv [112,108,97,99,101]
 have eO:=Bv [110,111,110,101]
 have no:=Gp
 generalize Bz b k=e at*
 obtain⟨key,till,kind,text,list,scores,fields⟩:=e
 obtain⟨q1,q2,q3,q4,q5,q6,q7,q8,q9,q10⟩:=q
 dsimp only[Cx,Ck,Cj,Da] at*
 have c00: (0:Int)< (ts.length:Int)+1+1:=by omega
 have c01: (1:Int)< (ts.length:Int)+1+1:=by omega
 have c02: (0:Int)≤(ts.length:Int)+1+1:=by omega
 have c03: (2:Int)≤(ts.length:Int)+1+1:=by omega
 have vq:=Bn5 list true ts ⟨q3,q4⟩
 have pv:=Bzn list true ts (by omega) (by omega)
 generalize U6 list true ts=V at*
 obtain⟨vl,vo⟩:=V
 dsimp only at*
 have q:EnQ ⟨key,till,2,text,vl,scores,fields⟩:=⟨q1,q2,vq.1,vq.2,q5,q6,q7,q8,q9,by dsimp only;omega⟩
 have p2:=Js vl.length
 have p3:=K6 b _ (Cu vl.length) hb.sm q.sm q.fit
 generalize Fs b ⟨key,till,2,text,vl,scores,fields⟩ (Cu vl.length)=P at*
 unfold Cu at p3
 cases vo
 ·simp(maxSteps:=1000000) [Ca,-List.getD_eq_getElem?_getD,-List.map_map,f167,p1,eN,eL,eP,eO,no,Bo,pv,Dp,c00,c01,c02,c03]
 ·simp(maxSteps:=1000000) [Ca,-List.getD_eq_getElem?_getD,-List.map_map,f167,p1,eN,eL,eP,eO,no,Bo,pv,p2,p3,c00,c01,c02,c03]
theorem Bh3 (b:Ba) (k:Bq) (ts:List Bq) (hb:BaG b) (hk:k.length≤40) (hts:ts.length≤1000):Bc (ev R) 167 [.d (Db b), .d (Bf ([82,80,85,83,72]::k::ts))]=some (Bo (Tm b k false ts)):=Bb fun H=>by
 refine Bh (fn:=f167) rfl rfl ?_
 have p1:=Jd b k hb.sm
 have q:=Dv hb (t:=k) (by omega)
 unfold Tm
 have eN:=Bv [110,117,109,98,101,114]
 have eL:=Bv [108,111,110,103]
 have eP:=Bv [112,108,97,99,101]
 have eO:=Bv [110,111,110,101]
 have no:=Gp
 generalize Bz b k=e at*
 obtain⟨key,till,kind,text,list,scores,fields⟩:=e
 obtain⟨q1,q2,q3,q4,q5,q6,q7,q8,q9,q10⟩:=q
 dsimp only[Cx,Ck,Cj,Da] at*
 have c00: (0:Int)< (ts.length:Int)+1+1:=by omega
 have c01: (1:Int)< (ts.length:Int)+1+1:=by omega
 have c02: (0:Int)≤(ts.length:Int)+1+1:=by omega
 have c03: (2:Int)≤(ts.length:Int)+1+1:=by omega
 have vq:=Bn5 list false ts ⟨q3,q4⟩
 have pv:=Bzn list false ts (by omega) (by omega)
 generalize U6 list false ts=V at*
 obtain⟨vl,vo⟩:=V
 dsimp only at*
 have q:EnQ ⟨key,till,2,text,vl,scores,fields⟩:=⟨q1,q2,vq.1,vq.2,q5,q6,q7,q8,q9,by dsimp only;omega⟩
 have p2:=Js vl.length
 have p3:=K6 b _ (Cu vl.length) hb.sm q.sm q.fit
 generalize Fs b ⟨key,till,2,text,vl,scores,fields⟩ (Cu vl.length)=P at*
 unfold Cu at p3
 cases vo
 ·simp(maxSteps:=1000000) [Ca,-List.getD_eq_getElem?_getD,-List.map_map,f167,p1,eN,eL,eP,eO,no,Bo,pv,Dp,c00,c01,c02,c03]
 ·simp(maxSteps:=1000000) [Ca,-List.getD_eq_getElem?_getD,-List.map_map,f167,p1,eN,eL,eP,eO,no,Bo,pv,p2,p3,c00,c01,c02,c03]
theorem Bk1 (b:Ba) (k:Bq) (hb:BaG b) (hk:k.length≤40):Bc (ev R) 167 [.d (Db b), .d (Bf ([[76,80,79,80],k]))]=some (Bo (Bcl b k true)):=Bb fun H=>by
 refine Bh (fn:=f167) rfl rfl ?_
 have p1:=Jd b k hb.sm
 have q:=Dv hb (t:=k) (by omega)
 unfold Bcl
 have eN:=Bv [110,117,109,98,101,114]
 have eL:=Bv [108,111,110,103]
 have eP:=Bv [112,108,97,99,101]
 have eO:=Bv [110,111,110,101]
 have no:=Gp
 generalize Bz b k=e at*
 obtain⟨key,till,kind,text,list,scores,fields⟩:=e
 obtain⟨q1,q2,q3,q4,q5,q6,q7,q8,q9,q10⟩:=q
 dsimp only[Cx,Ck,Cj,Da] at*
 have vq:=Btz list true ⟨q3,q4⟩
 have pv:=Bzo list true (by omega)
 generalize Bc5 list true=V at*
 obtain⟨vl,vs,vo⟩:=V
 dsimp only at*
 have q:EnQ ⟨key,till,kind,text,vl,scores,fields⟩:=⟨q1,q2,vq.1,vq.2,q5,q6,q7,q8,q9,by dsimp only;omega⟩
 have p2:=Bee vs
 have p3:=K6 b _ (Lg vs) hb.sm q.sm q.fit
 generalize Fs b ⟨key,till,kind,text,vl,scores,fields⟩ (Lg vs)=P at*
 unfold Lg at p3
 cases vo
 ·simp(maxSteps:=1000000) [Ca,-List.getD_eq_getElem?_getD,-List.map_map,f167,p1,eN,eL,eP,eO,no,Bo,pv,Nq]
 ·simp(maxSteps:=1000000) [Ca,-List.getD_eq_getElem?_getD,-List.map_map,f167,p1,eN,eL,eP,eO,no,Bo,pv,p2,p3]
theorem Bk5 (b:Ba) (k:Bq) (hb:BaG b) (hk:k.length≤40):Bc (ev R) 167 [.d (Db b), .d (Bf ([[82,80,79,80],k]))]=some (Bo (Bcl b k false)):=Bb fun H=>by
 refine Bh (fn:=f167) rfl rfl ?_
 have p1:=Jd b k hb.sm
 have q:=Dv hb (t:=k) (by omega)
 unfold Bcl
 have eN:=Bv [110,117,109,98,101,114]
 have eL:=Bv [108,111,110,103]
 have eP:=Bv [112,108,97,99,101]
 have eO:=Bv [110,111,110,101]
 have no:=Gp
 generalize Bz b k=e at*
 obtain⟨key,till,kind,text,list,scores,fields⟩:=e
 obtain⟨q1,q2,q3,q4,q5,q6,q7,q8,q9,q10⟩:=q
 dsimp only[Cx,Ck,Cj,Da] at*
 have vq:=Btz list false ⟨q3,q4⟩
 have pv:=Bzo list false (by omega)
 generalize Bc5 list false=V at*
 obtain⟨vl,vs,vo⟩:=V
 dsimp only at*
 have q:EnQ ⟨key,till,kind,text,vl,scores,fields⟩:=⟨q1,q2,vq.1,vq.2,q5,q6,q7,q8,q9,by dsimp only;omega⟩
 have p2:=Bee vs
 have p3:=K6 b _ (Lg vs) hb.sm q.sm q.fit
 generalize Fs b ⟨key,till,kind,text,vl,scores,fields⟩ (Lg vs)=P at*
 unfold Lg at p3
 cases vo
 ·simp(maxSteps:=1000000) [Ca,-List.getD_eq_getElem?_getD,-List.map_map,f167,p1,eN,eL,eP,eO,no,Bo,pv,Nq]
 ·simp(maxSteps:=1000000) [Ca,-List.getD_eq_getElem?_getD,-List.map_map,f167,p1,eN,eL,eP,eO,no,Bo,pv,p2,p3]
theorem Bk0 (b:Ba) (k:Bq) (hb:BaG b) (hk:k.length≤40):Bc (ev R) 167 [.d (Db b), .d (Bf ([[76,76,69,78],k]))]=some (Bo (U2 b k)):=Bb fun H=>by
 refine Bh (fn:=f167) rfl rfl ?_
 have p1:=Jd b k hb.sm
 have q:=Dv hb (t:=k) (by omega)
 unfold U2
 have eN:=Bv [110,117,109,98,101,114]
 have eL:=Bv [108,111,110,103]
 have eP:=Bv [112,108,97,99,101]
 have eO:=Bv [110,111,110,101]
 have no:=Gp
 generalize Bz b k=e at*
 obtain⟨key,till,kind,text,list,scores,fields⟩:=e
 obtain⟨q1,q2,q3,q4,q5,q6,q7,q8,q9,q10⟩:=q
 dsimp only[Cx,Ck,Cj,Da] at*
 have p2:=Js list.length
 simp(maxSteps:=1000000) [Ca,-List.getD_eq_getElem?_getD,-List.map_map,f167,p1,eN,eL,eP,eO,no,Bo,p2,Cu]
theorem Bk4 (b:Ba) (k:Bq) (n:Bq) (t:Bq) (hb:BaG b) (hk:k.length≤40) (hn:n.length≤40) (ht:t.length≤40):Bc (ev R) 167 [.d (Db b), .d (Bf ([[76,83,69,84],k,n,t]))]=some (Bo (Beo b k n t)):=Bb fun H=>by
 refine Bh (fn:=f167) rfl rfl ?_
 have p1:=Jd b k hb.sm
 have q:=Dv hb (t:=k) (by omega)
 unfold Beo
 have eN:=Bv [110,117,109,98,101,114]
 have eL:=Bv [108,111,110,103]
 have eP:=Bv [112,108,97,99,101]
 have eO:=Bv [110,111,110,101]
 have no:=Gp
 generalize Bz b k=e at*
 obtain⟨key,till,kind,text,list,scores,fields⟩:=e
 obtain⟨q1,q2,q3,q4,q5,q6,q7,q8,q9,q10⟩:=q
 dsimp only[Cx,Ck,Cj,Da] at*
 have i0:=Jq n
 have pi0:=Ml n (by omega)
 generalize Fb n=I0 at*
 obtain⟨n0,o0⟩:=I0
 dsimp only at*
 have vq:=B08 list n0 t ⟨q3,q4⟩
 have pv:=B6y list n0 t (by omega) ⟨by omega,by omega⟩
 generalize Bja list n0 t=V at*
 obtain⟨vl,vo⟩:=V
 dsimp only at*
 have q:EnQ ⟨key,till,kind,text,vl,scores,fields⟩:=⟨q1,q2,vq.1,vq.2,q5,q6,q7,q8,q9,by dsimp only;omega⟩
 have p3:=K6 b _ (Sk) hb.sm q.sm q.fit
 generalize Fs b ⟨key,till,kind,text,vl,scores,fields⟩ (Sk)=P at*
 unfold Sk at p3
 cases o0
 ·simp(maxSteps:=1000000) [Ca,-List.getD_eq_getElem?_getD,-List.map_map,f167,p1,eN,eL,eP,eO,no,Bo,pi0,Dp]
 ·cases vo
  ·simp(maxSteps:=1000000) [Ca,-List.getD_eq_getElem?_getD,-List.map_map,f167,p1,eN,eL,eP,eO,no,Bo,pi0,pv,Dp]
  ·simp(maxSteps:=1000000) [Ca,-List.getD_eq_getElem?_getD,-List.map_map,f167,p1,eN,eL,eP,eO,no,Bo,pi0,pv,p3]
theorem Bk3 (b:Ba) (k:Bq) (n:Bq) (t:Bq) (hb:BaG b) (hk:k.length≤40) (hn:n.length≤40) (ht:t.length≤40):Bc (ev R) 167 [.d (Db b), .d (Bf ([[76,82,69,77],k,n,t]))]=some (Bo (Ben b k n t)):=Bb fun H=>by
 refine Bh (fn:=f167) rfl rfl ?_
 have p1:=Jd b k hb.sm
 have q:=Dv hb (t:=k) (by omega)
 unfold Ben
 have eN:=Bv [110,117,109,98,101,114]
 have eL:=Bv [108,111,110,103]
 have eP:=Bv [112,108,97,99,101]
 have eO:=Bv [110,111,110,101]
 have no:=Gp
 generalize Bz b k=e at*
 obtain⟨key,till,kind,text,list,scores,fields⟩:=e
 obtain⟨q1,q2,q3,q4,q5,q6,q7,q8,q9,q10⟩:=q
 dsimp only[Cx,Ck,Cj,Da] at*
 have i0:=Jq n
 have pi0:=Ml n (by omega)
 generalize Fb n=I0 at*
 obtain⟨n0,o0⟩:=I0
 dsimp only at*
 have vq:=Bx2 list n0 t ⟨q3,q4⟩
 have pv:=B6z list n0 t (by omega)
 generalize Z7 list n0 t=V at*
 obtain⟨vl,vo⟩:=V
 dsimp only at*
 have q:EnQ ⟨key,till,kind,text,vl,scores,fields⟩:=⟨q1,q2,vq.1,vq.2,q5,q6,q7,q8,q9,by dsimp only;omega⟩
 have p2:=Js vo
 have p3:=K6 b _ (Cu vo) hb.sm q.sm q.fit
 generalize Fs b ⟨key,till,kind,text,vl,scores,fields⟩ (Cu vo)=P at*
 unfold Cu at p3
 cases o0
 ·simp(maxSteps:=1000000) [Ca,-List.getD_eq_getElem?_getD,-List.map_map,f167,p1,eN,eL,eP,eO,no,Bo,pi0,Dp]
 ·simp(maxSteps:=1000000) [Ca,-List.getD_eq_getElem?_getD,-List.map_map,f167,p1,eN,eL,eP,eO,no,Bo,pi0,pv,p2,p3]
theorem Bf0 (b:Ba) (k:Bq) (n:Bq) (m:Bq) (hb:BaG b) (hk:k.length≤40) (hn:n.length≤40) (hm:m.length≤40):Bc (ev R) 167 [.d (Db b), .d (Bf ([[76,82,65,78,71,69],k,n,m]))]=some (Bo (Un b k n m)):=Bb fun H=>by
 refine Bh (fn:=f167) rfl rfl ?_
 have p1:=Jd b k hb.sm
 have q:=Dv hb (t:=k) (by omega)
 unfold Un
 have eN:=Bv [110,117,109,98,101,114]
 have eL:=Bv [108,111,110,103]
 have eP:=Bv [112,108,97,99,101]
 have eO:=Bv [110,111,110,101]
 have no:=Gp
 generalize Bz b k=e at*
 obtain⟨key,till,kind,text,list,scores,fields⟩:=e
 obtain⟨q1,q2,q3,q4,q5,q6,q7,q8,q9,q10⟩:=q
 dsimp only[Cx,Ck,Cj,Da] at*
 have i0:=Jq n
 have pi0:=Ml n (by omega)
 have i1:=Jq m
 have pi1:=Ml m (by omega)
 generalize Fb n=I0 at*
 obtain⟨n0,o0⟩:=I0
 generalize Fb m=I1 at*
 obtain⟨n1,o1⟩:=I1
 dsimp only at*
 have pv:=Bzp list n0 n1 (by omega)
 generalize Wv list n0 n1=ZV at*
 have p2:=Xv ZV
 cases o0<;>cases o1
 ·simp(maxSteps:=1000000) [Ca,-List.getD_eq_getElem?_getD,-List.map_map,f167,p1,eN,eL,eP,eO,no,Bo,pi0,pi1,Dp]
 ·simp(maxSteps:=1000000) [Ca,-List.getD_eq_getElem?_getD,-List.map_map,f167,p1,eN,eL,eP,eO,no,Bo,pi0,pi1,Dp]
 ·simp(maxSteps:=1000000) [Ca,-List.getD_eq_getElem?_getD,-List.map_map,f167,p1,eN,eL,eP,eO,no,Bo,pi0,pi1,Dp]
 ·simp(maxSteps:=1000000) [Ca,-List.getD_eq_getElem?_getD,-List.map_map,f167,p1,eN,eL,eP,eO,no,Bo,pi0,pi1,pv,p2,Jr]
theorem Bh2 (b:Ba) (k:Bq) (n:Bq) (m:Bq) (hb:BaG b) (hk:k.length≤40) (hn:n.length≤40) (hm:m.length≤40):Bc (ev R) 167 [.d (Db b), .d (Bf ([[76,84,82,73,77],k,n,m]))]=some (Bo (Y4 b k n m)):=Bb fun H=>by
 refine Bh (fn:=f167) rfl rfl ?_
 have p1:=Jd b k hb.sm
 have q:=Dv hb (t:=k) (by omega)
 unfold Y4
 have eN:=Bv [110,117,109,98,101,114]
 have eL:=Bv [108,111,110,103]
 have eP:=Bv [112,108,97,99,101]
 have eO:=Bv [110,111,110,101]
 have no:=Gp
 generalize Bz b k=e at*
 obtain⟨key,till,kind,text,list,scores,fields⟩:=e
 obtain⟨q1,q2,q3,q4,q5,q6,q7,q8,q9,q10⟩:=q
 dsimp only[Cx,Ck,Cj,Da] at*
 have i0:=Jq n
 have pi0:=Ml n (by omega)
 have i1:=Jq m
 have pi1:=Ml m (by omega)
 generalize Fb n=I0 at*
 obtain⟨n0,o0⟩:=I0
 generalize Fb m=I1 at*
 obtain⟨n1,o1⟩:=I1
 dsimp only at*
 have vq:=Bt0 list n0 n1 ⟨q3,q4⟩
 have pv:=Bzp list n0 n1 (by omega)
 generalize Wv list n0 n1=ZV at*
 have q:EnQ ⟨key,till,kind,text,ZV,scores,fields⟩:=⟨q1,q2,vq.1,vq.2,q5,q6,q7,q8,q9,by dsimp only;omega⟩
 have p3:=K6 b _ (Sk) hb.sm q.sm q.fit
 generalize Fs b ⟨key,till,kind,text,ZV,scores,fields⟩ (Sk)=P at*
 unfold Sk at p3
 cases o0<;>cases o1
 ·simp(maxSteps:=1000000) [Ca,-List.getD_eq_getElem?_getD,-List.map_map,f167,p1,eN,eL,eP,eO,no,Bo,pi0,pi1,Dp]
 ·simp(maxSteps:=1000000) [Ca,-List.getD_eq_getElem?_getD,-List.map_map,f167,p1,eN,eL,eP,eO,no,Bo,pi0,pi1,Dp]
 ·simp(maxSteps:=1000000) [Ca,-List.getD_eq_getElem?_getD,-List.map_map,f167,p1,eN,eL,eP,eO,no,Bo,pi0,pi1,Dp]
 ·simp(maxSteps:=1000000) [Ca,-List.getD_eq_getElem?_getD,-List.map_map,f167,p1,eN,eL,eP,eO,no,Bo,pi0,pi1,pv,p3]
def Bep (b:Ba) (k:Bq) (ts:List Bq):Ba×Re:=if(U7 (Bz b k).list ts).2.2=true then Fs b (Cx (Bz b k) 3 (U7 (Bz b k).list ts).1) (Cu (U7 (Bz b k).list ts).2.1) else(b,Dp [108,111,110,103])
def Beq (b:Ba) (k:Bq) (ts:List Bq):Ba×Re:=Fs b (Cx (Bz b k) (Bz b k).kind (Ua (Bz b k).list ts).1) (Cu (Ua (Bz b k).list ts).2)
def Rb (b:Ba) (k:Bq):Ba×Re:=(b,Jr (Bz b k).list)
def Pz (b:Ba) (k t:Bq):Ba×Re:=(b,Ji (decide (t∈(Bz b k).list)))
def X0 (b:Ba) (k m:Bq):Ba×Re:=(b,Jr (Btw (Bz b k).list (Bz b m).list))
def X4 (b:Ba) (k m:Bq):Ba×Re:=(b,Jr (B07 (Bz b k).list (Bz b m).list))
def Bcn (b:Ba) (k m:Bq):Ba×Re:=(b,Jr (Bty (Bz b k).list (Bz b m).list))
theorem Bk6 (b:Ba) (k:Bq) (ts:List Bq) (hb:BaG b) (hk:k.length≤40) (hts:ts.length≤1000):Bc (ev R) 168 [.d (Db b), .d (Bf ([83,65,68,68]::k::ts))]=some (Bo (Bep b k ts)):=Bb fun H=>by
 refine Bh (fn:=f168) rfl rfl ?_
 have p1:=Jd b k hb.sm
 have q:=Dv hb (t:=k) (by omega)
 unfold Bep
 have eN:=Bv [110,117,109,98,101,114]
 have eL:=Bv [108,111,110,103]
 have eP:=Bv [112,108,97,99,101]
 have eO:=Bv [110,111,110,101]
 have no:=Gp
 generalize Bz b k=e at*
 obtain⟨key,till,kind,text,list,scores,fields⟩:=e
 obtain⟨q1,q2,q3,q4,q5,q6,q7,q8,q9,q10⟩:=q
 dsimp only[Cx,Ck,Cj,Da] at*
 have c00: (0:Int)< (ts.length:Int)+1+1:=by omega
 have c01: (1:Int)< (ts.length:Int)+1+1:=by omega
 have c02: (0:Int)≤(ts.length:Int)+1+1:=by omega
 have c03: (2:Int)≤(ts.length:Int)+1+1:=by omega
 have vq:=Bx3 list ts ⟨q3,q4⟩
 have pv:=B60 list ts (by omega) (by omega)
 generalize U7 list ts=V at*
 obtain⟨vl,vn,vo⟩:=V
 dsimp only at*
 have q:EnQ ⟨key,till,3,text,vl,scores,fields⟩:=⟨q1,q2,vq.1,vq.2,q5,q6,q7,q8,q9,by dsimp only;omega⟩
 have p2:=Js vn
 have p3:=K6 b _ (Cu vn) hb.sm q.sm q.fit
 generalize Fs b ⟨key,till,3,text,vl,scores,fields⟩ (Cu vn)=P at*
 unfold Cu at p3
 cases vo
 ·simp(maxSteps:=1000000) [Ca,-List.getD_eq_getElem?_getD,-List.map_map,f168,p1,eN,eL,eP,eO,no,Bo,pv,Dp,c00,c01,c02,c03]
 ·simp(maxSteps:=1000000) [Ca,-List.getD_eq_getElem?_getD,-List.map_map,f168,p1,eN,eL,eP,eO,no,Bo,pv,p2,p3,c00,c01,c02,c03]
theorem Bk7 (b:Ba) (k:Bq) (ts:List Bq) (hb:BaG b) (hk:k.length≤40) (hts:ts.length≤1000):Bc (ev R) 168 [.d (Db b), .d (Bf ([83,82,69,77]::k::ts))]=some (Bo (Beq b k ts)):=Bb fun H=>by
 refine Bh (fn:=f168) rfl rfl ?_
 have p1:=Jd b k hb.sm
 have q:=Dv hb (t:=k) (by omega)
 unfold Beq
 have eN:=Bv [110,117,109,98,101,114]
 have eL:=Bv [108,111,110,103]
 have eP:=Bv [112,108,97,99,101]
 have eO:=Bv [110,111,110,101]
 have no:=Gp
 generalize Bz b k=e at*
 obtain⟨key,till,kind,text,list,scores,fields⟩:=e
 obtain⟨q1,q2,q3,q4,q5,q6,q7,q8,q9,q10⟩:=q
 dsimp only[Cx,Ck,Cj,Da] at*
 have c00: (0:Int)< (ts.length:Int)+1+1:=by omega
 have c01: (1:Int)< (ts.length:Int)+1+1:=by omega
 have c02: (0:Int)≤(ts.length:Int)+1+1:=by omega
 have c03: (2:Int)≤(ts.length:Int)+1+1:=by omega
 have vq:=Bt1 list ts ⟨q3,q4⟩
 have pv:=B61 list ts (by omega) (by omega)
 generalize Ua list ts=V at*
 obtain⟨vl,vn⟩:=V
 dsimp only at*
 have q:EnQ ⟨key,till,kind,text,vl,scores,fields⟩:=⟨q1,q2,vq.1,vq.2,q5,q6,q7,q8,q9,by dsimp only;omega⟩
 have p2:=Js vn
 have p3:=K6 b _ (Cu vn) hb.sm q.sm q.fit
 generalize Fs b ⟨key,till,kind,text,vl,scores,fields⟩ (Cu vn)=P at*
 unfold Cu at p3
 simp(maxSteps:=1000000) [Ca,-List.getD_eq_getElem?_getD,-List.map_map,f168,p1,eN,eL,eP,eO,no,Bo,pv,p2,p3,c00,c01,c02,c03]
theorem Bcc (b:Ba) (k:Bq) (hb:BaG b) (hk:k.length≤40):Bc (ev R) 168 [.d (Db b), .d (Bf ([[83,77,69,77,66,69,82,83],k]))]=some (Bo (Rb b k)):=Bb fun H=>by
 refine Bh (fn:=f168) rfl rfl ?_
 have p1:=Jd b k hb.sm
 have q:=Dv hb (t:=k) (by omega)
 unfold Rb
 have eN:=Bv [110,117,109,98,101,114]
 have eL:=Bv [108,111,110,103]
 have eP:=Bv [112,108,97,99,101]
 have eO:=Bv [110,111,110,101]
 have no:=Gp
 generalize Bz b k=e at*
 obtain⟨key,till,kind,text,list,scores,fields⟩:=e
 obtain⟨q1,q2,q3,q4,q5,q6,q7,q8,q9,q10⟩:=q
 dsimp only[Cx,Ck,Cj,Da] at*
 have p2:=Xv list
 simp(maxSteps:=1000000) [Ca,-List.getD_eq_getElem?_getD,-List.map_map,f168,p1,eN,eL,eP,eO,no,Bo,p2,Jr]
theorem Bh4 (b:Ba) (k:Bq) (hb:BaG b) (hk:k.length≤40):Bc (ev R) 168 [.d (Db b), .d (Bf ([[83,67,65,82,68],k]))]=some (Bo (U2 b k)):=Bb fun H=>by
 refine Bh (fn:=f168) rfl rfl ?_
 have p1:=Jd b k hb.sm
 have q:=Dv hb (t:=k) (by omega)
 unfold U2
 have eN:=Bv [110,117,109,98,101,114]
 have eL:=Bv [108,111,110,103]
 have eP:=Bv [112,108,97,99,101]
 have eO:=Bv [110,111,110,101]
 have no:=Gp
 generalize Bz b k=e at*
 obtain⟨key,till,kind,text,list,scores,fields⟩:=e
 obtain⟨q1,q2,q3,q4,q5,q6,q7,q8,q9,q10⟩:=q
 dsimp only[Cx,Ck,Cj,Da] at*
 have p2:=Js list.length
 simp(maxSteps:=1000000) [Ca,-List.getD_eq_getElem?_getD,-List.map_map,f168,p1,eN,eL,eP,eO,no,Bo,p2,Cu]
theorem Baf (b:Ba) (k:Bq) (t:Bq) (hb:BaG b) (hk:k.length≤40) (ht:t.length≤40):Bc (ev R) 168 [.d (Db b), .d (Bf ([[83,73,83,77,69,77,66,69,82],k,t]))]=some (Bo (Pz b k t)):=Bb fun H=>by
 refine Bh (fn:=f168) rfl rfl ?_
 have p1:=Jd b k hb.sm
 have q:=Dv hb (t:=k) (by omega)
 unfold Pz
 have eN:=Bv [110,117,109,98,101,114]
 have eL:=Bv [108,111,110,103]
 have eP:=Bv [112,108,97,99,101]
 have eO:=Bv [110,111,110,101]
 have no:=Gp
 generalize Bz b k=e at*
 obtain⟨key,till,kind,text,list,scores,fields⟩:=e
 obtain⟨q1,q2,q3,q4,q5,q6,q7,q8,q9,q10⟩:=q
 dsimp only[Cx,Ck,Cj,Da] at*
 have pv:=Bh9 list t (by omega)
 generalize decide (t∈list)=ZV at*
 have p2:=Bef ZV
 simp(maxSteps:=1000000) [Ca,-List.getD_eq_getElem?_getD,-List.map_map,f168,p1,eN,eL,eP,eO,no,Bo,pv,p2]
theorem Bf1 (b:Ba) (k:Bq) (m:Bq) (hb:BaG b) (hk:k.length≤40) (hm:m.length≤40):Bc (ev R) 168 [.d (Db b), .d (Bf ([[83,73,78,84,69,82],k,m]))]=some (Bo (X0 b k m)):=Bb fun H=>by
 have p9:=Jd b m hb.sm
 have q':=Dv hb (t:=m) (by omega)
 refine Bh (fn:=f168) rfl rfl ?_
 have p1:=Jd b k hb.sm
 have q:=Dv hb (t:=k) (by omega)
 unfold X0
 have eN:=Bv [110,117,109,98,101,114]
 have eL:=Bv [108,111,110,103]
 have eP:=Bv [112,108,97,99,101]
 have eO:=Bv [110,111,110,101]
 have no:=Gp
 generalize Bz b k=e at*
 obtain⟨key,till,kind,text,list,scores,fields⟩:=e
 obtain⟨q1,q2,q3,q4,q5,q6,q7,q8,q9,q10⟩:=q
 dsimp only[Cx,Ck,Cj,Da] at*
 generalize Bz b m=e2 at*
 obtain⟨key2,till2,kind2,text2,list2,scores2,fields2⟩:=e2
 obtain⟨_,_,qq,_,_,_,_,_,_,_⟩:=q'
 dsimp only at*
 have pv:=B62 list list2 (by omega) (by omega)
 generalize Btw list list2=ZV at*
 have p2:=Xv ZV
 simp(maxSteps:=1000000) [Ca,-List.getD_eq_getElem?_getD,-List.map_map,f168,p1,eN,eL,eP,eO,no,Bo,p9,pv,p2,Jr]
theorem Bf2 (b:Ba) (k:Bq) (m:Bq) (hb:BaG b) (hk:k.length≤40) (hm:m.length≤40):Bc (ev R) 168 [.d (Db b), .d (Bf ([[83,85,78,73,79,78],k,m]))]=some (Bo (X4 b k m)):=Bb fun H=>by
 have p9:=Jd b m hb.sm
 have q':=Dv hb (t:=m) (by omega)
 refine Bh (fn:=f168) rfl rfl ?_
 have p1:=Jd b k hb.sm
 have q:=Dv hb (t:=k) (by omega)
 unfold X4
 have eN:=Bv [110,117,109,98,101,114]
 have eL:=Bv [108,111,110,103]
 have eP:=Bv [112,108,97,99,101]
 have eO:=Bv [110,111,110,101]
 have no:=Gp
 generalize Bz b k=e at*
 obtain⟨key,till,kind,text,list,scores,fields⟩:=e
 obtain⟨q1,q2,q3,q4,q5,q6,q7,q8,q9,q10⟩:=q
 dsimp only[Cx,Ck,Cj,Da] at*
 generalize Bz b m=e2 at*
 obtain⟨key2,till2,kind2,text2,list2,scores2,fields2⟩:=e2
 obtain⟨_,_,qq,_,_,_,_,_,_,_⟩:=q'
 dsimp only at*
 have pv:=B63 list list2 (by omega) (by omega)
 generalize B07 list list2=ZV at*
 have p2:=Xv ZV
 simp(maxSteps:=1000000) [Ca,-List.getD_eq_getElem?_getD,-List.map_map,f168,p1,eN,eL,eP,eO,no,Bo,p9,pv,p2,Jr]
theorem Bh5 (b:Ba) (k:Bq) (m:Bq) (hb:BaG b) (hk:k.length≤40) (hm:m.length≤40):Bc (ev R) 168 [.d (Db b), .d (Bf ([[83,68,73,70,70],k,m]))]=some (Bo (Bcn b k m)):=Bb fun H=>by
 have p9:=Jd b m hb.sm
 have q':=Dv hb (t:=m) (by omega)
 refine Bh (fn:=f168) rfl rfl ?_
 have p1:=Jd b k hb.sm
 have q:=Dv hb (t:=k) (by omega)
 unfold Bcn
 have eN:=Bv [110,117,109,98,101,114]
 have eL:=Bv [108,111,110,103]
 have eP:=Bv [112,108,97,99,101]
 have eO:=Bv [110,111,110,101]
 have no:=Gp
 generalize Bz b k=e at*
 obtain⟨key,till,kind,text,list,scores,fields⟩:=e
 obtain⟨q1,q2,q3,q4,q5,q6,q7,q8,q9,q10⟩:=q
 dsimp only[Cx,Ck,Cj,Da] at*
 generalize Bz b m=e2 at*
 obtain⟨key2,till2,kind2,text2,list2,scores2,fields2⟩:=e2
 obtain⟨_,_,qq,_,_,_,_,_,_,_⟩:=q'
 dsimp only at*
 have pv:=B64 list list2 (by omega) (by omega)
 generalize Bty list list2=ZV at*
 have p2:=Xv ZV
 simp(maxSteps:=1000000) [Ca,-List.getD_eq_getElem?_getD,-List.map_map,f168,p1,eN,eL,eP,eO,no,Bo,p9,pv,p2,Jr]
end Go.Proofs.YtpajcoanfkeibaaGreatDoor.Code

/- Lemmas (several texts in one). -/
import Derived.Test.YtjdmiodinhlchaaGreatMBaseDrop7
import Derived.Test.YtjdmiodinhlchaaGreatMBaseDrop20
import Derived.Test.YtjdmiodinhlchaaGreatMBaseDrop26
set_option maxRecDepth 100000
set_option maxHeartbeats 2000000
set_option linter.unusedSimpArgs false
set_option linter.unusedVariables false
namespace Go.Proofs.YtjdmiodinhlchaaGreat.Code
open Go Go.Ev Go.Proofs
def Ri (b:Ba):Ba×Re:=(b,Cf b.ents.length)
def Si (b:Ba):Ba×Re:=(⟨b.now,[]⟩,Nk)
def Bcg (b:Ba) (p:Bm):Ba×Re:=(b,F1 (Bc6 b p))
def Bcj (b:Ba) (k:Bm):Ba×Re:=(b,Jd (Bc5 (Bt b k).kind.toNat))
def Bmk (b:Ba) (k:Bm):Ba×Re:=(b,if(Bt b k).kind=0 then Cf (-2) else if(Bt b k).till=0 then Cf (-1) else Cf ((Bt b k).till - b.now))
def Ki (e:En) (n:Int):En:=⟨e.key,n,e.kind,e.text,e.list,e.scores,e.fields⟩
def Ng (e:En) (k:Bm):En:=⟨k,e.till,e.kind,e.text,e.list,e.scores,e.fields⟩
def Mj (b:Ba) (k:Bm):Ba×Re:=Dg b (Ki (Bt b k) 0) (Fr (!decide ((Bt b k).till=0)))
def Pq (b:Ba) (k m:Bm):Ba×Re:=if(Bt b k).kind=0 then(b,Cu [110,111,110,101]) else Dg (Cy b k) (Ng (Bt b k) m) Nk
def Sl (b:Ba) (k:Bm) (n:Int):Ba×Re:=if(Bt b k).kind=0 then(b,Cf 0) else if n≤b.now then(Cy b k,Cf 1) else Dg b (Ki (Bt b k) n) (Cf 1)
def Po (b:Ba) (k y:Bm):Ba×Re:=if(C8 y).2=true∧(C8 y).1≤1000000 then Sl b k (b.now+(C8 y).1) else(b,Cu [110,117,109,98,101,114])
def K4 (b:Ba) (k y:Bm):Ba×Re:=if(C8 y).2=true∧(C8 y).1≤2000000 then Sl b k (C8 y).1 else(b,Cu [110,117,109,98,101,114])
def Q0 (ks:List Bm) (i:Nat) (s:Ba×Nat):Ba×Nat:=(Cy s.1 (ks.getD i []),s.2+(if Gr s.1.ents (ks.getD i [])=true then 1 else 0))
def Wv (b:Ba) (ks:List Bm):Ba×Nat:=(List.range' 0 ks.length).foldl (fun s i=>Q0 ks i s) (b,0)
def Zl (ks:List Bm) (i:Nat) (s:Ba×Nat):Ba×Nat:=(s.1,s.2+(if Gr s.1.ents (ks.getD i [])=true then 1 else 0))
def Bfi (b:Ba) (ks:List Bm):Ba×Nat:=(List.range' 0 ks.length).foldl (fun s i=>Zl ks i s) (b,0)
def Bjb (b:Ba) (ks:List Bm):Ba×Re:=((Wv b ks).1,Cf (Wv b ks).2)
def Pn (b:Ba) (ks:List Bm):Ba×Re:=((Bfi b ks).1,Cf (Bfi b ks).2)
theorem K6 {b:Ba} (h:BaG b) (t:Bm):0≤(Bt b t).kind∧(Bt b t).kind≤5:=by
 rcases Bhi h t with a|a
 ·have:=(Zi a).kind;omega
 ·rw[a];simp
theorem Z7 (b:Ba) (hb:BaG b):Be (ev R) 115 [.d (Cv b), .d (Bf [[68,66,83,73,90,69]])]=some (Bk (Ri b)):=Bb fun H=>by
 refine Bi (fn:=f115) rfl rfl ?_
 have p2:=F6 b.ents.length
 obtain⟨now,ents⟩:=b
 simp(maxSteps:=1000000) [Ca,-List.getD_eq_getElem?_getD,-List.map_map,f115,Ri,p2,Bk,Cf]
theorem Bb8 (b:Ba) (hb:BaG b):Be (ev R) 115 [.d (Cv b), .d (Bf [[70,76,85,83,72]])]=some (Bk (Si b)):=Bb fun H=>by
 refine Bi (fn:=f115) rfl rfl ?_
 simp(maxSteps:=1000000) [Ca,-List.getD_eq_getElem?_getD,-List.map_map,f115,Si,Bk,Nk,Dr]
theorem Bfa (b:Ba) (p:Bm) (hb:BaG b) (hp:p.length≤40):Be (ev R) 115 [.d (Cv b), .d (Bf [[75,69,89,83],p])]=some (Bk (Bcg b p)):=Bb fun H=>by
 refine Bi (fn:=f115) rfl rfl ?_
 have p1:=B00 b p hb.sm hb.fit (by omega)
 have p2:=Rf (Bc6 b p)
 unfold Bcg
 generalize Bc6 b p=ZV at*
 simp(maxSteps:=1000000) [Ca,-List.getD_eq_getElem?_getD,-List.map_map,f115,p1,p2,Bk,F1]
theorem Bfb (b:Ba) (k:Bm) (hb:BaG b) (hk:k.length≤40):Be (ev R) 115 [.d (Cv b), .d (Bf ([[84,89,80,69],k]))]=some (Bk (Bcj b k)):=Bb fun H=>by
 refine Bi (fn:=f115) rfl rfl ?_
 have p1:=Fm b k hb.sm
 have kq:=K6 hb k
 have nq:=hb.now
 have q:=C0 hb (t:=k) (by omega)
 unfold Bcj
 have eN:=Br [110,117,109,98,101,114]
 have eL:=Br [108,111,110,103]
 have eP:=Br [112,108,97,99,101]
 have eO:=Br [110,111,110,101]
 have no:=Fa
 generalize Bt b k=e at*
 obtain⟨key,till,kind,text,list,scores,fields⟩:=e
 obtain⟨q1,q2,q3,q4,q5,q6,q7,q8,q9,q10⟩:=q
 dsimp only[Ki,Ng,Fr] at*
 have p2:=Bxr kind kq
 have p3:=Ym (Bc5 kind.toNat)
 generalize Bc5 kind.toNat=T at*
 simp(maxSteps:=1000000) [Ca,-List.getD_eq_getElem?_getD,-List.map_map,f115,p1,eN,eL,eP,eO,no,Bk,p2,p3,Jd]
theorem Bi3 (b:Ba) (k:Bm) (hb:BaG b) (hk:k.length≤40):Be (ev R) 115 [.d (Cv b), .d (Bf ([[84,84,76],k]))]=some (Bk (Bmk b k)):=Bb fun H=>by
 refine Bi (fn:=f115) rfl rfl ?_
 have p1:=Fm b k hb.sm
 have kq:=K6 hb k
 have nq:=hb.now
 have q:=C0 hb (t:=k) (by omega)
 unfold Bmk
 have eN:=Br [110,117,109,98,101,114]
 have eL:=Br [108,111,110,103]
 have eP:=Br [112,108,97,99,101]
 have eO:=Br [110,111,110,101]
 have no:=Fa
 generalize Bt b k=e at*
 obtain⟨key,till,kind,text,list,scores,fields⟩:=e
 obtain⟨q1,q2,q3,q4,q5,q6,q7,q8,q9,q10⟩:=q
 dsimp only[Ki,Ng,Fr] at*
 have i1:=F6 (-2)
 have i2:=F6 (-1)
 have i3:=F6 (till - b.now)
 have w:IntKind.i64.wrap (till - b.now)=till - b.now:=IntWalk.i64_in _ (by omega)
 by_cases a:kind=0
 ·simp(maxSteps:=1000000) [Ca,-List.getD_eq_getElem?_getD,-List.map_map,f115,p1,eN,eL,eP,eO,no,Bk,i1,eq_true a,Cf]
 ·by_cases c:till=0
  ·simp(maxSteps:=1000000) [Ca,-List.getD_eq_getElem?_getD,-List.map_map,f115,p1,eN,eL,eP,eO,no,Bk,i2,eq_false a,eq_true c,Cf]
  ·simp(maxSteps:=1000000) [Ca,-List.getD_eq_getElem?_getD,-List.map_map,f115,p1,eN,eL,eP,eO,no,Bk,i3,eq_false a,eq_false c,w,Cf]
theorem Xo (b:Ba) (k:Bm) (hb:BaG b) (hk:k.length≤40):Be (ev R) 115 [.d (Cv b), .d (Bf ([[80,69,82,83,73,83,84],k]))]=some (Bk (Mj b k)):=Bb fun H=>by
 refine Bi (fn:=f115) rfl rfl ?_
 have p1:=Fm b k hb.sm
 have kq:=K6 hb k
 have nq:=hb.now
 have q:=C0 hb (t:=k) (by omega)
 unfold Mj
 have eN:=Br [110,117,109,98,101,114]
 have eL:=Br [108,111,110,103]
 have eP:=Br [112,108,97,99,101]
 have eO:=Br [110,111,110,101]
 have no:=Fa
 generalize Bt b k=e at*
 obtain⟨key,till,kind,text,list,scores,fields⟩:=e
 obtain⟨q1,q2,q3,q4,q5,q6,q7,q8,q9,q10⟩:=q
 dsimp only[Ki,Ng,Fr] at*
 have q:EnQ ⟨key,0,kind,text,list,scores,fields⟩:=⟨q1,q2,q3,q4,q5,q6,q7,q8,by simp,q10⟩
 have p2:=Yn (!decide (till=0))
 unfold Fr at p2
 generalize hz: (!decide (till=0))=Z at*
 have p3:=G5 b _ (Re.mk 2 (if Z=true then 1 else 0) [] [] []) hb.sm q.sm q.fit
 generalize Dg b _ _=P at*
 by_cases a:till=0
 ·subst a
  simp at hz
  subst hz
  simp only[Bool.false_eq_true,if_false] at p2 p3
  simp(maxSteps:=1000000) [Ca,-List.getD_eq_getElem?_getD,-List.map_map,f115,p1,eN,eL,eP,eO,no,Bk,p2,p3]
 ·simp[a] at hz
  subst hz
  simp only[if_true] at p2 p3
  simp(maxSteps:=1000000) [Ca,-List.getD_eq_getElem?_getD,-List.map_map,f115,p1,eN,eL,eP,eO,no,Bk,p2,p3,eq_false a]
theorem Baa (b:Ba) (k:Bm) (m:Bm) (hb:BaG b) (hk:k.length≤40) (hm:m.length≤40):Be (ev R) 115 [.d (Cv b), .d (Bf ([[82,69,78,65,77,69],k,m]))]=some (Bk (Pq b k m)):=Bb fun H=>by
 have pd:=Bfd b k hb.sm
 have hd:=Nz hb k
 refine Bi (fn:=f115) rfl rfl ?_
 have p1:=Fm b k hb.sm
 have kq:=K6 hb k
 have nq:=hb.now
 have q:=C0 hb (t:=k) (by omega)
 unfold Pq
 have eN:=Br [110,117,109,98,101,114]
 have eL:=Br [108,111,110,103]
 have eP:=Br [112,108,97,99,101]
 have eO:=Br [110,111,110,101]
 have no:=Fa
 generalize Bt b k=e at*
 obtain⟨key,till,kind,text,list,scores,fields⟩:=e
 obtain⟨q1,q2,q3,q4,q5,q6,q7,q8,q9,q10⟩:=q
 dsimp only[Ki,Ng,Fr] at*
 generalize Cy b k=B at*
 have q:EnQ ⟨m,till,kind,text,list,scores,fields⟩:=⟨by dsimp only;omega,q2,q3,q4,q5,q6,q7,q8,q9,q10⟩
 have p3:=G5 B _ Nk hd.sm q.sm q.fit
 generalize Dg B _ Nk=P at*
 unfold Nk at p3
 by_cases a:kind=0
 ·simp(maxSteps:=1000000) [Ca,-List.getD_eq_getElem?_getD,-List.map_map,f115,p1,eN,eL,eP,eO,no,Bk,eq_true a,Cu]
 ·simp(maxSteps:=1000000) [Ca,-List.getD_eq_getElem?_getD,-List.map_map,f115,p1,eN,eL,eP,eO,no,Bk,eq_false a,pd,p3]
theorem Z9 (b:Ba) (k:Bm) (y:Bm) (hb:BaG b) (hk:k.length≤40) (hy:y.length≤40):Be (ev R) 115 [.d (Cv b), .d (Bf ([[69,88,80,73,82,69],k,y]))]=some (Bk (Po b k y)):=Bb fun H=>by
 have pd:=Bfd b k hb.sm
 refine Bi (fn:=f115) rfl rfl ?_
 have p1:=Fm b k hb.sm
 have kq:=K6 hb k
 have nq:=hb.now
 have q:=C0 hb (t:=k) (by omega)
 unfold Po Sl
 have eN:=Br [110,117,109,98,101,114]
 have eL:=Br [108,111,110,103]
 have eP:=Br [112,108,97,99,101]
 have eO:=Br [110,111,110,101]
 have no:=Fa
 generalize Bt b k=e at*
 obtain⟨key,till,kind,text,list,scores,fields⟩:=e
 obtain⟨q1,q2,q3,q4,q5,q6,q7,q8,q9,q10⟩:=q
 dsimp only[Ki,Ng,Fr] at*
 have i0:=F0 y
 have pi0:=Jx y (by omega)
 generalize C8 y=I0 at*
 obtain⟨n0,o0⟩:=I0
 dsimp only at*
 generalize Cy b k=B at*
 have j0:=F6 0
 have j1:=F6 1
 cases o0
 ·simp(maxSteps:=1000000) [Ca,-List.getD_eq_getElem?_getD,-List.map_map,f115,p1,eN,eL,eP,eO,no,Bk,pi0,Cu]
 by_cases a:n0≤1000000
 rotate_left
 ·have a1:1000000<n0:=by omega
  have a2: (1000000:Int)<n0:=by omega
  simp(maxSteps:=1000000) [Ca,-List.getD_eq_getElem?_getD,-List.map_map,f115,p1,eN,eL,eP,eO,no,Bk,pi0,eq_false a,a1,a2,Cu]
 have a1: ¬1000000<n0:=by omega
 have a2: ¬ (2000000:Int)<n0:=by omega
 have w:IntKind.i64.wrap (b.now+n0)=b.now+n0:=IntWalk.i64_in _ (by omega)
 skip
 ·by_cases c:kind=0
  ·simp(maxSteps:=1000000) [Ca,-List.getD_eq_getElem?_getD,-List.map_map,f115,p1,eN,eL,eP,eO,no,Bk,pi0,eq_true a,a1,a2,w,eq_true c,j0,Cf,a1]
  by_cases d: (b.now+n0)≤b.now
  ·simp(maxSteps:=1000000) [Ca,-List.getD_eq_getElem?_getD,-List.map_map,f115,p1,eN,eL,eP,eO,no,Bk,pi0,eq_true a,a1,a2,w,eq_false c,eq_true d,pd,j1,Cf,a1]
  have q:EnQ ⟨key,(b.now+n0),kind,text,list,scores,fields⟩:=⟨q1,q2,q3,q4,q5,q6,q7,q8,by dsimp only;omega,q10⟩
  have p3:=G5 b _ (Cf 1) hb.sm q.sm q.fit
  generalize Dg b _ (Cf 1)=P at*
  unfold Cf at p3
  simp(maxSteps:=1000000) [Ca,-List.getD_eq_getElem?_getD,-List.map_map,f115,p1,eN,eL,eP,eO,no,Bk,pi0,eq_true a,a1,a2,w,eq_false c,eq_false d,j1,p3,a1]
theorem Wr (b:Ba) (k:Bm) (y:Bm) (hb:BaG b) (hk:k.length≤40) (hy:y.length≤40):Be (ev R) 115 [.d (Cv b), .d (Bf ([[69,88,80,73,82,69,65,84],k,y]))]=some (Bk (K4 b k y)):=Bb fun H=>by
 have pd:=Bfd b k hb.sm
 refine Bi (fn:=f115) rfl rfl ?_
 have p1:=Fm b k hb.sm
 have kq:=K6 hb k
 have nq:=hb.now
 have q:=C0 hb (t:=k) (by omega)
 unfold K4 Sl
 have eN:=Br [110,117,109,98,101,114]
 have eL:=Br [108,111,110,103]
 have eP:=Br [112,108,97,99,101]
 have eO:=Br [110,111,110,101]
 have no:=Fa
 generalize Bt b k=e at*
 obtain⟨key,till,kind,text,list,scores,fields⟩:=e
 obtain⟨q1,q2,q3,q4,q5,q6,q7,q8,q9,q10⟩:=q
 dsimp only[Ki,Ng,Fr] at*
 have i0:=F0 y
 have pi0:=Jx y (by omega)
 generalize C8 y=I0 at*
 obtain⟨n0,o0⟩:=I0
 dsimp only at*
 generalize Cy b k=B at*
 have j0:=F6 0
 have j1:=F6 1
 cases o0
 ·simp(maxSteps:=1000000) [Ca,-List.getD_eq_getElem?_getD,-List.map_map,f115,p1,eN,eL,eP,eO,no,Bk,pi0,Cu]
 by_cases a:n0≤2000000
 rotate_left
 ·have a1:2000000<n0:=by omega
  have a2: (1000000:Int)<n0:=by omega
  simp(maxSteps:=1000000) [Ca,-List.getD_eq_getElem?_getD,-List.map_map,f115,p1,eN,eL,eP,eO,no,Bk,pi0,eq_false a,a1,a2,Cu]
 have a1: ¬2000000<n0:=by omega
 have a2: ¬ (2000000:Int)<n0:=by omega
 have w:IntKind.i64.wrap (b.now+n0)=b.now+n0:=IntWalk.i64_in _ (by omega)
 by_cases e1: (1000000:Int)<n0
 all_goals
  by_cases c:kind=0
  ·simp(maxSteps:=1000000) [Ca,-List.getD_eq_getElem?_getD,-List.map_map,f115,p1,eN,eL,eP,eO,no,Bk,pi0,eq_true a,a1,a2,w,eq_true c,j0,Cf,e1]
  by_cases d:n0≤b.now
  ·simp(maxSteps:=1000000) [Ca,-List.getD_eq_getElem?_getD,-List.map_map,f115,p1,eN,eL,eP,eO,no,Bk,pi0,eq_true a,a1,a2,w,eq_false c,eq_true d,pd,j1,Cf,e1]
  have q:EnQ ⟨key,n0,kind,text,list,scores,fields⟩:=⟨q1,q2,q3,q4,q5,q6,q7,q8,by dsimp only;omega,q10⟩
  have p3:=G5 b _ (Cf 1) hb.sm q.sm q.fit
  generalize Dg b _ (Cf 1)=P at*
  unfold Cf at p3
  simp(maxSteps:=1000000) [Ca,-List.getD_eq_getElem?_getD,-List.map_map,f115,p1,eN,eL,eP,eO,no,Bk,pi0,eq_true a,a1,a2,w,eq_false c,eq_false d,j1,p3,e1]
theorem Bid (ks:List Bm) (i:Nat) (s:Ba×Nat) (h:BaG s.1):BaG (Q0 ks i s).1:=Nz h _
theorem Biq (H:Hp) (A B C:Ev.Obj) (b:Ba) (ks:List Bm) (hb:BaG b) (hk:ks.length≤1000):
  Gives (fun o e X=>o= .exit 1∧X=ap H [A,B,C, .row 0 2 [.d (Cv (Wv b ks).1)]]∧e.get 4= .ptr (Bc H+1) 0 0 0∧e.get 5= .ptr (Bc H+2) 0 0 0∧e.get 6= .d (.int .i64 (Wv b ks).2)∧e.get 7= .ptr (Bc H+3) 0 0 0)
   (Bg (Bo (ev R) R.glob (Bc H) Bg La) [1,4,5,6,7,8] ⟨[(1, .d (Bf ([68,69,76]::ks))),(4, .ptr (Bc H+1) 0 0 0),(5, .ptr (Bc H+2) 0 0 0),(6, .d (.int .i64 0)),(7, .ptr (Bc H+3) 0 0 0),(8, .d (.int .i64 1))],ap H [A,B,C, .row 0 2 [.d (Cv b)]]⟩):=by
 refine Rb (F:=Bo (ev R) R.glob (Bc H) Bg La) (lv:=[1,4,5,6,7,8]) (Q0 ks) ks.length
  (fun i s e X=>BaG s.1∧s.2≤i∧X=ap H [A,B,C, .row 0 2 [.d (Cv s.1)]]∧e.get 1= .d (Bf ([68,69,76]::ks))∧e.get 4= .ptr (Bc H+1) 0 0 0∧e.get 5= .ptr (Bc H+2) 0 0 0∧e.get 6= .d (.int .i64 s.2)∧e.get 7= .ptr (Bc H+3) 0 0 0∧e.get 8= .d (.int .i64 ((i:Int)+1)))
  (fun s o e X=>o= .exit 1∧X=ap H [A,B,C, .row 0 2 [.d (Cv s.1)]]∧e.get 4= .ptr (Bc H+1) 0 0 0∧e.get 5= .ptr (Bc H+2) 0 0 0∧e.get 6= .d (.int .i64 s.2)∧e.get 7= .ptr (Bc H+3) 0 0 0)
  ?_ ?_ ks.length 0 (b,0) _ _ (by omega) ⟨hb,by simp,rfl,rfl,rfl,rfl,rfl,rfl,rfl⟩
 ·rintro⟨B1,n⟩ e X ⟨hg,hn,rfl,g1,g4,g5,g6,g7,g8⟩
  dsimp only at*
  simp(maxSteps:=1000000) [Ca,-List.getD_eq_getElem?_getD,-List.map_map,La,g1,g4,g5,g6,g7,g8]
 ·rintro i ⟨B1,n⟩ e X hi ⟨hg,hn,rfl,g1,g4,g5,g6,g7,g8⟩
  dsimp only at*
  have c: (i:Int)< (ks.length:Int):=by omega
  have c0: (0:Int)≤(i:Int)+1:=by omega
  have c1: (i:Int)+1< (ks.length:Int)+1:=by omega
  have c2: ((i:Int)+1).toNat=i+1:=by omega
  have c3: (0:Int)< (ks.length:Int)+1:=by omega
  have g:=Cw ks i hi
  have gg: ∀x:D,(x::ks.map D.str).getD (i+1) .nilp= .str (ks.getD i []):=fun x=>by rw[←g];rfl
  have w1:IntKind.i64.wrap ((i:Int)+1+1)=(i:Int)+1+1:=IntWalk.i64_in _ (by omega)
  have w2:IntKind.i64.wrap ((n:Int)+1)=(n:Int)+1:=IntWalk.i64_in _ (by omega)
  have p1:=Bfc B1 (ks.getD i []) hg.sm.len
  have p2:=Bfd B1 (ks.getD i []) hg.sm
  have hs:=Nz hg (ks.getD i [])
  unfold Q0
  generalize ks.getD i []=k at*
  generalize Cy B1 k=B2 at*
  have n1:n+1≤i+1:=by omega
  have n2:n≤i+1:=by omega
  cases hh:Gr B1.ents k with
  |false=>
   rw[hh] at p1
   simp(maxSteps:=1000000) [Ca,-List.getD_eq_getElem?_getD,-List.map_map,La,g1,g4,g5,g6,g7,g8,c,c0,c1,c2,c3,hi,g,gg,w1,w2,p1,p2,hs,hg,n2,hh]
  |true=>
   rw[hh] at p1
   simp(maxSteps:=1000000) [Ca,-List.getD_eq_getElem?_getD,-List.map_map,La,g1,g4,g5,g6,g7,g8,c,c0,c1,c2,c3,hi,g,gg,w1,w2,p1,p2,hs,hg,n1,hh]
theorem Bi2 (b:Ba) (ks:List Bm) (hb:BaG b) (hk:ks.length≤1000):Be (ev R) 115 [.d (Cv b), .d (Bf ([68,69,76]::ks))]=some (Bk (Bjb b ks)):=Bb fun H=>by
 refine Bi (fn:=f115) rfl rfl ?_
 have lp:=fun A B C=> (Biq H A B C b ks hb hk).out
 unfold Bjb
 generalize Wv b ks=S at*
 obtain⟨B1,n⟩:=S
 dsimp only at*
 have p2:=F6 n
 have c3: (0:Int)< (ks.length:Int)+1:=by omega
 obtain⟨o,e',X',he,rfl,rfl,g4,g5,g6,g7⟩:=lp (.row 0 2 [.d (Cv b)]) (.row 0 2 [.agg [.d (.int .i64 0), .nils 7]]) (.row 0 5 [.agg [.d (.int .i64 0), .d (.int .i64 0), .d (.str []), .nils 1, .nils 5]])
 simp only[Bf,List.map_cons] at he
 simp(maxSteps:=1000000) [Ca,-List.getD_eq_getElem?_getD,-List.map_map,f115,p2,he,c3,g4,g5,g6,g7,Bk,Cf]
theorem Zv (H:Hp) (A B C:Ev.Obj) (b:Ba) (ks:List Bm) (hb:BaG b) (hk:ks.length≤1000):
  Gives (fun o e X=>o= .exit 1∧X=ap H [A,B,C, .row 0 2 [.d (Cv (Bfi b ks).1)]]∧e.get 4= .ptr (Bc H+1) 0 0 0∧e.get 5= .ptr (Bc H+2) 0 0 0∧e.get 6= .d (.int .i64 (Bfi b ks).2)∧e.get 7= .ptr (Bc H+3) 0 0 0)
   (Bg (Bo (ev R) R.glob (Bc H) Bg La) [1,4,5,6,7,8] ⟨[(1, .d (Bf ([69,88,73,83,84,83]::ks))),(4, .ptr (Bc H+1) 0 0 0),(5, .ptr (Bc H+2) 0 0 0),(6, .d (.int .i64 0)),(7, .ptr (Bc H+3) 0 0 0),(8, .d (.int .i64 1))],ap H [A,B,C, .row 0 2 [.d (Cv b)]]⟩):=by
 refine Rb (F:=Bo (ev R) R.glob (Bc H) Bg La) (lv:=[1,4,5,6,7,8]) (Zl ks) ks.length
  (fun i s e X=>BaG s.1∧s.2≤i∧X=ap H [A,B,C, .row 0 2 [.d (Cv s.1)]]∧e.get 1= .d (Bf ([69,88,73,83,84,83]::ks))∧e.get 4= .ptr (Bc H+1) 0 0 0∧e.get 5= .ptr (Bc H+2) 0 0 0∧e.get 6= .d (.int .i64 s.2)∧e.get 7= .ptr (Bc H+3) 0 0 0∧e.get 8= .d (.int .i64 ((i:Int)+1)))
  (fun s o e X=>o= .exit 1∧X=ap H [A,B,C, .row 0 2 [.d (Cv s.1)]]∧e.get 4= .ptr (Bc H+1) 0 0 0∧e.get 5= .ptr (Bc H+2) 0 0 0∧e.get 6= .d (.int .i64 s.2)∧e.get 7= .ptr (Bc H+3) 0 0 0)
  ?_ ?_ ks.length 0 (b,0) _ _ (by omega) ⟨hb,by simp,rfl,rfl,rfl,rfl,rfl,rfl,rfl⟩
 ·rintro⟨B1,n⟩ e X ⟨hg,hn,rfl,g1,g4,g5,g6,g7,g8⟩
  dsimp only at*
  simp(maxSteps:=1000000) [Ca,-List.getD_eq_getElem?_getD,-List.map_map,La,g1,g4,g5,g6,g7,g8]
 ·rintro i ⟨B1,n⟩ e X hi ⟨hg,hn,rfl,g1,g4,g5,g6,g7,g8⟩
  dsimp only at*
  have c: (i:Int)< (ks.length:Int):=by omega
  have c0: (0:Int)≤(i:Int)+1:=by omega
  have c1: (i:Int)+1< (ks.length:Int)+1:=by omega
  have c2: ((i:Int)+1).toNat=i+1:=by omega
  have c3: (0:Int)< (ks.length:Int)+1:=by omega
  have g:=Cw ks i hi
  have gg: ∀x:D,(x::ks.map D.str).getD (i+1) .nilp= .str (ks.getD i []):=fun x=>by rw[←g];rfl
  have w1:IntKind.i64.wrap ((i:Int)+1+1)=(i:Int)+1+1:=IntWalk.i64_in _ (by omega)
  have w2:IntKind.i64.wrap ((n:Int)+1)=(n:Int)+1:=IntWalk.i64_in _ (by omega)
  have p1:=Bfc B1 (ks.getD i []) hg.sm.len
  have p2:=Bfd B1 (ks.getD i []) hg.sm
  have hs:=Nz hg (ks.getD i [])
  unfold Zl
  generalize ks.getD i []=k at*
  generalize Cy B1 k=B2 at*
  have n1:n+1≤i+1:=by omega
  have n2:n≤i+1:=by omega
  cases hh:Gr B1.ents k with
  |false=>
   rw[hh] at p1
   simp(maxSteps:=1000000) [Ca,-List.getD_eq_getElem?_getD,-List.map_map,La,g1,g4,g5,g6,g7,g8,c,c0,c1,c2,c3,hi,g,gg,w1,w2,p1,p2,hs,hg,n2,hh]
  |true=>
   rw[hh] at p1
   simp(maxSteps:=1000000) [Ca,-List.getD_eq_getElem?_getD,-List.map_map,La,g1,g4,g5,g6,g7,g8,c,c0,c1,c2,c3,hi,g,gg,w1,w2,p1,p2,hs,hg,n1,hh]
theorem Z8 (b:Ba) (ks:List Bm) (hb:BaG b) (hk:ks.length≤1000):Be (ev R) 115 [.d (Cv b), .d (Bf ([69,88,73,83,84,83]::ks))]=some (Bk (Pn b ks)):=Bb fun H=>by
 refine Bi (fn:=f115) rfl rfl ?_
 have lp:=fun A B C=> (Zv H A B C b ks hb hk).out
 unfold Pn
 generalize Bfi b ks=S at*
 obtain⟨B1,n⟩:=S
 dsimp only at*
 have p2:=F6 n
 have c3: (0:Int)< (ks.length:Int)+1:=by omega
 obtain⟨o,e',X',he,rfl,rfl,g4,g5,g6,g7⟩:=lp (.row 0 2 [.d (Cv b)]) (.row 0 2 [.agg [.d (.int .i64 0), .nils 7]]) (.row 0 5 [.agg [.d (.int .i64 0), .d (.int .i64 0), .d (.str []), .nils 1, .nils 5]])
 simp only[Bf,List.map_cons] at he
 simp(maxSteps:=1000000) [Ca,-List.getD_eq_getElem?_getD,-List.map_map,f115,p2,he,c3,g4,g5,g6,g7,Bk,Cf]
end Go.Proofs.YtjdmiodinhlchaaGreat.Code

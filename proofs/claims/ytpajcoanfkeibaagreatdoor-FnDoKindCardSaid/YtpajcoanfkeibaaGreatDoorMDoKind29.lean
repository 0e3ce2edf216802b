/- Lemmas (several texts in one). -/
import Derived.Test.YtpajcoanfkeibaaGreatDoorMDoKind6
import Derived.Test.YtpajcoanfkeibaaGreatDoorMDoKind21
import Derived.Test.YtpajcoanfkeibaaGreatDoorMDoKind28
set_option maxRecDepth 100000
set_option maxHeartbeats 2000000
set_option linter.unusedSimpArgs false
set_option linter.unusedVariables false
open List renaming getD_eq_getElem?_getD → Cda, map_map → Cdb, map_cons → Cdd
namespace Go.Proofs.YtpajcoanfkeibaaGreatDoor.Code
open Go Go.Ev Go.Proofs
def X0 (b:Ba):Ba×Re:=(b,Cs b.ents.length)
def Y4 (b:Ba):Ba×Re:=(⟨b.now,[]⟩,Sa)
def Biu (b:Ba) (p:Br):Ba×Re:=(b,Je (Bjk b p))
def Biw (b:Ba) (k:Br):Ba×Re:=(b,K8 (Bjj (Bz b k).kind.toNat))
def Btn (b:Ba) (k:Br):Ba×Re:=(b,if(Bz b k).kind=0 then Cs (-2) else if(Bz b k).till=0 then Cs (-1) else Cs ((Bz b k).till - b.now))
def M6 (e:En) (n:Int):En:=⟨e.key,n,e.kind,e.text,e.list,e.scores,e.fields⟩
def R7 (e:En) (k:Br):En:=⟨k,e.till,e.kind,e.text,e.list,e.scores,e.fields⟩
def Qv (b:Ba) (k:Br):Ba×Re:=Fe b (M6 (Bz b k) 0) (G5 (!decide ((Bz b k).till=0)))
def Uk (b:Ba) (k m:Br):Ba×Re:=if(Bz b k).kind=0 then(b,Di [110,111,110,101]) else Fe (Ga b k) (R7 (Bz b k) m) Sa
def Y7 (b:Ba) (k:Br) (n:Int):Ba×Re:=if(Bz b k).kind=0 then(b,Cs 0) else if n≤b.now then(Ga b k,Cs 1) else Fe b (M6 (Bz b k) n) (Cs 1)
def Ui (b:Ba) (k y:Br):Ba×Re:=if(Dw y).2=true∧(Dw y).1≤1000000 then Y7 b k (b.now+(Dw y).1) else(b,Di [110,117,109,98,101,114])
def Nw (b:Ba) (k y:Br):Ba×Re:=if(Dw y).2=true∧(Dw y).1≤2000000 then Y7 b k (Dw y).1 else(b,Di [110,117,109,98,101,114])
def Xf (ks:List Br) (i:Nat) (s:Ba×Nat):Ba×Nat:=(Ga s.1 (ks.getD i []),s.2+(if G6 s.1.ents (ks.getD i [])=true then 1 else 0))
def Bco (b:Ba) (ks:List Br):Ba×Nat:=(List.range' 0 ks.length).foldl (fun s i=>Xf ks i s) (b,0)
def Bfo (ks:List Br) (i:Nat) (s:Ba×Nat):Ba×Nat:=(s.1,s.2+(if G6 s.1.ents (ks.getD i [])=true then 1 else 0))
def Blv (b:Ba) (ks:List Br):Ba×Nat:=(List.range' 0 ks.length).foldl (fun s i=>Bfo ks i s) (b,0)
def Bpw (b:Ba) (ks:List Br):Ba×Re:=((Bco b ks).1,Cs (Bco b ks).2)
def Uh (b:Ba) (ks:List Br):Ba×Re:=((Blv b ks).1,Cs (Blv b ks).2)
theorem Nz {b:Ba} (h:BaG b) (t:Br):0≤(Bz b t).kind∧(Bz b t).kind≤5:=by
 rcases Bnu h t with a|a
 ·have:=(Bfl a).kind;omega
 ·rw[a];simp
theorem Bge (b:Ba) (hb:BaG b):Be (ev R) 171 [.d (Df b), .d (Bf [[68,66,83,73,90,69]])]=some (Bo (X0 b)):=Bb fun H=>by
 refine Bh (fn:=f171) rfl rfl ?_
 have p2:=Jf b.ents.length
 obtain⟨now,ents⟩:=b
 simp(maxSteps:=1000000) [Ci,-Cda,-Cdb,f171,X0,p2,Bo,Cs]
theorem Bil (b:Ba) (hb:BaG b):Be (ev R) 171 [.d (Df b), .d (Bf [[70,76,85,83,72]])]=some (Bo (Y4 b)):=Bb fun H=>by
 refine Bh (fn:=f171) rfl rfl ?_
 simp(maxSteps:=1000000) [Ci,-Cda,-Cdb,f171,Y4,Bo,Sa,Gj]
theorem Blo (b:Ba) (p:Br) (hb:BaG b) (hp:p.length≤40):Be (ev R) 171 [.d (Df b), .d (Bf [[75,69,89,83],p])]=some (Bo (Biu b p)):=Bb fun H=>by
 refine Bh (fn:=f171) rfl rfl ?_
 have p1:=B6y b p hb.sm hb.fit (by omega)
 have p2:=Xx (Bjk b p)
 unfold Biu
 generalize Bjk b p=ZV at*
 simp(maxSteps:=1000000) [Ci,-Cda,-Cdb,f171,p1,p2,Bo,Je]
theorem Blp (b:Ba) (k:Br) (hb:BaG b) (hk:k.length≤40):Be (ev R) 171 [.d (Df b), .d (Bf ([[84,89,80,69],k]))]=some (Bo (Biw b k)):=Bb fun H=>by
 refine Bh (fn:=f171) rfl rfl ?_
 have p1:=Gv b k hb.sm
 have kq:=Nz hb k
 have nq:=hb.now
 have q:=Dn hb (t:=k) (by omega)
 unfold Biw
 have eN:=Bu [110,117,109,98,101,114]
 have eL:=Bu [108,111,110,103]
 have eP:=Bu [112,108,97,99,101]
 have eO:=Bu [110,111,110,101]
 have no:=Gh
 generalize Bz b k=e at*
 obtain⟨key,till,kind,text,list,scores,fields⟩:=e
 obtain⟨q1,q2,q3,q4,q5,q6,q7,q8,q9,q10⟩:=q
 dsimp only[M6,R7,G5] at*
 have p2:=B6z kind kq
 have p3:=Ben (Bjj kind.toNat)
 generalize Bjj kind.toNat=T at*
 simp(maxSteps:=1000000) [Ci,-Cda,-Cdb,f171,p1,eN,eL,eP,eO,no,Bo,p2,p3,K8]
theorem Bpm (b:Ba) (k:Br) (hb:BaG b) (hk:k.length≤40):Be (ev R) 171 [.d (Df b), .d (Bf ([[84,84,76],k]))]=some (Bo (Btn b k)):=Bb fun H=>by
 refine Bh (fn:=f171) rfl rfl ?_
 have p1:=Gv b k hb.sm
 have kq:=Nz hb k
 have nq:=hb.now
 have q:=Dn hb (t:=k) (by omega)
 unfold Btn
 have eN:=Bu [110,117,109,98,101,114]
 have eL:=Bu [108,111,110,103]
 have eP:=Bu [112,108,97,99,101]
 have eO:=Bu [110,111,110,101]
 have no:=Gh
 generalize Bz b k=e at*
 obtain⟨key,till,kind,text,list,scores,fields⟩:=e
 obtain⟨q1,q2,q3,q4,q5,q6,q7,q8,q9,q10⟩:=q
 dsimp only[M6,R7,G5] at*
 have i1:=Jf (-2)
 have i2:=Jf (-1)
 have i3:=Jf (till - b.now)
 have w:IntKind.i64.wrap (till - b.now)=till - b.now:=IntWalk.i64_in _ (by omega)
 by_cases a:kind=0
 ·simp(maxSteps:=1000000) [Ci,-Cda,-Cdb,f171,p1,eN,eL,eP,eO,no,Bo,i1,eq_true a,Cs]
 ·by_cases c:till=0
  ·simp(maxSteps:=1000000) [Ci,-Cda,-Cdb,f171,p1,eN,eL,eP,eO,no,Bo,i2,eq_false a,eq_true c,Cs]
  ·simp(maxSteps:=1000000) [Ci,-Cda,-Cdb,f171,p1,eN,eL,eP,eO,no,Bo,i3,eq_false a,eq_false c,w,Cs]
theorem Bdl (b:Ba) (k:Br) (hb:BaG b) (hk:k.length≤40):Be (ev R) 171 [.d (Df b), .d (Bf ([[80,69,82,83,73,83,84],k]))]=some (Bo (Qv b k)):=Bb fun H=>by
 refine Bh (fn:=f171) rfl rfl ?_
 have p1:=Gv b k hb.sm
 have kq:=Nz hb k
 have nq:=hb.now
 have q:=Dn hb (t:=k) (by omega)
 unfold Qv
 have eN:=Bu [110,117,109,98,101,114]
 have eL:=Bu [108,111,110,103]
 have eP:=Bu [112,108,97,99,101]
 have eO:=Bu [110,111,110,101]
 have no:=Gh
 generalize Bz b k=e at*
 obtain⟨key,till,kind,text,list,scores,fields⟩:=e
 obtain⟨q1,q2,q3,q4,q5,q6,q7,q8,q9,q10⟩:=q
 dsimp only[M6,R7,G5] at*
 have q:EnQ ⟨key,0,kind,text,list,scores,fields⟩:=⟨q1,q2,q3,q4,q5,q6,q7,q8,by simp,q10⟩
 have p2:=Beo (!decide (till=0))
 unfold G5 at p2
 generalize hz: (!decide (till=0))=Z at*
 have p3:=Kt b _ (Re.mk 2 (if Z=true then 1 else 0) [] [] []) hb.sm q.sm q.fit
 generalize Fe b _ _=P at*
 by_cases a:till=0
 ·subst a
  simp at hz
  subst hz
  simp only[Bool.false_eq_true,if_false] at p2 p3
  simp(maxSteps:=1000000) [Ci,-Cda,-Cdb,f171,p1,eN,eL,eP,eO,no,Bo,p2,p3]
 ·simp[a] at hz
  subst hz
  simp only[if_true] at p2 p3
  simp(maxSteps:=1000000) [Ci,-Cda,-Cdb,f171,p1,eN,eL,eP,eO,no,Bo,p2,p3,eq_false a]
theorem Bgh (b:Ba) (k:Br) (m:Br) (hb:BaG b) (hk:k.length≤40) (hm:m.length≤40):Be (ev R) 171 [.d (Df b), .d (Bf ([[82,69,78,65,77,69],k,m]))]=some (Bo (Uk b k m)):=Bb fun H=>by
 have pd:=Bpr b k hb.sm
 have hd:=Tf hb k
 refine Bh (fn:=f171) rfl rfl ?_
 have p1:=Gv b k hb.sm
 have kq:=Nz hb k
 have nq:=hb.now
 have q:=Dn hb (t:=k) (by omega)
 unfold Uk
 have eN:=Bu [110,117,109,98,101,114]
 have eL:=Bu [108,111,110,103]
 have eP:=Bu [112,108,97,99,101]
 have eO:=Bu [110,111,110,101]
 have no:=Gh
 generalize Bz b k=e at*
 obtain⟨key,till,kind,text,list,scores,fields⟩:=e
 obtain⟨q1,q2,q3,q4,q5,q6,q7,q8,q9,q10⟩:=q
 dsimp only[M6,R7,G5] at*
 generalize Ga b k=B at*
 have q:EnQ ⟨m,till,kind,text,list,scores,fields⟩:=⟨by dsimp only;omega,q2,q3,q4,q5,q6,q7,q8,q9,q10⟩
 have p3:=Kt B _ Sa hd.sm q.sm q.fit
 generalize Fe B _ Sa=P at*
 unfold Sa at p3
 by_cases a:kind=0
 ·simp(maxSteps:=1000000) [Ci,-Cda,-Cdb,f171,p1,eN,eL,eP,eO,no,Bo,eq_true a,Di]
 ·simp(maxSteps:=1000000) [Ci,-Cda,-Cdb,f171,p1,eN,eL,eP,eO,no,Bo,eq_false a,pd,p3]
theorem Bgg (b:Ba) (k:Br) (y:Br) (hb:BaG b) (hk:k.length≤40) (hy:y.length≤40):Be (ev R) 171 [.d (Df b), .d (Bf ([[69,88,80,73,82,69],k,y]))]=some (Bo (Ui b k y)):=Bb fun H=>by
 have pd:=Bpr b k hb.sm
 refine Bh (fn:=f171) rfl rfl ?_
 have p1:=Gv b k hb.sm
 have kq:=Nz hb k
 have nq:=hb.now
 have q:=Dn hb (t:=k) (by omega)
 unfold Ui Y7
 have eN:=Bu [110,117,109,98,101,114]
 have eL:=Bu [108,111,110,103]
 have eP:=Bu [112,108,97,99,101]
 have eO:=Bu [110,111,110,101]
 have no:=Gh
 generalize Bz b k=e at*
 obtain⟨key,till,kind,text,list,scores,fields⟩:=e
 obtain⟨q1,q2,q3,q4,q5,q6,q7,q8,q9,q10⟩:=q
 dsimp only[M6,R7,G5] at*
 have i0:=Jd y
 have pi0:=Md y (by omega)
 generalize Dw y=I0 at*
 obtain⟨n0,o0⟩:=I0
 dsimp only at*
 generalize Ga b k=B at*
 have j0:=Jf 0
 have j1:=Jf 1
 cases o0
 ·simp(maxSteps:=1000000) [Ci,-Cda,-Cdb,f171,p1,eN,eL,eP,eO,no,Bo,pi0,Di]
 by_cases a:n0≤1000000
 rotate_left
 ·have a1:1000000<n0:=by omega
  have a2: (1000000:Int)<n0:=by omega
  simp(maxSteps:=1000000) [Ci,-Cda,-Cdb,f171,p1,eN,eL,eP,eO,no,Bo,pi0,eq_false a,a1,a2,Di]
 have a1: ¬1000000<n0:=by omega
 have a2: ¬ (2000000:Int)<n0:=by omega
 have w:IntKind.i64.wrap (b.now+n0)=b.now+n0:=IntWalk.i64_in _ (by omega)
 skip
 ·by_cases c:kind=0
  ·simp(maxSteps:=1000000) [Ci,-Cda,-Cdb,f171,p1,eN,eL,eP,eO,no,Bo,pi0,eq_true a,a1,a2,w,eq_true c,j0,Cs,a1]
  by_cases d: (b.now+n0)≤b.now
  ·simp(maxSteps:=1000000) [Ci,-Cda,-Cdb,f171,p1,eN,eL,eP,eO,no,Bo,pi0,eq_true a,a1,a2,w,eq_false c,eq_true d,pd,j1,Cs,a1]
  have q:EnQ ⟨key,(b.now+n0),kind,text,list,scores,fields⟩:=⟨q1,q2,q3,q4,q5,q6,q7,q8,by dsimp only;omega,q10⟩
  have p3:=Kt b _ (Cs 1) hb.sm q.sm q.fit
  generalize Fe b _ (Cs 1)=P at*
  unfold Cs at p3
  simp(maxSteps:=1000000) [Ci,-Cda,-Cdb,f171,p1,eN,eL,eP,eO,no,Bo,pi0,eq_true a,a1,a2,w,eq_false c,eq_false d,j1,p3,a1]
theorem Bci (b:Ba) (k:Br) (y:Br) (hb:BaG b) (hk:k.length≤40) (hy:y.length≤40):Be (ev R) 171 [.d (Df b), .d (Bf ([[69,88,80,73,82,69,65,84],k,y]))]=some (Bo (Nw b k y)):=Bb fun H=>by
 have pd:=Bpr b k hb.sm
 refine Bh (fn:=f171) rfl rfl ?_
 have p1:=Gv b k hb.sm
 have kq:=Nz hb k
 have nq:=hb.now
 have q:=Dn hb (t:=k) (by omega)
 unfold Nw Y7
 have eN:=Bu [110,117,109,98,101,114]
 have eL:=Bu [108,111,110,103]
 have eP:=Bu [112,108,97,99,101]
 have eO:=Bu [110,111,110,101]
 have no:=Gh
 generalize Bz b k=e at*
 obtain⟨key,till,kind,text,list,scores,fields⟩:=e
 obtain⟨q1,q2,q3,q4,q5,q6,q7,q8,q9,q10⟩:=q
 dsimp only[M6,R7,G5] at*
 have i0:=Jd y
 have pi0:=Md y (by omega)
 generalize Dw y=I0 at*
 obtain⟨n0,o0⟩:=I0
 dsimp only at*
 generalize Ga b k=B at*
 have j0:=Jf 0
 have j1:=Jf 1
 cases o0
 ·simp(maxSteps:=1000000) [Ci,-Cda,-Cdb,f171,p1,eN,eL,eP,eO,no,Bo,pi0,Di]
 by_cases a:n0≤2000000
 rotate_left
 ·have a1:2000000<n0:=by omega
  have a2: (1000000:Int)<n0:=by omega
  simp(maxSteps:=1000000) [Ci,-Cda,-Cdb,f171,p1,eN,eL,eP,eO,no,Bo,pi0,eq_false a,a1,a2,Di]
 have a1: ¬2000000<n0:=by omega
 have a2: ¬ (2000000:Int)<n0:=by omega
 have w:IntKind.i64.wrap (b.now+n0)=b.now+n0:=IntWalk.i64_in _ (by omega)
 by_cases e1: (1000000:Int)<n0
 all_goals
  by_cases c:kind=0
  ·simp(maxSteps:=1000000) [Ci,-Cda,-Cdb,f171,p1,eN,eL,eP,eO,no,Bo,pi0,eq_true a,a1,a2,w,eq_true c,j0,Cs,e1]
  by_cases d:n0≤b.now
  ·simp(maxSteps:=1000000) [Ci,-Cda,-Cdb,f171,p1,eN,eL,eP,eO,no,Bo,pi0,eq_true a,a1,a2,w,eq_false c,eq_true d,pd,j1,Cs,e1]
  have q:EnQ ⟨key,n0,kind,text,list,scores,fields⟩:=⟨q1,q2,q3,q4,q5,q6,q7,q8,by dsimp only;omega,q10⟩
  have p3:=Kt b _ (Cs 1) hb.sm q.sm q.fit
  generalize Fe b _ (Cs 1)=P at*
  unfold Cs at p3
  simp(maxSteps:=1000000) [Ci,-Cda,-Cdb,f171,p1,eN,eL,eP,eO,no,Bo,pi0,eq_true a,a1,a2,w,eq_false c,eq_false d,j1,p3,e1]
theorem Bos (ks:List Br) (i:Nat) (s:Ba×Nat) (h:BaG s.1):BaG (Xf ks i s).1:=Tf h _
theorem Bo8 (H:Hp) (A B C:Ev.Obj) (b:Ba) (ks:List Br) (hb:BaG b) (hk:ks.length≤1000):
  Gives (fun o e X=>o= .exit 1∧X=ap H [A,B,C, .row 0 2 [.d (Df (Bco b ks).1)]]∧e.get 4= .ptr (Bc H+1) 0 0 0∧e.get 5= .ptr (Bc H+2) 0 0 0∧e.get 6= .d (.int .i64 (Bco b ks).2)∧e.get 7= .ptr (Bc H+3) 0 0 0)
   (Bg (Bq (ev R) R.glob (Bc H) Bg Pd) [1,4,5,6,7,8] ⟨[(1, .d (Bf ([68,69,76]::ks))),(4, .ptr (Bc H+1) 0 0 0),(5, .ptr (Bc H+2) 0 0 0),(6, .d (.int .i64 0)),(7, .ptr (Bc H+3) 0 0 0),(8, .d (.int .i64 1))],ap H [A,B,C, .row 0 2 [.d (Df b)]]⟩):=by
 refine Xu (F:=Bq (ev R) R.glob (Bc H) Bg Pd) (lv:=[1,4,5,6,7,8]) (Xf ks) ks.length
  (fun i s e X=>BaG s.1∧s.2≤i∧X=ap H [A,B,C, .row 0 2 [.d (Df s.1)]]∧e.get 1= .d (Bf ([68,69,76]::ks))∧e.get 4= .ptr (Bc H+1) 0 0 0∧e.get 5= .ptr (Bc H+2) 0 0 0∧e.get 6= .d (.int .i64 s.2)∧e.get 7= .ptr (Bc H+3) 0 0 0∧e.get 8= .d (.int .i64 ((i:Int)+1)))
  (fun s o e X=>o= .exit 1∧X=ap H [A,B,C, .row 0 2 [.d (Df s.1)]]∧e.get 4= .ptr (Bc H+1) 0 0 0∧e.get 5= .ptr (Bc H+2) 0 0 0∧e.get 6= .d (.int .i64 s.2)∧e.get 7= .ptr (Bc H+3) 0 0 0)
  ?_ ?_ ks.length 0 (b,0) _ _ (by omega) ⟨hb,by simp,rfl,rfl,rfl,rfl,rfl,rfl,rfl⟩
 ·rintro⟨B1,n⟩ e X ⟨hg,hn,rfl,g1,g4,g5,g6,g7,g8⟩
  dsimp only at*
  simp(maxSteps:=1000000) [Ci,-Cda,-Cdb,Pd,g1,g4,g5,g6,g7,g8]
 ·rintro i ⟨B1,n⟩ e X hi ⟨hg,hn,rfl,g1,g4,g5,g6,g7,g8⟩
  dsimp only at*
  have c: (i:Int)< (ks.length:Int):=by omega
  have c0: (0:Int)≤(i:Int)+1:=by omega
  have c1: (i:Int)+1< (ks.length:Int)+1:=by omega
  have c2: ((i:Int)+1).toNat=i+1:=by omega
  have c3: (0:Int)< (ks.length:Int)+1:=by omega
  have g:=Dk ks i hi
  have gg: ∀x:D,(x::ks.map D.str).getD (i+1) .nilp= .str (ks.getD i []):=fun x=>by rw[←g];rfl
  have w1:IntKind.i64.wrap ((i:Int)+1+1)=(i:Int)+1+1:=IntWalk.i64_in _ (by omega)
  have w2:IntKind.i64.wrap ((n:Int)+1)=(n:Int)+1:=IntWalk.i64_in _ (by omega)
  have p1:=Bpn B1 (ks.getD i []) hg.sm.len
  have p2:=Bpr B1 (ks.getD i []) hg.sm
  have hs:=Tf hg (ks.getD i [])
  unfold Xf
  generalize ks.getD i []=k at*
  generalize Ga B1 k=B2 at*
  have n1:n+1≤i+1:=by omega
  have n2:n≤i+1:=by omega
  cases hh:G6 B1.ents k with
  |false=>
   rw[hh] at p1
   simp(maxSteps:=1000000) [Ci,-Cda,-Cdb,Pd,g1,g4,g5,g6,g7,g8,c,c0,c1,c2,c3,hi,g,gg,w1,w2,p1,p2,hs,hg,n2,hh]
  |true=>
   rw[hh] at p1
   simp(maxSteps:=1000000) [Ci,-Cda,-Cdb,Pd,g1,g4,g5,g6,g7,g8,c,c0,c1,c2,c3,hi,g,gg,w1,w2,p1,p2,hs,hg,n1,hh]
theorem Bpl (b:Ba) (ks:List Br) (hb:BaG b) (hk:ks.length≤1000):Be (ev R) 171 [.d (Df b), .d (Bf ([68,69,76]::ks))]=some (Bo (Bpw b ks)):=Bb fun H=>by
 refine Bh (fn:=f171) rfl rfl ?_
 have lp:=fun A B C=> (Bo8 H A B C b ks hb hk).out
 unfold Bpw
 generalize Bco b ks=S at*
 obtain⟨B1,n⟩:=S
 dsimp only at*
 have p2:=Jf n
 have c3: (0:Int)< (ks.length:Int)+1:=by omega
 obtain⟨o,e',X',he,rfl,rfl,g4,g5,g6,g7⟩:=lp (.row 0 2 [.d (Df b)]) (.row 0 2 [.agg [.d (.int .i64 0), .nils 7]]) (.row 0 5 [.agg [.d (.int .i64 0), .d (.int .i64 0), .d (.str []), .nils 1, .nils 5]])
 simp only[Bf,Cdd] at he
 simp(maxSteps:=1000000) [Ci,-Cda,-Cdb,f171,p2,he,c3,g4,g5,g6,g7,Bo,Cs]
theorem Bf0 (H:Hp) (A B C:Ev.Obj) (b:Ba) (ks:List Br) (hb:BaG b) (hk:ks.length≤1000):
  Gives (fun o e X=>o= .exit 1∧X=ap H [A,B,C, .row 0 2 [.d (Df (Blv b ks).1)]]∧e.get 4= .ptr (Bc H+1) 0 0 0∧e.get 5= .ptr (Bc H+2) 0 0 0∧e.get 6= .d (.int .i64 (Blv b ks).2)∧e.get 7= .ptr (Bc H+3) 0 0 0)
   (Bg (Bq (ev R) R.glob (Bc H) Bg Pd) [1,4,5,6,7,8] ⟨[(1, .d (Bf ([69,88,73,83,84,83]::ks))),(4, .ptr (Bc H+1) 0 0 0),(5, .ptr (Bc H+2) 0 0 0),(6, .d (.int .i64 0)),(7, .ptr (Bc H+3) 0 0 0),(8, .d (.int .i64 1))],ap H [A,B,C, .row 0 2 [.d (Df b)]]⟩):=by
 refine Xu (F:=Bq (ev R) R.glob (Bc H) Bg Pd) (lv:=[1,4,5,6,7,8]) (Bfo ks) ks.length
  (fun i s e X=>BaG s.1∧s.2≤i∧X=ap H [A,B,C, .row 0 2 [.d (Df s.1)]]∧e.get 1= .d (Bf ([69,88,73,83,84,83]::ks))∧e.get 4= .ptr (Bc H+1) 0 0 0∧e.get 5= .ptr (Bc H+2) 0 0 0∧e.get 6= .d (.int .i64 s.2)∧e.get 7= .ptr (Bc H+3) 0 0 0∧e.get 8= .d (.int .i64 ((i:Int)+1)))
  (fun s o e X=>o= .exit 1∧X=ap H [A,B,C, .row 0 2 [.d (Df s.1)]]∧e.get 4= .ptr (Bc H+1) 0 0 0∧e.get 5= .ptr (Bc H+2) 0 0 0∧e.get 6= .d (.int .i64 s.2)∧e.get 7= .ptr (Bc H+3) 0 0 0)
  ?_ ?_ ks.length 0 (b,0) _ _ (by omega) ⟨hb,by simp,rfl,rfl,rfl,rfl,rfl,rfl,rfl⟩
 ·rintro⟨B1,n⟩ e X ⟨hg,hn,rfl,g1,g4,g5,g6,g7,g8⟩
  dsimp only at*
  simp(maxSteps:=1000000) [Ci,-Cda,-Cdb,Pd,g1,g4,g5,g6,g7,g8]
 ·rintro i ⟨B1,n⟩ e X hi ⟨hg,hn,rfl,g1,g4,g5,g6,g7,g8⟩
  dsimp only at*
  have c: (i:Int)< (ks.length:Int):=by omega
  have c0: (0:Int)≤(i:Int)+1:=by omega
  have c1: (i:Int)+1< (ks.length:Int)+1:=by omega
  have c2: ((i:Int)+1).toNat=i+1:=by omega
  have c3: (0:Int)< (ks.length:Int)+1:=by omega
  have g:=Dk ks i hi
  have gg: ∀x:D,(x::ks.map D.str).getD (i+1) .nilp= .str (ks.getD i []):=fun x=>by rw[←g];rfl
  have w1:IntKind.i64.wrap ((i:Int)+1+1)=(i:Int)+1+1:=IntWalk.i64_in _ (by omega)
  have w2:IntKind.i64.wrap ((n:Int)+1)=(n:Int)+1:=IntWalk.i64_in _ (by omega)
  have p1:=Bpn B1 (ks.getD i []) hg.sm.len
  have p2:=Bpr B1 (ks.getD i []) hg.sm
  have hs:=Tf hg (ks.getD i [])
  unfold Bfo
  generalize ks.getD i []=k at*
  generalize Ga B1 k=B2 at*
  have n1:n+1≤i+1:=by omega
  have n2:n≤i+1:=by omega
  cases hh:G6 B1.ents k with
  |false=>
   rw[hh] at p1
   simp(maxSteps:=1000000) [Ci,-Cda,-Cdb,Pd,g1,g4,g5,g6,g7,g8,c,c0,c1,c2,c3,hi,g,gg,w1,w2,p1,p2,hs,hg,n2,hh]
  |true=>
   rw[hh] at p1
   simp(maxSteps:=1000000) [Ci,-Cda,-Cdb,Pd,g1,g4,g5,g6,g7,g8,c,c0,c1,c2,c3,hi,g,gg,w1,w2,p1,p2,hs,hg,n1,hh]
theorem Bgf (b:Ba) (ks:List Br) (hb:BaG b) (hk:ks.length≤1000):Be (ev R) 171 [.d (Df b), .d (Bf ([69,88,73,83,84,83]::ks))]=some (Bo (Uh b ks)):=Bb fun H=>by
 refine Bh (fn:=f171) rfl rfl ?_
 have lp:=fun A B C=> (Bf0 H A B C b ks hb hk).out
 unfold Uh
 generalize Blv b ks=S at*
 obtain⟨B1,n⟩:=S
 dsimp only at*
 have p2:=Jf n
 have c3: (0:Int)< (ks.length:Int)+1:=by omega
 obtain⟨o,e',X',he,rfl,rfl,g4,g5,g6,g7⟩:=lp (.row 0 2 [.d (Df b)]) (.row 0 2 [.agg [.d (.int .i64 0), .nils 7]]) (.row 0 5 [.agg [.d (.int .i64 0), .d (.int .i64 0), .d (.str []), .nils 1, .nils 5]])
 simp only[Bf,Cdd] at he
 simp(maxSteps:=1000000) [Ci,-Cda,-Cdb,f171,p2,he,c3,g4,g5,g6,g7,Bo,Cs]
end Go.Proofs.YtpajcoanfkeibaaGreatDoor.Code

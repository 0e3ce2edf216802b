/- Lemmas (several texts in one). -/
import Derived.Test.YtjdmiodinhlchaaGreatMBasePut7
import Derived.Test.YtjdmiodinhlchaaGreatMBasePut28
import Derived.Test.YtjdmiodinhlchaaGreatMBasePut29
set_option maxRecDepth 100000
set_option maxHeartbeats 2000000
set_option linter.unusedSimpArgs false
set_option linter.unusedVariables false
namespace Go.Proofs.YtjdmiodinhlchaaGreat.Code
open Go Go.Ev Go.Proofs
def Xe (b:Ba):Ba×Re:=(b,Dc b.ents.length)
def Yf (b:Ba):Ba×Re:=(⟨b.now,[]⟩,Rw)
def Bhk (b:Ba) (p:Bp):Ba×Re:=(b,Jj (Bib b p))
def Bhn (b:Ba) (k:Bp):Ba×Re:=(b,K8 (Bia (Ca b k).kind.toNat))
def Br4 (b:Ba) (k:Bp):Ba×Re:=(b,if(Ca b k).kind=0 then Dc (-2) else if(Ca b k).till=0 then Dc (-1) else Dc ((Ca b k).till - b.now))
def Mw (e:En) (n:Int):En:=⟨e.key,n,e.kind,e.text,e.list,e.scores,e.fields⟩
def Rp (e:En) (k:Bp):En:=⟨k,e.till,e.kind,e.text,e.list,e.scores,e.fields⟩
def Qm (b:Ba) (k:Bp):Ba×Re:=Fq b (Mw (Ca b k) 0) (Jb (!decide ((Ca b k).till=0)))
def Tv (b:Ba) (k m:Bp):Ba×Re:=if(Ca b k).kind=0 then(b,Du [110,111,110,101]) else Fq (Dn b k) (Rp (Ca b k) m) Rw
def Yj (b:Ba) (k:Bp) (n:Int):Ba×Re:=if(Ca b k).kind=0 then(b,Dc 0) else if n≤b.now then(Dn b k,Dc 1) else Fq b (Mw (Ca b k) n) (Dc 1)
def Tt (b:Ba) (k y:Bp):Ba×Re:=if(Fe y).2=true∧(Fe y).1≤1000000 then Yj b k (b.now+(Fe y).1) else(b,Du [110,117,109,98,101,114])
def Nj (b:Ba) (k y:Bp):Ba×Re:=if(Fe y).2=true∧(Fe y).1≤2000000 then Yj b k (Fe y).1 else(b,Du [110,117,109,98,101,114])
def Wl (ks:List Bp) (i:Nat) (s:Ba×Nat):Ba×Nat:=(Dn s.1 (ks.getD i []),s.2+(if Jz s.1.ents (ks.getD i [])=true then 1 else 0))
def Bbz (b:Ba) (ks:List Bp):Ba×Nat:=(List.range' 0 ks.length).foldl (fun s i=>Wl ks i s) (b,0)
def Ben (ks:List Bp) (i:Nat) (s:Ba×Nat):Ba×Nat:=(s.1,s.2+(if Jz s.1.ents (ks.getD i [])=true then 1 else 0))
def Bkr (b:Ba) (ks:List Bp):Ba×Nat:=(List.range' 0 ks.length).foldl (fun s i=>Ben ks i s) (b,0)
def Boq (b:Ba) (ks:List Bp):Ba×Re:=((Bbz b ks).1,Dc (Bbz b ks).2)
def Tq (b:Ba) (ks:List Bp):Ba×Re:=((Bkr b ks).1,Dc (Bkr b ks).2)
theorem Nl {b:Ba} (h:BaG b) (t:Bp):0≤(Ca b t).kind∧(Ca b t).kind≤5:=by
 rcases Bmt h t with a|a
 ·have:=(Bek a).kind;omega
 ·rw[a];simp
theorem Be9 (b:Ba) (hb:BaG b):Be (ev R) 115 [.d (Dx b), .d (Bf [[68,66,83,73,90,69]])]=some (Bl (Xe b)):=Bb fun H=>by
 refine Bh (fn:=f115) rfl rfl ?_
 have p2:=Jl b.ents.length
 obtain⟨now,ents⟩:=b
 simp(maxSteps:=1000000) [Cm,-List.getD_eq_getElem?_getD,-List.map_map,f115,Xe,p2,Bl,Dc]
theorem Bhb (b:Ba) (hb:BaG b):Be (ev R) 115 [.d (Dx b), .d (Bf [[70,76,85,83,72]])]=some (Bl (Yf b)):=Bb fun H=>by
 refine Bh (fn:=f115) rfl rfl ?_
 simp(maxSteps:=1000000) [Cm,-List.getD_eq_getElem?_getD,-List.map_map,f115,Yf,Bl,Rw,Fx]
theorem Bkj (b:Ba) (p:Bp) (hb:BaG b) (hp:p.length≤40):Be (ev R) 115 [.d (Dx b), .d (Bf [[75,69,89,83],p])]=some (Bl (Bhk b p)):=Bb fun H=>by
 refine Bh (fn:=f115) rfl rfl ?_
 have p1:=B7v b p hb.sm hb.fit (by omega)
 have p2:=Xb (Bib b p)
 unfold Bhk
 generalize Bib b p=ZV at*
 simp(maxSteps:=1000000) [Cm,-List.getD_eq_getElem?_getD,-List.map_map,f115,p1,p2,Bl,Jj]
theorem Bkk (b:Ba) (k:Bp) (hb:BaG b) (hk:k.length≤40):Be (ev R) 115 [.d (Dx b), .d (Bf ([[84,89,80,69],k]))]=some (Bl (Bhn b k)):=Bb fun H=>by
 refine Bh (fn:=f115) rfl rfl ?_
 have p1:=G9 b k hb.sm
 have kq:=Nl hb k
 have nq:=hb.now
 have q:=Dz hb (t:=k) (by omega)
 unfold Bhn
 have eN:=Bu [110,117,109,98,101,114]
 have eL:=Bu [108,111,110,103]
 have eP:=Bu [112,108,97,99,101]
 have eO:=Bu [110,111,110,101]
 have no:=Gj
 generalize Ca b k=e at*
 obtain⟨key,till,kind,text,list,scores,fields⟩:=e
 obtain⟨q1,q2,q3,q4,q5,q6,q7,q8,q9,q10⟩:=q
 dsimp only[Mw,Rp,Jb] at*
 have p2:=B30 kind kq
 have p3:=Bdn (Bia kind.toNat)
 generalize Bia kind.toNat=T at*
 simp(maxSteps:=1000000) [Cm,-List.getD_eq_getElem?_getD,-List.map_map,f115,p1,eN,eL,eP,eO,no,Bl,p2,p3,K8]
theorem Boh (b:Ba) (k:Bp) (hb:BaG b) (hk:k.length≤40):Be (ev R) 115 [.d (Dx b), .d (Bf ([[84,84,76],k]))]=some (Bl (Br4 b k)):=Bb fun H=>by
 refine Bh (fn:=f115) rfl rfl ?_
 have p1:=G9 b k hb.sm
 have kq:=Nl hb k
 have nq:=hb.now
 have q:=Dz hb (t:=k) (by omega)
 unfold Br4
 have eN:=Bu [110,117,109,98,101,114]
 have eL:=Bu [108,111,110,103]
 have eP:=Bu [112,108,97,99,101]
 have eO:=Bu [110,111,110,101]
 have no:=Gj
 generalize Ca b k=e at*
 obtain⟨key,till,kind,text,list,scores,fields⟩:=e
 obtain⟨q1,q2,q3,q4,q5,q6,q7,q8,q9,q10⟩:=q
 dsimp only[Mw,Rp,Jb] at*
 have i1:=Jl (-2)
 have i2:=Jl (-1)
 have i3:=Jl (till - b.now)
 have w:IntKind.i64.wrap (till - b.now)=till - b.now:=IntWalk.i64_in _ (by omega)
 by_cases a:kind=0
 ·simp(maxSteps:=1000000) [Cm,-List.getD_eq_getElem?_getD,-List.map_map,f115,p1,eN,eL,eP,eO,no,Bl,i1,eq_true a,Dc]
 ·by_cases c:till=0
  ·simp(maxSteps:=1000000) [Cm,-List.getD_eq_getElem?_getD,-List.map_map,f115,p1,eN,eL,eP,eO,no,Bl,i2,eq_false a,eq_true c,Dc]
  ·simp(maxSteps:=1000000) [Cm,-List.getD_eq_getElem?_getD,-List.map_map,f115,p1,eN,eL,eP,eO,no,Bl,i3,eq_false a,eq_false c,w,Dc]
theorem Bcr (b:Ba) (k:Bp) (hb:BaG b) (hk:k.length≤40):Be (ev R) 115 [.d (Dx b), .d (Bf ([[80,69,82,83,73,83,84],k]))]=some (Bl (Qm b k)):=Bb fun H=>by
 refine Bh (fn:=f115) rfl rfl ?_
 have p1:=G9 b k hb.sm
 have kq:=Nl hb k
 have nq:=hb.now
 have q:=Dz hb (t:=k) (by omega)
 unfold Qm
 have eN:=Bu [110,117,109,98,101,114]
 have eL:=Bu [108,111,110,103]
 have eP:=Bu [112,108,97,99,101]
 have eO:=Bu [110,111,110,101]
 have no:=Gj
 generalize Ca b k=e at*
 obtain⟨key,till,kind,text,list,scores,fields⟩:=e
 obtain⟨q1,q2,q3,q4,q5,q6,q7,q8,q9,q10⟩:=q
 dsimp only[Mw,Rp,Jb] at*
 have q:EnQ ⟨key,0,kind,text,list,scores,fields⟩:=⟨q1,q2,q3,q4,q5,q6,q7,q8,by simp,q10⟩
 have p2:=Bdo (!decide (till=0))
 unfold Jb at p2
 generalize hz: (!decide (till=0))=Z at*
 have p3:=Ku b _ (Re.mk 2 (if Z=true then 1 else 0) [] [] []) hb.sm q.sm q.fit
 generalize Fq b _ _=P at*
 by_cases a:till=0
 ·subst a
  simp at hz
  subst hz
  simp only[Bool.false_eq_true,if_false] at p2 p3
  simp(maxSteps:=1000000) [Cm,-List.getD_eq_getElem?_getD,-List.map_map,f115,p1,eN,eL,eP,eO,no,Bl,p2,p3]
 ·simp[a] at hz
  subst hz
  simp only[if_true] at p2 p3
  simp(maxSteps:=1000000) [Cm,-List.getD_eq_getElem?_getD,-List.map_map,f115,p1,eN,eL,eP,eO,no,Bl,p2,p3,eq_false a]
theorem Bfc (b:Ba) (k:Bp) (m:Bp) (hb:BaG b) (hk:k.length≤40) (hm:m.length≤40):Be (ev R) 115 [.d (Dx b), .d (Bf ([[82,69,78,65,77,69],k,m]))]=some (Bl (Tv b k m)):=Bb fun H=>by
 have pd:=Bol b k hb.sm
 have hd:=Sk hb k
 refine Bh (fn:=f115) rfl rfl ?_
 have p1:=G9 b k hb.sm
 have kq:=Nl hb k
 have nq:=hb.now
 have q:=Dz hb (t:=k) (by omega)
 unfold Tv
 have eN:=Bu [110,117,109,98,101,114]
 have eL:=Bu [108,111,110,103]
 have eP:=Bu [112,108,97,99,101]
 have eO:=Bu [110,111,110,101]
 have no:=Gj
 generalize Ca b k=e at*
 obtain⟨key,till,kind,text,list,scores,fields⟩:=e
 obtain⟨q1,q2,q3,q4,q5,q6,q7,q8,q9,q10⟩:=q
 dsimp only[Mw,Rp,Jb] at*
 generalize Dn b k=B at*
 have q:EnQ ⟨m,till,kind,text,list,scores,fields⟩:=⟨by dsimp only;omega,q2,q3,q4,q5,q6,q7,q8,q9,q10⟩
 have p3:=Ku B _ Rw hd.sm q.sm q.fit
 generalize Fq B _ Rw=P at*
 unfold Rw at p3
 by_cases a:kind=0
 ·simp(maxSteps:=1000000) [Cm,-List.getD_eq_getElem?_getD,-List.map_map,f115,p1,eN,eL,eP,eO,no,Bl,eq_true a,Du]
 ·simp(maxSteps:=1000000) [Cm,-List.getD_eq_getElem?_getD,-List.map_map,f115,p1,eN,eL,eP,eO,no,Bl,eq_false a,pd,p3]
theorem Bfb (b:Ba) (k:Bp) (y:Bp) (hb:BaG b) (hk:k.length≤40) (hy:y.length≤40):Be (ev R) 115 [.d (Dx b), .d (Bf ([[69,88,80,73,82,69],k,y]))]=some (Bl (Tt b k y)):=Bb fun H=>by
 have pd:=Bol b k hb.sm
 refine Bh (fn:=f115) rfl rfl ?_
 have p1:=G9 b k hb.sm
 have kq:=Nl hb k
 have nq:=hb.now
 have q:=Dz hb (t:=k) (by omega)
 unfold Tt Yj
 have eN:=Bu [110,117,109,98,101,114]
 have eL:=Bu [108,111,110,103]
 have eP:=Bu [112,108,97,99,101]
 have eO:=Bu [110,111,110,101]
 have no:=Gj
 generalize Ca b k=e at*
 obtain⟨key,till,kind,text,list,scores,fields⟩:=e
 obtain⟨q1,q2,q3,q4,q5,q6,q7,q8,q9,q10⟩:=q
 dsimp only[Mw,Rp,Jb] at*
 have i0:=Ji y
 have pi0:=Lx y (by omega)
 generalize Fe y=I0 at*
 obtain⟨n0,o0⟩:=I0
 dsimp only at*
 generalize Dn b k=B at*
 have j0:=Jl 0
 have j1:=Jl 1
 cases o0
 ·simp(maxSteps:=1000000) [Cm,-List.getD_eq_getElem?_getD,-List.map_map,f115,p1,eN,eL,eP,eO,no,Bl,pi0,Du]
 by_cases a:n0≤1000000
 rotate_left
 ·have a1:1000000<n0:=by omega
  have a2: (1000000:Int)<n0:=by omega
  simp(maxSteps:=1000000) [Cm,-List.getD_eq_getElem?_getD,-List.map_map,f115,p1,eN,eL,eP,eO,no,Bl,pi0,eq_false a,a1,a2,Du]
 have a1: ¬1000000<n0:=by omega
 have a2: ¬ (2000000:Int)<n0:=by omega
 have w:IntKind.i64.wrap (b.now+n0)=b.now+n0:=IntWalk.i64_in _ (by omega)
 skip
 ·by_cases c:kind=0
  ·simp(maxSteps:=1000000) [Cm,-List.getD_eq_getElem?_getD,-List.map_map,f115,p1,eN,eL,eP,eO,no,Bl,pi0,eq_true a,a1,a2,w,eq_true c,j0,Dc,a1]
  by_cases d: (b.now+n0)≤b.now
  ·simp(maxSteps:=1000000) [Cm,-List.getD_eq_getElem?_getD,-List.map_map,f115,p1,eN,eL,eP,eO,no,Bl,pi0,eq_true a,a1,a2,w,eq_false c,eq_true d,pd,j1,Dc,a1]
  have q:EnQ ⟨key,(b.now+n0),kind,text,list,scores,fields⟩:=⟨q1,q2,q3,q4,q5,q6,q7,q8,by dsimp only;omega,q10⟩
  have p3:=Ku b _ (Dc 1) hb.sm q.sm q.fit
  generalize Fq b _ (Dc 1)=P at*
  unfold Dc at p3
  simp(maxSteps:=1000000) [Cm,-List.getD_eq_getElem?_getD,-List.map_map,f115,p1,eN,eL,eP,eO,no,Bl,pi0,eq_true a,a1,a2,w,eq_false c,eq_false d,j1,p3,a1]
theorem Bbv (b:Ba) (k:Bp) (y:Bp) (hb:BaG b) (hk:k.length≤40) (hy:y.length≤40):Be (ev R) 115 [.d (Dx b), .d (Bf ([[69,88,80,73,82,69,65,84],k,y]))]=some (Bl (Nj b k y)):=Bb fun H=>by
 have pd:=Bol b k hb.sm
 refine Bh (fn:=f115) rfl rfl ?_
 have p1:=G9 b k hb.sm
 have kq:=Nl hb k
 have nq:=hb.now
 have q:=Dz hb (t:=k) (by omega)
 unfold Nj Yj
 have eN:=Bu [110,117,109,98,101,114]
 have eL:=Bu [108,111,110,103]
 have eP:=Bu [112,108,97,99,101]
 have eO:=Bu [110,111,110,101]
 have no:=Gj
 generalize Ca b k=e at*
 obtain⟨key,till,kind,text,list,scores,fields⟩:=e
 obtain⟨q1,q2,q3,q4,q5,q6,q7,q8,q9,q10⟩:=q
 dsimp only[Mw,Rp,Jb] at*
 have i0:=Ji y
 have pi0:=Lx y (by omega)
 generalize Fe y=I0 at*
 obtain⟨n0,o0⟩:=I0
 dsimp only at*
 generalize Dn b k=B at*
 have j0:=Jl 0
 have j1:=Jl 1
 cases o0
 ·simp(maxSteps:=1000000) [Cm,-List.getD_eq_getElem?_getD,-List.map_map,f115,p1,eN,eL,eP,eO,no,Bl,pi0,Du]
 by_cases a:n0≤2000000
 rotate_left
 ·have a1:2000000<n0:=by omega
  have a2: (1000000:Int)<n0:=by omega
  simp(maxSteps:=1000000) [Cm,-List.getD_eq_getElem?_getD,-List.map_map,f115,p1,eN,eL,eP,eO,no,Bl,pi0,eq_false a,a1,a2,Du]
 have a1: ¬2000000<n0:=by omega
 have a2: ¬ (2000000:Int)<n0:=by omega
 have w:IntKind.i64.wrap (b.now+n0)=b.now+n0:=IntWalk.i64_in _ (by omega)
 by_cases e1: (1000000:Int)<n0
 all_goals
  by_cases c:kind=0
  ·simp(maxSteps:=1000000) [Cm,-List.getD_eq_getElem?_getD,-List.map_map,f115,p1,eN,eL,eP,eO,no,Bl,pi0,eq_true a,a1,a2,w,eq_true c,j0,Dc,e1]
  by_cases d:n0≤b.now
  ·simp(maxSteps:=1000000) [Cm,-List.getD_eq_getElem?_getD,-List.map_map,f115,p1,eN,eL,eP,eO,no,Bl,pi0,eq_true a,a1,a2,w,eq_false c,eq_true d,pd,j1,Dc,e1]
  have q:EnQ ⟨key,n0,kind,text,list,scores,fields⟩:=⟨q1,q2,q3,q4,q5,q6,q7,q8,by dsimp only;omega,q10⟩
  have p3:=Ku b _ (Dc 1) hb.sm q.sm q.fit
  generalize Fq b _ (Dc 1)=P at*
  unfold Dc at p3
  simp(maxSteps:=1000000) [Cm,-List.getD_eq_getElem?_getD,-List.map_map,f115,p1,eN,eL,eP,eO,no,Bl,pi0,eq_true a,a1,a2,w,eq_false c,eq_false d,j1,p3,e1]
theorem Bnp (ks:List Bp) (i:Nat) (s:Ba×Nat) (h:BaG s.1):BaG (Wl ks i s).1:=Sk h _
theorem Bn4 (H:Hp) (A B C:Ev.Obj) (b:Ba) (ks:List Bp) (hb:BaG b) (hk:ks.length≤1000):
  Gives (fun o e X=>o= .exit 1∧X=ap H [A,B,C, .row 0 2 [.d (Dx (Bbz b ks).1)]]∧e.get 4= .ptr (Bc H+1) 0 0 0∧e.get 5= .ptr (Bc H+2) 0 0 0∧e.get 6= .d (.int .i64 (Bbz b ks).2)∧e.get 7= .ptr (Bc H+3) 0 0 0)
   (Bg (Bq (ev R) R.glob (Bc H) Bg Nt) [1,4,5,6,7,8] ⟨[(1, .d (Bf ([68,69,76]::ks))),(4, .ptr (Bc H+1) 0 0 0),(5, .ptr (Bc H+2) 0 0 0),(6, .d (.int .i64 0)),(7, .ptr (Bc H+3) 0 0 0),(8, .d (.int .i64 1))],ap H [A,B,C, .row 0 2 [.d (Dx b)]]⟩):=by
 refine Ww (F:=Bq (ev R) R.glob (Bc H) Bg Nt) (lv:=[1,4,5,6,7,8]) (Wl ks) ks.length
  (fun i s e X=>BaG s.1∧s.2≤i∧X=ap H [A,B,C, .row 0 2 [.d (Dx s.1)]]∧e.get 1= .d (Bf ([68,69,76]::ks))∧e.get 4= .ptr (Bc H+1) 0 0 0∧e.get 5= .ptr (Bc H+2) 0 0 0∧e.get 6= .d (.int .i64 s.2)∧e.get 7= .ptr (Bc H+3) 0 0 0∧e.get 8= .d (.int .i64 ((i:Int)+1)))
  (fun s o e X=>o= .exit 1∧X=ap H [A,B,C, .row 0 2 [.d (Dx s.1)]]∧e.get 4= .ptr (Bc H+1) 0 0 0∧e.get 5= .ptr (Bc H+2) 0 0 0∧e.get 6= .d (.int .i64 s.2)∧e.get 7= .ptr (Bc H+3) 0 0 0)
  ?_ ?_ ks.length 0 (b,0) _ _ (by omega) ⟨hb,by simp,rfl,rfl,rfl,rfl,rfl,rfl,rfl⟩
 ·rintro⟨B1,n⟩ e X ⟨hg,hn,rfl,g1,g4,g5,g6,g7,g8⟩
  dsimp only at*
  simp(maxSteps:=1000000) [Cm,-List.getD_eq_getElem?_getD,-List.map_map,Nt,g1,g4,g5,g6,g7,g8]
 ·rintro i ⟨B1,n⟩ e X hi ⟨hg,hn,rfl,g1,g4,g5,g6,g7,g8⟩
  dsimp only at*
  have c: (i:Int)< (ks.length:Int):=by omega
  have c0: (0:Int)≤(i:Int)+1:=by omega
  have c1: (i:Int)+1< (ks.length:Int)+1:=by omega
  have c2: ((i:Int)+1).toNat=i+1:=by omega
  have c3: (0:Int)< (ks.length:Int)+1:=by omega
  have g:=Dv ks i hi
  have gg: ∀x:D,(x::ks.map D.str).getD (i+1) .nilp= .str (ks.getD i []):=fun x=>by rw[←g];rfl
  have w1:IntKind.i64.wrap ((i:Int)+1+1)=(i:Int)+1+1:=IntWalk.i64_in _ (by omega)
  have w2:IntKind.i64.wrap ((n:Int)+1)=(n:Int)+1:=IntWalk.i64_in _ (by omega)
  have p1:=Bru B1 (ks.getD i []) hg.sm.len
  have p2:=Bol B1 (ks.getD i []) hg.sm
  have hs:=Sk hg (ks.getD i [])
  unfold Wl
  generalize ks.getD i []=k at*
  generalize Dn B1 k=B2 at*
  have n1:n+1≤i+1:=by omega
  have n2:n≤i+1:=by omega
  cases hh:Jz B1.ents k with
  |false=>
   rw[hh] at p1
   simp(maxSteps:=1000000) [Cm,-List.getD_eq_getElem?_getD,-List.map_map,Nt,g1,g4,g5,g6,g7,g8,c,c0,c1,c2,c3,hi,g,gg,w1,w2,p1,p2,hs,hg,n2,hh]
  |true=>
   rw[hh] at p1
   simp(maxSteps:=1000000) [Cm,-List.getD_eq_getElem?_getD,-List.map_map,Nt,g1,g4,g5,g6,g7,g8,c,c0,c1,c2,c3,hi,g,gg,w1,w2,p1,p2,hs,hg,n1,hh]
theorem Bog (b:Ba) (ks:List Bp) (hb:BaG b) (hk:ks.length≤1000):Be (ev R) 115 [.d (Dx b), .d (Bf ([68,69,76]::ks))]=some (Bl (Boq b ks)):=Bb fun H=>by
 refine Bh (fn:=f115) rfl rfl ?_
 have lp:=fun A B C=> (Bn4 H A B C b ks hb hk).out
 unfold Boq
 generalize Bbz b ks=S at*
 obtain⟨B1,n⟩:=S
 dsimp only at*
 have p2:=Jl n
 have c3: (0:Int)< (ks.length:Int)+1:=by omega
 obtain⟨o,e',X',he,rfl,rfl,g4,g5,g6,g7⟩:=lp (.row 0 2 [.d (Dx b)]) (.row 0 2 [.agg [.d (.int .i64 0), .nils 7]]) (.row 0 5 [.agg [.d (.int .i64 0), .d (.int .i64 0), .d (.str []), .nils 1, .nils 5]])
 simp only[Bf,List.map_cons] at he
 simp(maxSteps:=1000000) [Cm,-List.getD_eq_getElem?_getD,-List.map_map,f115,p2,he,c3,g4,g5,g6,g7,Bl,Dc]
theorem Bex (H:Hp) (A B C:Ev.Obj) (b:Ba) (ks:List Bp) (hb:BaG b) (hk:ks.length≤1000):
  Gives (fun o e X=>o= .exit 1∧X=ap H [A,B,C, .row 0 2 [.d (Dx (Bkr b ks).1)]]∧e.get 4= .ptr (Bc H+1) 0 0 0∧e.get 5= .ptr (Bc H+2) 0 0 0∧e.get 6= .d (.int .i64 (Bkr b ks).2)∧e.get 7= .ptr (Bc H+3) 0 0 0)
   (Bg (Bq (ev R) R.glob (Bc H) Bg Nt) [1,4,5,6,7,8] ⟨[(1, .d (Bf ([69,88,73,83,84,83]::ks))),(4, .ptr (Bc H+1) 0 0 0),(5, .ptr (Bc H+2) 0 0 0),(6, .d (.int .i64 0)),(7, .ptr (Bc H+3) 0 0 0),(8, .d (.int .i64 1))],ap H [A,B,C, .row 0 2 [.d (Dx b)]]⟩):=by
 refine Ww (F:=Bq (ev R) R.glob (Bc H) Bg Nt) (lv:=[1,4,5,6,7,8]) (Ben ks) ks.length
  (fun i s e X=>BaG s.1∧s.2≤i∧X=ap H [A,B,C, .row 0 2 [.d (Dx s.1)]]∧e.get 1= .d (Bf ([69,88,73,83,84,83]::ks))∧e.get 4= .ptr (Bc H+1) 0 0 0∧e.get 5= .ptr (Bc H+2) 0 0 0∧e.get 6= .d (.int .i64 s.2)∧e.get 7= .ptr (Bc H+3) 0 0 0∧e.get 8= .d (.int .i64 ((i:Int)+1)))
  (fun s o e X=>o= .exit 1∧X=ap H [A,B,C, .row 0 2 [.d (Dx s.1)]]∧e.get 4= .ptr (Bc H+1) 0 0 0∧e.get 5= .ptr (Bc H+2) 0 0 0∧e.get 6= .d (.int .i64 s.2)∧e.get 7= .ptr (Bc H+3) 0 0 0)
  ?_ ?_ ks.length 0 (b,0) _ _ (by omega) ⟨hb,by simp,rfl,rfl,rfl,rfl,rfl,rfl,rfl⟩
 ·rintro⟨B1,n⟩ e X ⟨hg,hn,rfl,g1,g4,g5,g6,g7,g8⟩
  dsimp only at*
  simp(maxSteps:=1000000) [Cm,-List.getD_eq_getElem?_getD,-List.map_map,Nt,g1,g4,g5,g6,g7,g8]
 ·rintro i ⟨B1,n⟩ e X hi ⟨hg,hn,rfl,g1,g4,g5,g6,g7,g8⟩
  dsimp only at*
  have c: (i:Int)< (ks.length:Int):=by omega
  have c0: (0:Int)≤(i:Int)+1:=by omega
  have c1: (i:Int)+1< (ks.length:Int)+1:=by omega
  have c2: ((i:Int)+1).toNat=i+1:=by omega
  have c3: (0:Int)< (ks.length:Int)+1:=by omega
  have g:=Dv ks i hi
  have gg: ∀x:D,(x::ks.map D.str).getD (i+1) .nilp= .str (ks.getD i []):=fun x=>by rw[←g];rfl
  have w1:IntKind.i64.wrap ((i:Int)+1+1)=(i:Int)+1+1:=IntWalk.i64_in _ (by omega)
  have w2:IntKind.i64.wrap ((n:Int)+1)=(n:Int)+1:=IntWalk.i64_in _ (by omega)
  have p1:=Bru B1 (ks.getD i []) hg.sm.len
  have p2:=Bol B1 (ks.getD i []) hg.sm
  have hs:=Sk hg (ks.getD i [])
  unfold Ben
  generalize ks.getD i []=k at*
  generalize Dn B1 k=B2 at*
  have n1:n+1≤i+1:=by omega
  have n2:n≤i+1:=by omega
  cases hh:Jz B1.ents k with
  |false=>
   rw[hh] at p1
   simp(maxSteps:=1000000) [Cm,-List.getD_eq_getElem?_getD,-List.map_map,Nt,g1,g4,g5,g6,g7,g8,c,c0,c1,c2,c3,hi,g,gg,w1,w2,p1,p2,hs,hg,n2,hh]
  |true=>
   rw[hh] at p1
   simp(maxSteps:=1000000) [Cm,-List.getD_eq_getElem?_getD,-List.map_map,Nt,g1,g4,g5,g6,g7,g8,c,c0,c1,c2,c3,hi,g,gg,w1,w2,p1,p2,hs,hg,n1,hh]
theorem Bfa (b:Ba) (ks:List Bp) (hb:BaG b) (hk:ks.length≤1000):Be (ev R) 115 [.d (Dx b), .d (Bf ([69,88,73,83,84,83]::ks))]=some (Bl (Tq b ks)):=Bb fun H=>by
 refine Bh (fn:=f115) rfl rfl ?_
 have lp:=fun A B C=> (Bex H A B C b ks hb hk).out
 unfold Tq
 generalize Bkr b ks=S at*
 obtain⟨B1,n⟩:=S
 dsimp only at*
 have p2:=Jl n
 have c3: (0:Int)< (ks.length:Int)+1:=by omega
 obtain⟨o,e',X',he,rfl,rfl,g4,g5,g6,g7⟩:=lp (.row 0 2 [.d (Dx b)]) (.row 0 2 [.agg [.d (.int .i64 0), .nils 7]]) (.row 0 5 [.agg [.d (.int .i64 0), .d (.int .i64 0), .d (.str []), .nils 1, .nils 5]])
 simp only[Bf,List.map_cons] at he
 simp(maxSteps:=1000000) [Cm,-List.getD_eq_getElem?_getD,-List.map_map,f115,p2,he,c3,g4,g5,g6,g7,Bl,Dc]
end Go.Proofs.YtjdmiodinhlchaaGreat.Code

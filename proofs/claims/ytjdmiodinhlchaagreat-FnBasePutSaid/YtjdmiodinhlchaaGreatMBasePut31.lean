/- Lemmas (several texts in one). -/
import Derived.Test.YtjdmiodinhlchaaGreatMBasePut7
import Derived.Test.YtjdmiodinhlchaaGreatMBasePut30
set_option maxRecDepth 100000
set_option maxHeartbeats 2000000
set_option linter.unusedSimpArgs false
set_option linter.unusedVariables false
namespace Go.Proofs.YtjdmiodinhlchaaGreat.Code
open Go Go.Ev Go.Proofs
def Dq (b:Ba) (w:Bp) (r:List Bp):Ba×Re:=
 if w=[71,69,84] then Br2 b (r.getD 0 []) else
 if w=[83,84,82,76,69,78] then Xj b (r.getD 0 []) else
 if w=[73,78,67,82] then Bbx b (r.getD 0 []) [49] else
 if w=[83,69,84] then Bou b (r.getD 0 []) (r.getD 1 []) else
 if w=[65,80,80,69,78,68] then Tp b (r.getD 0 []) (r.getD 1 []) else
 if w=[73,78,67,82,66,89] then Bbx b (r.getD 0 []) (r.getD 1 []) else
 if w=[71,69,84,82,65,78,71,69] then Nk b (r.getD 0 []) (r.getD 1 []) (r.getD 2 []) else
 if w=[76,80,85,83,72] then Sn b (r.getD 0 []) true (r.drop 1) else
 if w=[82,80,85,83,72] then Sn b (r.getD 0 []) false (r.drop 1) else
 if w=[76,80,79,80] then Bb1 b (r.getD 0 []) true else
 if w=[82,80,79,80] then Bb1 b (r.getD 0 []) false else
 if w=[76,76,69,78] then Uk b (r.getD 0 []) else
 if w=[76,82,65,78,71,69] then Tu b (r.getD 0 []) (r.getD 1 []) (r.getD 2 []) else
 if w=[76,84,82,73,77] then Yh b (r.getD 0 []) (r.getD 1 []) (r.getD 2 []) else
 if w=[76,83,69,84] then Bdw b (r.getD 0 []) (r.getD 1 []) (r.getD 2 []) else
 if w=[76,82,69,77] then Bdv b (r.getD 0 []) (r.getD 1 []) (r.getD 2 []) else
 if w=[83,65,68,68] then Bdx b (r.getD 0 []) (r.drop 1) else
 if w=[83,82,69,77] then Bdy b (r.getD 0 []) (r.drop 1) else
 if w=[83,77,69,77,66,69,82,83] then Qn b (r.getD 0 []) else
 if w=[83,67,65,82,68] then Uk b (r.getD 0 []) else
 if w=[83,73,83,77,69,77,66,69,82] then Pe b (r.getD 0 []) (r.getD 1 []) else
 if w=[83,73,78,84,69,82] then Xh b (r.getD 0 []) (r.getD 1 []) else
 if w=[83,85,78,73,79,78] then Xk b (r.getD 0 []) (r.getD 1 []) else
 if w=[83,68,73,70,70] then Bb2 b (r.getD 0 []) (r.getD 1 []) else
 if w=[90,65,68,68] then Bdz b (r.getD 0 []) (r.getD 1 []) (r.getD 2 []) else
 if w=[90,73,78,67,82,66,89] then Qo b (r.getD 0 []) (r.getD 1 []) (r.getD 2 []) else
 if w=[90,82,65,78,71,69] then Tw b (r.getD 0 []) (r.getD 1 []) (r.getD 2 []) else
 if w=[90,82,65,78,71,69,66,89,83,67,79,82,69] then J7 b (r.getD 0 []) (r.getD 1 []) (r.getD 2 []) else
 if w=[90,82,69,77] then Bd0 b (r.getD 0 []) (r.getD 1 []) else
 if w=[90,83,67,79,82,69] then Xl b (r.getD 0 []) (r.getD 1 []) else
 if w=[90,82,65,78,75] then Bb5 b (r.getD 0 []) (r.getD 1 []) else
 if w=[90,67,65,82,68] then Bb4 b (r.getD 0 []) else
 if w=[72,83,69,84] then Bdu b (r.getD 0 []) (r.getD 1 []) (r.getD 2 []) else
 if w=[72,71,69,84] then Bhi b (r.getD 0 []) (r.getD 1 []) else
 if w=[72,68,69,76] then Bdt b (r.getD 0 []) (r.getD 1 []) else
 if w=[72,71,69,84,65,76,76] then Sm b (r.getD 0 []) else
 if w=[72,76,69,78] then Bhj b (r.getD 0 []) else
 if w=[72,73,78,67,82,66,89] then Ql b (r.getD 0 []) (r.getD 1 []) (r.getD 2 []) else
 if w=[68,69,76] then Boq b r else
 if w=[69,88,73,83,84,83] then Tq b r else
 if w=[84,89,80,69] then Bhn b (r.getD 0 []) else
 if w=[84,84,76] then Br4 b (r.getD 0 []) else
 if w=[80,69,82,83,73,83,84] then Qm b (r.getD 0 []) else
 if w=[69,88,80,73,82,69] then Tt b (r.getD 0 []) (r.getD 1 []) else
 if w=[69,88,80,73,82,69,65,84] then Nj b (r.getD 0 []) (r.getD 1 []) else
 if w=[82,69,78,65,77,69] then Tv b (r.getD 0 []) (r.getD 1 []) else
 if w=[75,69,89,83] then Bhk b (r.getD 0 []) else
 if w=[68,66,83,73,90,69] then Xe b else
 if w=[70,76,85,83,72] then Yf b else
 (b,Du [117,110,107,110,111,119,110])
def rDo (b:Ba) (args:List Bp):Ba×Re:=if Cz b args=[] then Dq b (args.getD 0 []) args.tail else(b,Du (Cz b args))
theorem Bz {b:Ba} {w:Bp} {r:List Bp} (h:Cz b (w::r)=[]): (Bi w).1≤(r.length:Int)+1∧(r.length:Int)+1≤(Bi w).2.1:=by
 unfold Cz at h
 have e0: (w::r).getD 0 []=w:=rfl
 have e2: ((w::r).length:Int)=(r.length:Int)+1:=by rw[List.length_cons];omega
 rw[e0,e2] at h
 split at h
 ·simp at h
 ·split at h
  ·simp at h
  ·rename_i h2;exact Decidable.not_not.1 h2
theorem Bul (b:Ba) (r:List Bp) (hb:BaG b) (ha: ∀x∈r,x.length≤40) (hr:Cz b ([71,69,84]::r)=[]):Be (ev R) 82 [.d (Dx b), .d (Bf ([71,69,84]::r))]=some (Bl (Dq b [71,69,84] r)):=Bb fun H=>by
 refine Bh (fn:=f82) rfl rfl ?_
 have hl:=Bz hr
 have wv:Bi [71,69,84]=(2,2,1):=rfl
 rw[wv] at hl
 dsimp only at hl
 obtain⟨k,rfl⟩: ∃k,r=[k]:=by
  match r,hl with
  | [],hl=>exact absurd hl (by simp)
  | [k],_=>exact⟨k,rfl⟩
  |k::z::ts,hl=>exact absurd hl (by simp only[List.length_cons];omega)
 have hk:k.length≤40:=ha k (by simp)
 have p1:=Fh b ([[71,69,84],k]) hb.sm (by simp only[List.length_cons,List.length_nil];omega) (by simp)
 rw[hr] at p1
 have p2:=Ff [71,69,84]
 rw[wv] at p2
 have p3:=Boe b k hb hk
 have re:Dq b [71,69,84] [k]=Br2 b k:=rfl
 rw[re]
 generalize Br2 b k=P at*
 simp only[Bf,List.map_cons,List.map_nil] at p1 p3
 simp(maxSteps:=1000000) [Cm,-List.getD_eq_getElem?_getD,-List.map_map,f82,p1,p2,p3,Bl]
theorem Bio (b:Ba) (r:List Bp) (hb:BaG b) (ha: ∀x∈r,x.length≤40) (hr:Cz b ([83,84,82,76,69,78]::r)=[]):Be (ev R) 82 [.d (Dx b), .d (Bf ([83,84,82,76,69,78]::r))]=some (Bl (Dq b [83,84,82,76,69,78] r)):=Bb fun H=>by
 refine Bh (fn:=f82) rfl rfl ?_
 have hl:=Bz hr
 have wv:Bi [83,84,82,76,69,78]=(2,2,1):=rfl
 rw[wv] at hl
 dsimp only at hl
 obtain⟨k,rfl⟩: ∃k,r=[k]:=by
  match r,hl with
  | [],hl=>exact absurd hl (by simp)
  | [k],_=>exact⟨k,rfl⟩
  |k::z::ts,hl=>exact absurd hl (by simp only[List.length_cons];omega)
 have hk:k.length≤40:=ha k (by simp)
 have p1:=Fh b ([[83,84,82,76,69,78],k]) hb.sm (by simp only[List.length_cons,List.length_nil];omega) (by simp)
 rw[hr] at p1
 have p2:=Ff [83,84,82,76,69,78]
 rw[wv] at p2
 have p3:=Be3 b k hb hk
 have re:Dq b [83,84,82,76,69,78] [k]=Xj b k:=rfl
 rw[re]
 generalize Xj b k=P at*
 simp only[Bf,List.map_cons,List.map_nil] at p1 p3
 simp(maxSteps:=1000000) [Cm,-List.getD_eq_getElem?_getD,-List.map_map,f82,p1,p2,p3,Bl]
theorem Bpr (b:Ba) (r:List Bp) (hb:BaG b) (ha: ∀x∈r,x.length≤40) (hr:Cz b ([73,78,67,82]::r)=[]):Be (ev R) 82 [.d (Dx b), .d (Bf ([73,78,67,82]::r))]=some (Bl (Dq b [73,78,67,82] r)):=Bb fun H=>by
 refine Bh (fn:=f82) rfl rfl ?_
 have hl:=Bz hr
 have wv:Bi [73,78,67,82]=(2,2,1):=rfl
 rw[wv] at hl
 dsimp only at hl
 obtain⟨k,rfl⟩: ∃k,r=[k]:=by
  match r,hl with
  | [],hl=>exact absurd hl (by simp)
  | [k],_=>exact⟨k,rfl⟩
  |k::z::ts,hl=>exact absurd hl (by simp only[List.length_cons];omega)
 have hk:k.length≤40:=ha k (by simp)
 have p1:=Fh b ([[73,78,67,82],k]) hb.sm (by simp only[List.length_cons,List.length_nil];omega) (by simp)
 rw[hr] at p1
 have p2:=Ff [73,78,67,82]
 rw[wv] at p2
 have p3:=Bj5 b k hb hk
 have re:Dq b [73,78,67,82] [k]=Bbx b k [49]:=rfl
 rw[re]
 generalize Bbx b k [49]=P at*
 simp only[Bf,List.map_cons,List.map_nil] at p1 p3
 simp(maxSteps:=1000000) [Cm,-List.getD_eq_getElem?_getD,-List.map_map,f82,p1,p2,p3,Bl]
theorem Bum (b:Ba) (r:List Bp) (hb:BaG b) (ha: ∀x∈r,x.length≤40) (hr:Cz b ([83,69,84]::r)=[]):Be (ev R) 82 [.d (Dx b), .d (Bf ([83,69,84]::r))]=some (Bl (Dq b [83,69,84] r)):=Bb fun H=>by
 refine Bh (fn:=f82) rfl rfl ?_
 have hl:=Bz hr
 have wv:Bi [83,69,84]=(3,3,0):=rfl
 rw[wv] at hl
 dsimp only at hl
 obtain⟨k,x,rfl⟩: ∃k x,r=[k,x]:=by
  match r,hl with
  | [],hl=>exact absurd hl (by simp)
  | [a0],hl=>exact absurd hl (by simp)
  | [k,x],_=>exact⟨k,x,rfl⟩
  |k::x::z::ts,hl=>exact absurd hl (by simp only[List.length_cons];omega)
 have hk:k.length≤40:=ha k (by simp)
 have hx:x.length≤40:=ha x (by simp)
 have p1:=Fh b ([[83,69,84],k,x]) hb.sm (by simp only[List.length_cons,List.length_nil];omega) (by simp)
 rw[hr] at p1
 have p2:=Ff [83,69,84]
 rw[wv] at p2
 have p3:=Bof b k x hb hk hx
 have re:Dq b [83,69,84] [k,x]=Bou b k x:=rfl
 rw[re]
 generalize Bou b k x=P at*
 simp only[Bf,List.map_cons,List.map_nil] at p1 p3
 simp(maxSteps:=1000000) [Cm,-List.getD_eq_getElem?_getD,-List.map_map,f82,p1,p2,p3,Bl]
theorem Bie (b:Ba) (r:List Bp) (hb:BaG b) (ha: ∀x∈r,x.length≤40) (hr:Cz b ([65,80,80,69,78,68]::r)=[]):Be (ev R) 82 [.d (Dx b), .d (Bf ([65,80,80,69,78,68]::r))]=some (Bl (Dq b [65,80,80,69,78,68] r)):=Bb fun H=>by
 refine Bh (fn:=f82) rfl rfl ?_
 have hl:=Bz hr
 have wv:Bi [65,80,80,69,78,68]=(3,3,1):=rfl
 rw[wv] at hl
 dsimp only at hl
 obtain⟨k,x,rfl⟩: ∃k x,r=[k,x]:=by
  match r,hl with
  | [],hl=>exact absurd hl (by simp)
  | [a0],hl=>exact absurd hl (by simp)
  | [k,x],_=>exact⟨k,x,rfl⟩
  |k::x::z::ts,hl=>exact absurd hl (by simp only[List.length_cons];omega)
 have hk:k.length≤40:=ha k (by simp)
 have hx:x.length≤40:=ha x (by simp)
 have p1:=Fh b ([[65,80,80,69,78,68],k,x]) hb.sm (by simp only[List.length_cons,List.length_nil];omega) (by simp)
 rw[hr] at p1
 have p2:=Ff [65,80,80,69,78,68]
 rw[wv] at p2
 have p3:=Be1 b k x hb hk hx
 have re:Dq b [65,80,80,69,78,68] [k,x]=Tp b k x:=rfl
 rw[re]
 generalize Tp b k x=P at*
 simp only[Bf,List.map_cons,List.map_nil] at p1 p3
 simp(maxSteps:=1000000) [Cm,-List.getD_eq_getElem?_getD,-List.map_map,f82,p1,p2,p3,Bl]
theorem Bij (b:Ba) (r:List Bp) (hb:BaG b) (ha: ∀x∈r,x.length≤40) (hr:Cz b ([73,78,67,82,66,89]::r)=[]):Be (ev R) 82 [.d (Dx b), .d (Bf ([73,78,67,82,66,89]::r))]=some (Bl (Dq b [73,78,67,82,66,89] r)):=Bb fun H=>by
 refine Bh (fn:=f82) rfl rfl ?_
 have hl:=Bz hr
 have wv:Bi [73,78,67,82,66,89]=(3,3,1):=rfl
 rw[wv] at hl
 dsimp only at hl
 obtain⟨k,x,rfl⟩: ∃k x,r=[k,x]:=by
  match r,hl with
  | [],hl=>exact absurd hl (by simp)
  | [a0],hl=>exact absurd hl (by simp)
  | [k,x],_=>exact⟨k,x,rfl⟩
  |k::x::z::ts,hl=>exact absurd hl (by simp only[List.length_cons];omega)
 have hk:k.length≤40:=ha k (by simp)
 have hx:x.length≤40:=ha x (by simp)
 have p1:=Fh b ([[73,78,67,82,66,89],k,x]) hb.sm (by simp only[List.length_cons,List.length_nil];omega) (by simp)
 rw[hr] at p1
 have p2:=Ff [73,78,67,82,66,89]
 rw[wv] at p2
 have p3:=Be2 b k x hb hk hx
 have re:Dq b [73,78,67,82,66,89] [k,x]=Bbx b k x:=rfl
 rw[re]
 generalize Bbx b k x=P at*
 simp only[Bf,List.map_cons,List.map_nil] at p1 p3
 simp(maxSteps:=1000000) [Cm,-List.getD_eq_getElem?_getD,-List.map_map,f82,p1,p2,p3,Bl]
theorem Bcx (b:Ba) (r:List Bp) (hb:BaG b) (ha: ∀x∈r,x.length≤40) (hr:Cz b ([71,69,84,82,65,78,71,69]::r)=[]):Be (ev R) 82 [.d (Dx b), .d (Bf ([71,69,84,82,65,78,71,69]::r))]=some (Bl (Dq b [71,69,84,82,65,78,71,69] r)):=Bb fun H=>by
 refine Bh (fn:=f82) rfl rfl ?_
 have hl:=Bz hr
 have wv:Bi [71,69,84,82,65,78,71,69]=(4,4,1):=rfl
 rw[wv] at hl
 dsimp only at hl
 obtain⟨k,x,y,rfl⟩: ∃k x y,r=[k,x,y]:=by
  match r,hl with
  | [],hl=>exact absurd hl (by simp)
  | [a0],hl=>exact absurd hl (by simp)
  | [a0,a1],hl=>exact absurd hl (by simp)
  | [k,x,y],_=>exact⟨k,x,y,rfl⟩
  |k::x::y::z::ts,hl=>exact absurd hl (by simp only[List.length_cons];omega)
 have hk:k.length≤40:=ha k (by simp)
 have hx:x.length≤40:=ha x (by simp)
 have hy:y.length≤40:=ha y (by simp)
 have p1:=Fh b ([[71,69,84,82,65,78,71,69],k,x,y]) hb.sm (by simp only[List.length_cons,List.length_nil];omega) (by simp)
 rw[hr] at p1
 have p2:=Ff [71,69,84,82,65,78,71,69]
 rw[wv] at p2
 have p3:=Bbt b k x y hb hk hx hy
 have re:Dq b [71,69,84,82,65,78,71,69] [k,x,y]=Nk b k x y:=rfl
 rw[re]
 generalize Nk b k x y=P at*
 simp only[Bf,List.map_cons,List.map_nil] at p1 p3
 simp(maxSteps:=1000000) [Cm,-List.getD_eq_getElem?_getD,-List.map_map,f82,p1,p2,p3,Bl]
theorem Blf (b:Ba) (r:List Bp) (hb:BaG b) (ha: ∀x∈r,x.length≤40) (hr:Cz b ([76,80,85,83,72]::r)=[]):Be (ev R) 82 [.d (Dx b), .d (Bf ([76,80,85,83,72]::r))]=some (Bl (Dq b [76,80,85,83,72] r)):=Bb fun H=>by
 refine Bh (fn:=f82) rfl rfl ?_
 have hl:=Bz hr
 have wv:Bi [76,80,85,83,72]=(3,8,2):=rfl
 rw[wv] at hl
 dsimp only at hl
 obtain⟨k,ts,rfl⟩: ∃k ts,r=k::ts:=by
  match r,hl with
  | [],hl=>simp at hl
  |k::ts,_=>exact⟨k,ts,rfl⟩
 simp only[List.length_cons] at hl
 have hk:k.length≤40:=ha k (by simp)
 have c00: (0:Int)< (ts.length:Int)+1+1:=by omega
 have p1:=Fh b ([76,80,85,83,72]::k::ts) hb.sm (by simp only[List.length_cons,List.length_nil];omega) (by simp)
 rw[hr] at p1
 have p2:=Ff [76,80,85,83,72]
 rw[wv] at p2
 have p3:=Bg4 b k ts hb hk (by omega)
 have re:Dq b [76,80,85,83,72] (k::ts)=Sn b k true ts:=rfl
 rw[re]
 generalize Sn b k true ts=P at*
 simp only[Bf,List.map_cons,List.map_nil] at p1 p3
 simp(maxSteps:=1000000) [Cm,-List.getD_eq_getElem?_getD,-List.map_map,f82,p1,p2,p3,Bl,c00]
theorem Blh (b:Ba) (r:List Bp) (hb:BaG b) (ha: ∀x∈r,x.length≤40) (hr:Cz b ([82,80,85,83,72]::r)=[]):Be (ev R) 82 [.d (Dx b), .d (Bf ([82,80,85,83,72]::r))]=some (Bl (Dq b [82,80,85,83,72] r)):=Bb fun H=>by
 refine Bh (fn:=f82) rfl rfl ?_
 have hl:=Bz hr
 have wv:Bi [82,80,85,83,72]=(3,8,2):=rfl
 rw[wv] at hl
 dsimp only at hl
 obtain⟨k,ts,rfl⟩: ∃k ts,r=k::ts:=by
  match r,hl with
  | [],hl=>simp at hl
  |k::ts,_=>exact⟨k,ts,rfl⟩
 simp only[List.length_cons] at hl
 have hk:k.length≤40:=ha k (by simp)
 have c00: (0:Int)< (ts.length:Int)+1+1:=by omega
 have p1:=Fh b ([82,80,85,83,72]::k::ts) hb.sm (by simp only[List.length_cons,List.length_nil];omega) (by simp)
 rw[hr] at p1
 have p2:=Ff [82,80,85,83,72]
 rw[wv] at p2
 have p3:=Bg6 b k ts hb hk (by omega)
 have re:Dq b [82,80,85,83,72] (k::ts)=Sn b k false ts:=rfl
 rw[re]
 generalize Sn b k false ts=P at*
 simp only[Bf,List.map_cons,List.map_nil] at p1 p3
 simp(maxSteps:=1000000) [Cm,-List.getD_eq_getElem?_getD,-List.map_map,f82,p1,p2,p3,Bl,c00]
theorem Bpu (b:Ba) (r:List Bp) (hb:BaG b) (ha: ∀x∈r,x.length≤40) (hr:Cz b ([76,80,79,80]::r)=[]):Be (ev R) 82 [.d (Dx b), .d (Bf ([76,80,79,80]::r))]=some (Bl (Dq b [76,80,79,80] r)):=Bb fun H=>by
 refine Bh (fn:=f82) rfl rfl ?_
 have hl:=Bz hr
 have wv:Bi [76,80,79,80]=(2,2,2):=rfl
 rw[wv] at hl
 dsimp only at hl
 obtain⟨k,rfl⟩: ∃k,r=[k]:=by
  match r,hl with
  | [],hl=>exact absurd hl (by simp)
  | [k],_=>exact⟨k,rfl⟩
  |k::z::ts,hl=>exact absurd hl (by simp only[List.length_cons];omega)
 have hk:k.length≤40:=ha k (by simp)
 have p1:=Fh b ([[76,80,79,80],k]) hb.sm (by simp only[List.length_cons,List.length_nil];omega) (by simp)
 rw[hr] at p1
 have p2:=Ff [76,80,79,80]
 rw[wv] at p2
 have p3:=Bj7 b k hb hk
 have re:Dq b [76,80,79,80] [k]=Bb1 b k true:=rfl
 rw[re]
 generalize Bb1 b k true=P at*
 simp only[Bf,List.map_cons,List.map_nil] at p1 p3
 simp(maxSteps:=1000000) [Cm,-List.getD_eq_getElem?_getD,-List.map_map,f82,p1,p2,p3,Bl]
theorem Bpx (b:Ba) (r:List Bp) (hb:BaG b) (ha: ∀x∈r,x.length≤40) (hr:Cz b ([82,80,79,80]::r)=[]):Be (ev R) 82 [.d (Dx b), .d (Bf ([82,80,79,80]::r))]=some (Bl (Dq b [82,80,79,80] r)):=Bb fun H=>by
 refine Bh (fn:=f82) rfl rfl ?_
 have hl:=Bz hr
 have wv:Bi [82,80,79,80]=(2,2,2):=rfl
 rw[wv] at hl
 dsimp only at hl
 obtain⟨k,rfl⟩: ∃k,r=[k]:=by
  match r,hl with
  | [],hl=>exact absurd hl (by simp)
  | [k],_=>exact⟨k,rfl⟩
  |k::z::ts,hl=>exact absurd hl (by simp only[List.length_cons];omega)
 have hk:k.length≤40:=ha k (by simp)
 have p1:=Fh b ([[82,80,79,80],k]) hb.sm (by simp only[List.length_cons,List.length_nil];omega) (by simp)
 rw[hr] at p1
 have p2:=Ff [82,80,79,80]
 rw[wv] at p2
 have p3:=Bka b k hb hk
 have re:Dq b [82,80,79,80] [k]=Bb1 b k false:=rfl
 rw[re]
 generalize Bb1 b k false=P at*
 simp only[Bf,List.map_cons,List.map_nil] at p1 p3
 simp(maxSteps:=1000000) [Cm,-List.getD_eq_getElem?_getD,-List.map_map,f82,p1,p2,p3,Bl]
theorem Bpt (b:Ba) (r:List Bp) (hb:BaG b) (ha: ∀x∈r,x.length≤40) (hr:Cz b ([76,76,69,78]::r)=[]):Be (ev R) 82 [.d (Dx b), .d (Bf ([76,76,69,78]::r))]=some (Bl (Dq b [76,76,69,78] r)):=Bb fun H=>by
 refine Bh (fn:=f82) rfl rfl ?_
 have hl:=Bz hr
 have wv:Bi [76,76,69,78]=(2,2,2):=rfl
 rw[wv] at hl
 dsimp only at hl
 obtain⟨k,rfl⟩: ∃k,r=[k]:=by
  match r,hl with
  | [],hl=>exact absurd hl (by simp)
  | [k],_=>exact⟨k,rfl⟩
  |k::z::ts,hl=>exact absurd hl (by simp only[List.length_cons];omega)
 have hk:k.length≤40:=ha k (by simp)
 have p1:=Fh b ([[76,76,69,78],k]) hb.sm (by simp only[List.length_cons,List.length_nil];omega) (by simp)
 rw[hr] at p1
 have p2:=Ff [76,76,69,78]
 rw[wv] at p2
 have p3:=Bj6 b k hb hk
 have re:Dq b [76,76,69,78] [k]=Uk b k:=rfl
 rw[re]
 generalize Uk b k=P at*
 simp only[Bf,List.map_cons,List.map_nil] at p1 p3
 simp(maxSteps:=1000000) [Cm,-List.getD_eq_getElem?_getD,-List.map_map,f82,p1,p2,p3,Bl]
theorem Bik (b:Ba) (r:List Bp) (hb:BaG b) (ha: ∀x∈r,x.length≤40) (hr:Cz b ([76,82,65,78,71,69]::r)=[]):Be (ev R) 82 [.d (Dx b), .d (Bf ([76,82,65,78,71,69]::r))]=some (Bl (Dq b [76,82,65,78,71,69] r)):=Bb fun H=>by
 refine Bh (fn:=f82) rfl rfl ?_
 have hl:=Bz hr
 have wv:Bi [76,82,65,78,71,69]=(4,4,2):=rfl
 rw[wv] at hl
 dsimp only at hl
 obtain⟨k,x,y,rfl⟩: ∃k x y,r=[k,x,y]:=by
  match r,hl with
  | [],hl=>exact absurd hl (by simp)
  | [a0],hl=>exact absurd hl (by simp)
  | [a0,a1],hl=>exact absurd hl (by simp)
  | [k,x,y],_=>exact⟨k,x,y,rfl⟩
  |k::x::y::z::ts,hl=>exact absurd hl (by simp only[List.length_cons];omega)
 have hk:k.length≤40:=ha k (by simp)
 have hx:x.length≤40:=ha x (by simp)
 have hy:y.length≤40:=ha y (by simp)
 have p1:=Fh b ([[76,82,65,78,71,69],k,x,y]) hb.sm (by simp only[List.length_cons,List.length_nil];omega) (by simp)
 rw[hr] at p1
 have p2:=Ff [76,82,65,78,71,69]
 rw[wv] at p2
 have p3:=Be4 b k x y hb hk hx hy
 have re:Dq b [76,82,65,78,71,69] [k,x,y]=Tu b k x y:=rfl
 rw[re]
 generalize Tu b k x y=P at*
 simp only[Bf,List.map_cons,List.map_nil] at p1 p3
 simp(maxSteps:=1000000) [Cm,-List.getD_eq_getElem?_getD,-List.map_map,f82,p1,p2,p3,Bl]
theorem Blg (b:Ba) (r:List Bp) (hb:BaG b) (ha: ∀x∈r,x.length≤40) (hr:Cz b ([76,84,82,73,77]::r)=[]):Be (ev R) 82 [.d (Dx b), .d (Bf ([76,84,82,73,77]::r))]=some (Bl (Dq b [76,84,82,73,77] r)):=Bb fun H=>by
 refine Bh (fn:=f82) rfl rfl ?_
 have hl:=Bz hr
 have wv:Bi [76,84,82,73,77]=(4,4,2):=rfl
 rw[wv] at hl
 dsimp only at hl
 obtain⟨k,x,y,rfl⟩: ∃k x y,r=[k,x,y]:=by
  match r,hl with
  | [],hl=>exact absurd hl (by simp)
  | [a0],hl=>exact absurd hl (by simp)
  | [a0,a1],hl=>exact absurd hl (by simp)
  | [k,x,y],_=>exact⟨k,x,y,rfl⟩
  |k::x::y::z::ts,hl=>exact absurd hl (by simp only[List.length_cons];omega)
 have hk:k.length≤40:=ha k (by simp)
 have hx:x.length≤40:=ha x (by simp)
 have hy:y.length≤40:=ha y (by simp)
 have p1:=Fh b ([[76,84,82,73,77],k,x,y]) hb.sm (by simp only[List.length_cons,List.length_nil];omega) (by simp)
 rw[hr] at p1
 have p2:=Ff [76,84,82,73,77]
 rw[wv] at p2
 have p3:=Bg5 b k x y hb hk hx hy
 have re:Dq b [76,84,82,73,77] [k,x,y]=Yh b k x y:=rfl
 rw[re]
 generalize Yh b k x y=P at*
 simp only[Bf,List.map_cons,List.map_nil] at p1 p3
 simp(maxSteps:=1000000) [Cm,-List.getD_eq_getElem?_getD,-List.map_map,f82,p1,p2,p3,Bl]
theorem Bpw (b:Ba) (r:List Bp) (hb:BaG b) (ha: ∀x∈r,x.length≤40) (hr:Cz b ([76,83,69,84]::r)=[]):Be (ev R) 82 [.d (Dx b), .d (Bf ([76,83,69,84]::r))]=some (Bl (Dq b [76,83,69,84] r)):=Bb fun H=>by
 refine Bh (fn:=f82) rfl rfl ?_
 have hl:=Bz hr
 have wv:Bi [76,83,69,84]=(4,4,2):=rfl
 rw[wv] at hl
 dsimp only at hl
 obtain⟨k,x,y,rfl⟩: ∃k x y,r=[k,x,y]:=by
  match r,hl with
  | [],hl=>exact absurd hl (by simp)
  | [a0],hl=>exact absurd hl (by simp)
  | [a0,a1],hl=>exact absurd hl (by simp)
  | [k,x,y],_=>exact⟨k,x,y,rfl⟩
  |k::x::y::z::ts,hl=>exact absurd hl (by simp only[List.length_cons];omega)
 have hk:k.length≤40:=ha k (by simp)
 have hx:x.length≤40:=ha x (by simp)
 have hy:y.length≤40:=ha y (by simp)
 have p1:=Fh b ([[76,83,69,84],k,x,y]) hb.sm (by simp only[List.length_cons,List.length_nil];omega) (by simp)
 rw[hr] at p1
 have p2:=Ff [76,83,69,84]
 rw[wv] at p2
 have p3:=Bj9 b k x y hb hk hx hy
 have re:Dq b [76,83,69,84] [k,x,y]=Bdw b k x y:=rfl
 rw[re]
 generalize Bdw b k x y=P at*
 simp only[Bf,List.map_cons,List.map_nil] at p1 p3
 simp(maxSteps:=1000000) [Cm,-List.getD_eq_getElem?_getD,-List.map_map,f82,p1,p2,p3,Bl]
theorem Bpv (b:Ba) (r:List Bp) (hb:BaG b) (ha: ∀x∈r,x.length≤40) (hr:Cz b ([76,82,69,77]::r)=[]):Be (ev R) 82 [.d (Dx b), .d (Bf ([76,82,69,77]::r))]=some (Bl (Dq b [76,82,69,77] r)):=Bb fun H=>by
 refine Bh (fn:=f82) rfl rfl ?_
 have hl:=Bz hr
 have wv:Bi [76,82,69,77]=(4,4,2):=rfl
 rw[wv] at hl
 dsimp only at hl
 obtain⟨k,x,y,rfl⟩: ∃k x y,r=[k,x,y]:=by
  match r,hl with
  | [],hl=>exact absurd hl (by simp)
  | [a0],hl=>exact absurd hl (by simp)
  | [a0,a1],hl=>exact absurd hl (by simp)
  | [k,x,y],_=>exact⟨k,x,y,rfl⟩
  |k::x::y::z::ts,hl=>exact absurd hl (by simp only[List.length_cons];omega)
 have hk:k.length≤40:=ha k (by simp)
 have hx:x.length≤40:=ha x (by simp)
 have hy:y.length≤40:=ha y (by simp)
 have p1:=Fh b ([[76,82,69,77],k,x,y]) hb.sm (by simp only[List.length_cons,List.length_nil];omega) (by simp)
 rw[hr] at p1
 have p2:=Ff [76,82,69,77]
 rw[wv] at p2
 have p3:=Bj8 b k x y hb hk hx hy
 have re:Dq b [76,82,69,77] [k,x,y]=Bdv b k x y:=rfl
 rw[re]
 generalize Bdv b k x y=P at*
 simp only[Bf,List.map_cons,List.map_nil] at p1 p3
 simp(maxSteps:=1000000) [Cm,-List.getD_eq_getElem?_getD,-List.map_map,f82,p1,p2,p3,Bl]
theorem Bpy (b:Ba) (r:List Bp) (hb:BaG b) (ha: ∀x∈r,x.length≤40) (hr:Cz b ([83,65,68,68]::r)=[]):Be (ev R) 82 [.d (Dx b), .d (Bf ([83,65,68,68]::r))]=some (Bl (Dq b [83,65,68,68] r)):=Bb fun H=>by
 refine Bh (fn:=f82) rfl rfl ?_
 have hl:=Bz hr
 have wv:Bi [83,65,68,68]=(3,8,3):=rfl
 rw[wv] at hl
 dsimp only at hl
 obtain⟨k,ts,rfl⟩: ∃k ts,r=k::ts:=by
  match r,hl with
  | [],hl=>simp at hl
  |k::ts,_=>exact⟨k,ts,rfl⟩
 simp only[List.length_cons] at hl
 have hk:k.length≤40:=ha k (by simp)
 have c00: (0:Int)< (ts.length:Int)+1+1:=by omega
 have p1:=Fh b ([83,65,68,68]::k::ts) hb.sm (by simp only[List.length_cons,List.length_nil];omega) (by simp)
 rw[hr] at p1
 have p2:=Ff [83,65,68,68]
 rw[wv] at p2
 have p3:=Bkb b k ts hb hk (by omega)
 have re:Dq b [83,65,68,68] (k::ts)=Bdx b k ts:=rfl
 rw[re]
 generalize Bdx b k ts=P at*
 simp only[Bf,List.map_cons,List.map_nil] at p1 p3
 simp(maxSteps:=1000000) [Cm,-List.getD_eq_getElem?_getD,-List.map_map,f82,p1,p2,p3,Bl,c00]
theorem Bpz (b:Ba) (r:List Bp) (hb:BaG b) (ha: ∀x∈r,x.length≤40) (hr:Cz b ([83,82,69,77]::r)=[]):Be (ev R) 82 [.d (Dx b), .d (Bf ([83,82,69,77]::r))]=some (Bl (Dq b [83,82,69,77] r)):=Bb fun H=>by
 refine Bh (fn:=f82) rfl rfl ?_
 have hl:=Bz hr
 have wv:Bi [83,82,69,77]=(3,8,3):=rfl
 rw[wv] at hl
 dsimp only at hl
 obtain⟨k,ts,rfl⟩: ∃k ts,r=k::ts:=by
  match r,hl with
  | [],hl=>simp at hl
  |k::ts,_=>exact⟨k,ts,rfl⟩
 simp only[List.length_cons] at hl
 have hk:k.length≤40:=ha k (by simp)
 have c00: (0:Int)< (ts.length:Int)+1+1:=by omega
 have p1:=Fh b ([83,82,69,77]::k::ts) hb.sm (by simp only[List.length_cons,List.length_nil];omega) (by simp)
 rw[hr] at p1
 have p2:=Ff [83,82,69,77]
 rw[wv] at p2
 have p3:=Bkc b k ts hb hk (by omega)
 have re:Dq b [83,82,69,77] (k::ts)=Bdy b k ts:=rfl
 rw[re]
 generalize Bdy b k ts=P at*
 simp only[Bf,List.map_cons,List.map_nil] at p1 p3
 simp(maxSteps:=1000000) [Cm,-List.getD_eq_getElem?_getD,-List.map_map,f82,p1,p2,p3,Bl,c00]
theorem Bcy (b:Ba) (r:List Bp) (hb:BaG b) (ha: ∀x∈r,x.length≤40) (hr:Cz b ([83,77,69,77,66,69,82,83]::r)=[]):Be (ev R) 82 [.d (Dx b), .d (Bf ([83,77,69,77,66,69,82,83]::r))]=some (Bl (Dq b [83,77,69,77,66,69,82,83] r)):=Bb fun H=>by
 refine Bh (fn:=f82) rfl rfl ?_
 have hl:=Bz hr
 have wv:Bi [83,77,69,77,66,69,82,83]=(2,2,3):=rfl
 rw[wv] at hl
 dsimp only at hl
 obtain⟨k,rfl⟩: ∃k,r=[k]:=by
  match r,hl with
  | [],hl=>exact absurd hl (by simp)
  | [k],_=>exact⟨k,rfl⟩
  |k::z::ts,hl=>exact absurd hl (by simp only[List.length_cons];omega)
 have hk:k.length≤40:=ha k (by simp)
 have p1:=Fh b ([[83,77,69,77,66,69,82,83],k]) hb.sm (by simp only[List.length_cons,List.length_nil];omega) (by simp)
 rw[hr] at p1
 have p2:=Ff [83,77,69,77,66,69,82,83]
 rw[wv] at p2
 have p3:=Bbu b k hb hk
 have re:Dq b [83,77,69,77,66,69,82,83] [k]=Qn b k:=rfl
 rw[re]
 generalize Qn b k=P at*
 simp only[Bf,List.map_cons,List.map_nil] at p1 p3
 simp(maxSteps:=1000000) [Cm,-List.getD_eq_getElem?_getD,-List.map_map,f82,p1,p2,p3,Bl]
theorem Bli (b:Ba) (r:List Bp) (hb:BaG b) (ha: ∀x∈r,x.length≤40) (hr:Cz b ([83,67,65,82,68]::r)=[]):Be (ev R) 82 [.d (Dx b), .d (Bf ([83,67,65,82,68]::r))]=some (Bl (Dq b [83,67,65,82,68] r)):=Bb fun H=>by
 refine Bh (fn:=f82) rfl rfl ?_
 have hl:=Bz hr
 have wv:Bi [83,67,65,82,68]=(2,2,3):=rfl
 rw[wv] at hl
 dsimp only at hl
 obtain⟨k,rfl⟩: ∃k,r=[k]:=by
  match r,hl with
  | [],hl=>exact absurd hl (by simp)
  | [k],_=>exact⟨k,rfl⟩
  |k::z::ts,hl=>exact absurd hl (by simp only[List.length_cons];omega)
 have hk:k.length≤40:=ha k (by simp)
 have p1:=Fh b ([[83,67,65,82,68],k]) hb.sm (by simp only[List.length_cons,List.length_nil];omega) (by simp)
 rw[hr] at p1
 have p2:=Ff [83,67,65,82,68]
 rw[wv] at p2
 have p3:=Bg7 b k hb hk
 have re:Dq b [83,67,65,82,68] [k]=Uk b k:=rfl
 rw[re]
 generalize Uk b k=P at*
 simp only[Bf,List.map_cons,List.map_nil] at p1 p3
 simp(maxSteps:=1000000) [Cm,-List.getD_eq_getElem?_getD,-List.map_map,f82,p1,p2,p3,Bl]
theorem Bck (b:Ba) (r:List Bp) (hb:BaG b) (ha: ∀x∈r,x.length≤40) (hr:Cz b ([83,73,83,77,69,77,66,69,82]::r)=[]):Be (ev R) 82 [.d (Dx b), .d (Bf ([83,73,83,77,69,77,66,69,82]::r))]=some (Bl (Dq b [83,73,83,77,69,77,66,69,82] r)):=Bb fun H=>by
 refine Bh (fn:=f82) rfl rfl ?_
 have hl:=Bz hr
 have wv:Bi [83,73,83,77,69,77,66,69,82]=(3,3,3):=rfl
 rw[wv] at hl
 dsimp only at hl
 obtain⟨k,x,rfl⟩: ∃k x,r=[k,x]:=by
  match r,hl with
  | [],hl=>exact absurd hl (by simp)
  | [a0],hl=>exact absurd hl (by simp)
  | [k,x],_=>exact⟨k,x,rfl⟩
  |k::x::z::ts,hl=>exact absurd hl (by simp only[List.length_cons];omega)
 have hk:k.length≤40:=ha k (by simp)
 have hx:x.length≤40:=ha x (by simp)
 have p1:=Fh b ([[83,73,83,77,69,77,66,69,82],k,x]) hb.sm (by simp only[List.length_cons,List.length_nil];omega) (by simp)
 rw[hr] at p1
 have p2:=Ff [83,73,83,77,69,77,66,69,82]
 rw[wv] at p2
 have p3:=Zq b k x hb hk hx
 have re:Dq b [83,73,83,77,69,77,66,69,82] [k,x]=Pe b k x:=rfl
 rw[re]
 generalize Pe b k x=P at*
 simp only[Bf,List.map_cons,List.map_nil] at p1 p3
 simp(maxSteps:=1000000) [Cm,-List.getD_eq_getElem?_getD,-List.map_map,f82,p1,p2,p3,Bl]
theorem Bim (b:Ba) (r:List Bp) (hb:BaG b) (ha: ∀x∈r,x.length≤40) (hr:Cz b ([83,73,78,84,69,82]::r)=[]):Be (ev R) 82 [.d (Dx b), .d (Bf ([83,73,78,84,69,82]::r))]=some (Bl (Dq b [83,73,78,84,69,82] r)):=Bb fun H=>by
 refine Bh (fn:=f82) rfl rfl ?_
 have hl:=Bz hr
 have wv:Bi [83,73,78,84,69,82]=(3,3,3):=rfl
 rw[wv] at hl
 dsimp only at hl
 obtain⟨k,x,rfl⟩: ∃k x,r=[k,x]:=by
  match r,hl with
  | [],hl=>exact absurd hl (by simp)
  | [a0],hl=>exact absurd hl (by simp)
  | [k,x],_=>exact⟨k,x,rfl⟩
  |k::x::z::ts,hl=>exact absurd hl (by simp only[List.length_cons];omega)
 have hk:k.length≤40:=ha k (by simp)
 have hx:x.length≤40:=ha x (by simp)
 have p1:=Fh b ([[83,73,78,84,69,82],k,x]) hb.sm (by simp only[List.length_cons,List.length_nil];omega) (by simp)
 rw[hr] at p1
 have p2:=Ff [83,73,78,84,69,82]
 rw[wv] at p2
 have p3:=Be5 b k x hb hk hx
 have re:Dq b [83,73,78,84,69,82] [k,x]=Xh b k x:=rfl
 rw[re]
 generalize Xh b k x=P at*
 simp only[Bf,List.map_cons,List.map_nil] at p1 p3
 simp(maxSteps:=1000000) [Cm,-List.getD_eq_getElem?_getD,-List.map_map,f82,p1,p2,p3,Bl]
theorem Bip (b:Ba) (r:List Bp) (hb:BaG b) (ha: ∀x∈r,x.length≤40) (hr:Cz b ([83,85,78,73,79,78]::r)=[]):Be (ev R) 82 [.d (Dx b), .d (Bf ([83,85,78,73,79,78]::r))]=some (Bl (Dq b [83,85,78,73,79,78] r)):=Bb fun H=>by
 refine Bh (fn:=f82) rfl rfl ?_
 have hl:=Bz hr
 have wv:Bi [83,85,78,73,79,78]=(3,3,3):=rfl
 rw[wv] at hl
 dsimp only at hl
 obtain⟨k,x,rfl⟩: ∃k x,r=[k,x]:=by
  match r,hl with
  | [],hl=>exact absurd hl (by simp)
  | [a0],hl=>exact absurd hl (by simp)
  | [k,x],_=>exact⟨k,x,rfl⟩
  |k::x::z::ts,hl=>exact absurd hl (by simp only[List.length_cons];omega)
 have hk:k.length≤40:=ha k (by simp)
 have hx:x.length≤40:=ha x (by simp)
 have p1:=Fh b ([[83,85,78,73,79,78],k,x]) hb.sm (by simp only[List.length_cons,List.length_nil];omega) (by simp)
 rw[hr] at p1
 have p2:=Ff [83,85,78,73,79,78]
 rw[wv] at p2
 have p3:=Be6 b k x hb hk hx
 have re:Dq b [83,85,78,73,79,78] [k,x]=Xk b k x:=rfl
 rw[re]
 generalize Xk b k x=P at*
 simp only[Bf,List.map_cons,List.map_nil] at p1 p3
 simp(maxSteps:=1000000) [Cm,-List.getD_eq_getElem?_getD,-List.map_map,f82,p1,p2,p3,Bl]
theorem Blj (b:Ba) (r:List Bp) (hb:BaG b) (ha: ∀x∈r,x.length≤40) (hr:Cz b ([83,68,73,70,70]::r)=[]):Be (ev R) 82 [.d (Dx b), .d (Bf ([83,68,73,70,70]::r))]=some (Bl (Dq b [83,68,73,70,70] r)):=Bb fun H=>by
 refine Bh (fn:=f82) rfl rfl ?_
 have hl:=Bz hr
 have wv:Bi [83,68,73,70,70]=(3,3,3):=rfl
 rw[wv] at hl
 dsimp only at hl
 obtain⟨k,x,rfl⟩: ∃k x,r=[k,x]:=by
  match r,hl with
  | [],hl=>exact absurd hl (by simp)
  | [a0],hl=>exact absurd hl (by simp)
  | [k,x],_=>exact⟨k,x,rfl⟩
  |k::x::z::ts,hl=>exact absurd hl (by simp only[List.length_cons];omega)
 have hk:k.length≤40:=ha k (by simp)
 have hx:x.length≤40:=ha x (by simp)
 have p1:=Fh b ([[83,68,73,70,70],k,x]) hb.sm (by simp only[List.length_cons,List.length_nil];omega) (by simp)
 rw[hr] at p1
 have p2:=Ff [83,68,73,70,70]
 rw[wv] at p2
 have p3:=Bg8 b k x hb hk hx
 have re:Dq b [83,68,73,70,70] [k,x]=Bb2 b k x:=rfl
 rw[re]
 generalize Bb2 b k x=P at*
 simp only[Bf,List.map_cons,List.map_nil] at p1 p3
 simp(maxSteps:=1000000) [Cm,-List.getD_eq_getElem?_getD,-List.map_map,f82,p1,p2,p3,Bl]
theorem Bp1 (b:Ba) (r:List Bp) (hb:BaG b) (ha: ∀x∈r,x.length≤40) (hr:Cz b ([90,65,68,68]::r)=[]):Be (ev R) 82 [.d (Dx b), .d (Bf ([90,65,68,68]::r))]=some (Bl (Dq b [90,65,68,68] r)):=Bb fun H=>by
 refine Bh (fn:=f82) rfl rfl ?_
 have hl:=Bz hr
 have wv:Bi [90,65,68,68]=(4,4,4):=rfl
 rw[wv] at hl
 dsimp only at hl
 obtain⟨k,x,y,rfl⟩: ∃k x y,r=[k,x,y]:=by
  match r,hl with
  | [],hl=>exact absurd hl (by simp)
  | [a0],hl=>exact absurd hl (by simp)
  | [a0,a1],hl=>exact absurd hl (by simp)
  | [k,x,y],_=>exact⟨k,x,y,rfl⟩
  |k::x::y::z::ts,hl=>exact absurd hl (by simp only[List.length_cons];omega)
 have hk:k.length≤40:=ha k (by simp)
 have hx:x.length≤40:=ha x (by simp)
 have hy:y.length≤40:=ha y (by simp)
 have p1:=Fh b ([[90,65,68,68],k,x,y]) hb.sm (by simp only[List.length_cons,List.length_nil];omega) (by simp)
 rw[hr] at p1
 have p2:=Ff [90,65,68,68]
 rw[wv] at p2
 have p3:=Bkd b k x y hb hk hx hy
 have re:Dq b [90,65,68,68] [k,x,y]=Bdz b k x y:=rfl
 rw[re]
 generalize Bdz b k x y=P at*
 simp only[Bf,List.map_cons,List.map_nil] at p1 p3
 simp(maxSteps:=1000000) [Cm,-List.getD_eq_getElem?_getD,-List.map_map,f82,p1,p2,p3,Bl]
theorem Bfr (b:Ba) (r:List Bp) (hb:BaG b) (ha: ∀x∈r,x.length≤40) (hr:Cz b ([90,73,78,67,82,66,89]::r)=[]):Be (ev R) 82 [.d (Dx b), .d (Bf ([90,73,78,67,82,66,89]::r))]=some (Bl (Dq b [90,73,78,67,82,66,89] r)):=Bb fun H=>by
 refine Bh (fn:=f82) rfl rfl ?_
 have hl:=Bz hr
 have wv:Bi [90,73,78,67,82,66,89]=(4,4,4):=rfl
 rw[wv] at hl
 dsimp only at hl
 obtain⟨k,x,y,rfl⟩: ∃k x y,r=[k,x,y]:=by
  match r,hl with
  | [],hl=>exact absurd hl (by simp)
  | [a0],hl=>exact absurd hl (by simp)
  | [a0,a1],hl=>exact absurd hl (by simp)
  | [k,x,y],_=>exact⟨k,x,y,rfl⟩
  |k::x::y::z::ts,hl=>exact absurd hl (by simp only[List.length_cons];omega)
 have hk:k.length≤40:=ha k (by simp)
 have hx:x.length≤40:=ha x (by simp)
 have hy:y.length≤40:=ha y (by simp)
 have p1:=Fh b ([[90,73,78,67,82,66,89],k,x,y]) hb.sm (by simp only[List.length_cons,List.length_nil];omega) (by simp)
 rw[hr] at p1
 have p2:=Ff [90,73,78,67,82,66,89]
 rw[wv] at p2
 have p3:=Bco b k x y hb hk hx hy
 have re:Dq b [90,73,78,67,82,66,89] [k,x,y]=Qo b k x y:=rfl
 rw[re]
 generalize Qo b k x y=P at*
 simp only[Bf,List.map_cons,List.map_nil] at p1 p3
 simp(maxSteps:=1000000) [Cm,-List.getD_eq_getElem?_getD,-List.map_map,f82,p1,p2,p3,Bl]
theorem Biq (b:Ba) (r:List Bp) (hb:BaG b) (ha: ∀x∈r,x.length≤40) (hr:Cz b ([90,82,65,78,71,69]::r)=[]):Be (ev R) 82 [.d (Dx b), .d (Bf ([90,82,65,78,71,69]::r))]=some (Bl (Dq b [90,82,65,78,71,69] r)):=Bb fun H=>by
 refine Bh (fn:=f82) rfl rfl ?_
 have hl:=Bz hr
 have wv:Bi [90,82,65,78,71,69]=(4,4,4):=rfl
 rw[wv] at hl
 dsimp only at hl
 obtain⟨k,x,y,rfl⟩: ∃k x y,r=[k,x,y]:=by
  match r,hl with
  | [],hl=>exact absurd hl (by simp)
  | [a0],hl=>exact absurd hl (by simp)
  | [a0,a1],hl=>exact absurd hl (by simp)
  | [k,x,y],_=>exact⟨k,x,y,rfl⟩
  |k::x::y::z::ts,hl=>exact absurd hl (by simp only[List.length_cons];omega)
 have hk:k.length≤40:=ha k (by simp)
 have hx:x.length≤40:=ha x (by simp)
 have hy:y.length≤40:=ha y (by simp)
 have p1:=Fh b ([[90,82,65,78,71,69],k,x,y]) hb.sm (by simp only[List.length_cons,List.length_nil];omega) (by simp)
 rw[hr] at p1
 have p2:=Ff [90,82,65,78,71,69]
 rw[wv] at p2
 have p3:=Be7 b k x y hb hk hx hy
 have re:Dq b [90,82,65,78,71,69] [k,x,y]=Tw b k x y:=rfl
 rw[re]
 generalize Tw b k x y=P at*
 simp only[Bf,List.map_cons,List.map_nil] at p1 p3
 simp(maxSteps:=1000000) [Cm,-List.getD_eq_getElem?_getD,-List.map_map,f82,p1,p2,p3,Bl]
theorem U6 (b:Ba) (r:List Bp) (hb:BaG b) (ha: ∀x∈r,x.length≤40) (hr:Cz b ([90,82,65,78,71,69,66,89,83,67,79,82,69]::r)=[]):Be (ev R) 82 [.d (Dx b), .d (Bf ([90,82,65,78,71,69,66,89,83,67,79,82,69]::r))]=some (Bl (Dq b [90,82,65,78,71,69,66,89,83,67,79,82,69] r)):=Bb fun H=>by
 refine Bh (fn:=f82) rfl rfl ?_
 have hl:=Bz hr
 have wv:Bi [90,82,65,78,71,69,66,89,83,67,79,82,69]=(4,4,4):=rfl
 rw[wv] at hl
 dsimp only at hl
 obtain⟨k,x,y,rfl⟩: ∃k x y,r=[k,x,y]:=by
  match r,hl with
  | [],hl=>exact absurd hl (by simp)
  | [a0],hl=>exact absurd hl (by simp)
  | [a0,a1],hl=>exact absurd hl (by simp)
  | [k,x,y],_=>exact⟨k,x,y,rfl⟩
  |k::x::y::z::ts,hl=>exact absurd hl (by simp only[List.length_cons];omega)
 have hk:k.length≤40:=ha k (by simp)
 have hx:x.length≤40:=ha x (by simp)
 have hy:y.length≤40:=ha y (by simp)
 have p1:=Fh b ([[90,82,65,78,71,69,66,89,83,67,79,82,69],k,x,y]) hb.sm (by simp only[List.length_cons,List.length_nil];omega) (by simp)
 rw[hr] at p1
 have p2:=Ff [90,82,65,78,71,69,66,89,83,67,79,82,69]
 rw[wv] at p2
 have p3:=Ue b k x y hb hk hx hy
 have re:Dq b [90,82,65,78,71,69,66,89,83,67,79,82,69] [k,x,y]=J7 b k x y:=rfl
 rw[re]
 generalize J7 b k x y=P at*
 simp only[Bf,List.map_cons,List.map_nil] at p1 p3
 simp(maxSteps:=1000000) [Cm,-List.getD_eq_getElem?_getD,-List.map_map,f82,p1,p2,p3,Bl]
theorem Bp2 (b:Ba) (r:List Bp) (hb:BaG b) (ha: ∀x∈r,x.length≤40) (hr:Cz b ([90,82,69,77]::r)=[]):Be (ev R) 82 [.d (Dx b), .d (Bf ([90,82,69,77]::r))]=some (Bl (Dq b [90,82,69,77] r)):=Bb fun H=>by
 refine Bh (fn:=f82) rfl rfl ?_
 have hl:=Bz hr
 have wv:Bi [90,82,69,77]=(3,3,4):=rfl
 rw[wv] at hl
 dsimp only at hl
 obtain⟨k,x,rfl⟩: ∃k x,r=[k,x]:=by
  match r,hl with
  | [],hl=>exact absurd hl (by simp)
  | [a0],hl=>exact absurd hl (by simp)
  | [k,x],_=>exact⟨k,x,rfl⟩
  |k::x::z::ts,hl=>exact absurd hl (by simp only[List.length_cons];omega)
 have hk:k.length≤40:=ha k (by simp)
 have hx:x.length≤40:=ha x (by simp)
 have p1:=Fh b ([[90,82,69,77],k,x]) hb.sm (by simp only[List.length_cons,List.length_nil];omega) (by simp)
 rw[hr] at p1
 have p2:=Ff [90,82,69,77]
 rw[wv] at p2
 have p3:=Bke b k x hb hk hx
 have re:Dq b [90,82,69,77] [k,x]=Bd0 b k x:=rfl
 rw[re]
 generalize Bd0 b k x=P at*
 simp only[Bf,List.map_cons,List.map_nil] at p1 p3
 simp(maxSteps:=1000000) [Cm,-List.getD_eq_getElem?_getD,-List.map_map,f82,p1,p2,p3,Bl]
theorem Bir (b:Ba) (r:List Bp) (hb:BaG b) (ha: ∀x∈r,x.length≤40) (hr:Cz b ([90,83,67,79,82,69]::r)=[]):Be (ev R) 82 [.d (Dx b), .d (Bf ([90,83,67,79,82,69]::r))]=some (Bl (Dq b [90,83,67,79,82,69] r)):=Bb fun H=>by
 refine Bh (fn:=f82) rfl rfl ?_
 have hl:=Bz hr
 have wv:Bi [90,83,67,79,82,69]=(3,3,4):=rfl
 rw[wv] at hl
 dsimp only at hl
 obtain⟨k,x,rfl⟩: ∃k x,r=[k,x]:=by
  match r,hl with
  | [],hl=>exact absurd hl (by simp)
  | [a0],hl=>exact absurd hl (by simp)
  | [k,x],_=>exact⟨k,x,rfl⟩
  |k::x::z::ts,hl=>exact absurd hl (by simp only[List.length_cons];omega)
 have hk:k.length≤40:=ha k (by simp)
 have hx:x.length≤40:=ha x (by simp)
 have p1:=Fh b ([[90,83,67,79,82,69],k,x]) hb.sm (by simp only[List.length_cons,List.length_nil];omega) (by simp)
 rw[hr] at p1
 have p2:=Ff [90,83,67,79,82,69]
 rw[wv] at p2
 have p3:=Be8 b k x hb hk hx
 have re:Dq b [90,83,67,79,82,69] [k,x]=Xl b k x:=rfl
 rw[re]
 generalize Xl b k x=P at*
 simp only[Bf,List.map_cons,List.map_nil] at p1 p3
 simp(maxSteps:=1000000) [Cm,-List.getD_eq_getElem?_getD,-List.map_map,f82,p1,p2,p3,Bl]
theorem Bll (b:Ba) (r:List Bp) (hb:BaG b) (ha: ∀x∈r,x.length≤40) (hr:Cz b ([90,82,65,78,75]::r)=[]):Be (ev R) 82 [.d (Dx b), .d (Bf ([90,82,65,78,75]::r))]=some (Bl (Dq b [90,82,65,78,75] r)):=Bb fun H=>by
 refine Bh (fn:=f82) rfl rfl ?_
 have hl:=Bz hr
 have wv:Bi [90,82,65,78,75]=(3,3,4):=rfl
 rw[wv] at hl
 dsimp only at hl
 obtain⟨k,x,rfl⟩: ∃k x,r=[k,x]:=by
  match r,hl with
  | [],hl=>exact absurd hl (by simp)
  | [a0],hl=>exact absurd hl (by simp)
  | [k,x],_=>exact⟨k,x,rfl⟩
  |k::x::z::ts,hl=>exact absurd hl (by simp only[List.length_cons];omega)
 have hk:k.length≤40:=ha k (by simp)
 have hx:x.length≤40:=ha x (by simp)
 have p1:=Fh b ([[90,82,65,78,75],k,x]) hb.sm (by simp only[List.length_cons,List.length_nil];omega) (by simp)
 rw[hr] at p1
 have p2:=Ff [90,82,65,78,75]
 rw[wv] at p2
 have p3:=Bha b k x hb hk hx
 have re:Dq b [90,82,65,78,75] [k,x]=Bb5 b k x:=rfl
 rw[re]
 generalize Bb5 b k x=P at*
 simp only[Bf,List.map_cons,List.map_nil] at p1 p3
 simp(maxSteps:=1000000) [Cm,-List.getD_eq_getElem?_getD,-List.map_map,f82,p1,p2,p3,Bl]
theorem Blk (b:Ba) (r:List Bp) (hb:BaG b) (ha: ∀x∈r,x.length≤40) (hr:Cz b ([90,67,65,82,68]::r)=[]):Be (ev R) 82 [.d (Dx b), .d (Bf ([90,67,65,82,68]::r))]=some (Bl (Dq b [90,67,65,82,68] r)):=Bb fun H=>by
 refine Bh (fn:=f82) rfl rfl ?_
 have hl:=Bz hr
 have wv:Bi [90,67,65,82,68]=(2,2,4):=rfl
 rw[wv] at hl
 dsimp only at hl
 obtain⟨k,rfl⟩: ∃k,r=[k]:=by
  match r,hl with
  | [],hl=>exact absurd hl (by simp)
  | [k],_=>exact⟨k,rfl⟩
  |k::z::ts,hl=>exact absurd hl (by simp only[List.length_cons];omega)
 have hk:k.length≤40:=ha k (by simp)
 have p1:=Fh b ([[90,67,65,82,68],k]) hb.sm (by simp only[List.length_cons,List.length_nil];omega) (by simp)
 rw[hr] at p1
 have p2:=Ff [90,67,65,82,68]
 rw[wv] at p2
 have p3:=Bg9 b k hb hk
 have re:Dq b [90,67,65,82,68] [k]=Bb4 b k:=rfl
 rw[re]
 generalize Bb4 b k=P at*
 simp only[Bf,List.map_cons,List.map_nil] at p1 p3
 simp(maxSteps:=1000000) [Cm,-List.getD_eq_getElem?_getD,-List.map_map,f82,p1,p2,p3,Bl]
theorem Bpq (b:Ba) (r:List Bp) (hb:BaG b) (ha: ∀x∈r,x.length≤40) (hr:Cz b ([72,83,69,84]::r)=[]):Be (ev R) 82 [.d (Dx b), .d (Bf ([72,83,69,84]::r))]=some (Bl (Dq b [72,83,69,84] r)):=Bb fun H=>by
 refine Bh (fn:=f82) rfl rfl ?_
 have hl:=Bz hr
 have wv:Bi [72,83,69,84]=(4,4,5):=rfl
 rw[wv] at hl
 dsimp only at hl
 obtain⟨k,x,y,rfl⟩: ∃k x y,r=[k,x,y]:=by
  match r,hl with
  | [],hl=>exact absurd hl (by simp)
  | [a0],hl=>exact absurd hl (by simp)
  | [a0,a1],hl=>exact absurd hl (by simp)
  | [k,x,y],_=>exact⟨k,x,y,rfl⟩
  |k::x::y::z::ts,hl=>exact absurd hl (by simp only[List.length_cons];omega)
 have hk:k.length≤40:=ha k (by simp)
 have hx:x.length≤40:=ha x (by simp)
 have hy:y.length≤40:=ha y (by simp)
 have p1:=Fh b ([[72,83,69,84],k,x,y]) hb.sm (by simp only[List.length_cons,List.length_nil];omega) (by simp)
 rw[hr] at p1
 have p2:=Ff [72,83,69,84]
 rw[wv] at p2
 have p3:=Bki b k x y hb hk hx hy
 have re:Dq b [72,83,69,84] [k,x,y]=Bdu b k x y:=rfl
 rw[re]
 generalize Bdu b k x y=P at*
 simp only[Bf,List.map_cons,List.map_nil] at p1 p3
 simp(maxSteps:=1000000) [Cm,-List.getD_eq_getElem?_getD,-List.map_map,f82,p1,p2,p3,Bl]
theorem Bpo (b:Ba) (r:List Bp) (hb:BaG b) (ha: ∀x∈r,x.length≤40) (hr:Cz b ([72,71,69,84]::r)=[]):Be (ev R) 82 [.d (Dx b), .d (Bf ([72,71,69,84]::r))]=some (Bl (Dq b [72,71,69,84] r)):=Bb fun H=>by
 refine Bh (fn:=f82) rfl rfl ?_
 have hl:=Bz hr
 have wv:Bi [72,71,69,84]=(3,3,5):=rfl
 rw[wv] at hl
 dsimp only at hl
 obtain⟨k,x,rfl⟩: ∃k x,r=[k,x]:=by
  match r,hl with
  | [],hl=>exact absurd hl (by simp)
  | [a0],hl=>exact absurd hl (by simp)
  | [k,x],_=>exact⟨k,x,rfl⟩
  |k::x::z::ts,hl=>exact absurd hl (by simp only[List.length_cons];omega)
 have hk:k.length≤40:=ha k (by simp)
 have hx:x.length≤40:=ha x (by simp)
 have p1:=Fh b ([[72,71,69,84],k,x]) hb.sm (by simp only[List.length_cons,List.length_nil];omega) (by simp)
 rw[hr] at p1
 have p2:=Ff [72,71,69,84]
 rw[wv] at p2
 have p3:=Bkg b k x hb hk hx
 have re:Dq b [72,71,69,84] [k,x]=Bhi b k x:=rfl
 rw[re]
 generalize Bhi b k x=P at*
 simp only[Bf,List.map_cons,List.map_nil] at p1 p3
 simp(maxSteps:=1000000) [Cm,-List.getD_eq_getElem?_getD,-List.map_map,f82,p1,p2,p3,Bl]
theorem Bpn (b:Ba) (r:List Bp) (hb:BaG b) (ha: ∀x∈r,x.length≤40) (hr:Cz b ([72,68,69,76]::r)=[]):Be (ev R) 82 [.d (Dx b), .d (Bf ([72,68,69,76]::r))]=some (Bl (Dq b [72,68,69,76] r)):=Bb fun H=>by
 refine Bh (fn:=f82) rfl rfl ?_
 have hl:=Bz hr
 have wv:Bi [72,68,69,76]=(3,3,5):=rfl
 rw[wv] at hl
 dsimp only at hl
 obtain⟨k,x,rfl⟩: ∃k x,r=[k,x]:=by
  match r,hl with
  | [],hl=>exact absurd hl (by simp)
  | [a0],hl=>exact absurd hl (by simp)
  | [k,x],_=>exact⟨k,x,rfl⟩
  |k::x::z::ts,hl=>exact absurd hl (by simp only[List.length_cons];omega)
 have hk:k.length≤40:=ha k (by simp)
 have hx:x.length≤40:=ha x (by simp)
 have p1:=Fh b ([[72,68,69,76],k,x]) hb.sm (by simp only[List.length_cons,List.length_nil];omega) (by simp)
 rw[hr] at p1
 have p2:=Ff [72,68,69,76]
 rw[wv] at p2
 have p3:=Bkf b k x hb hk hx
 have re:Dq b [72,68,69,76] [k,x]=Bdt b k x:=rfl
 rw[re]
 generalize Bdt b k x=P at*
 simp only[Bf,List.map_cons,List.map_nil] at p1 p3
 simp(maxSteps:=1000000) [Cm,-List.getD_eq_getElem?_getD,-List.map_map,f82,p1,p2,p3,Bl]
theorem Bfo (b:Ba) (r:List Bp) (hb:BaG b) (ha: ∀x∈r,x.length≤40) (hr:Cz b ([72,71,69,84,65,76,76]::r)=[]):Be (ev R) 82 [.d (Dx b), .d (Bf ([72,71,69,84,65,76,76]::r))]=some (Bl (Dq b [72,71,69,84,65,76,76] r)):=Bb fun H=>by
 refine Bh (fn:=f82) rfl rfl ?_
 have hl:=Bz hr
 have wv:Bi [72,71,69,84,65,76,76]=(2,2,5):=rfl
 rw[wv] at hl
 dsimp only at hl
 obtain⟨k,rfl⟩: ∃k,r=[k]:=by
  match r,hl with
  | [],hl=>exact absurd hl (by simp)
  | [k],_=>exact⟨k,rfl⟩
  |k::z::ts,hl=>exact absurd hl (by simp only[List.length_cons];omega)
 have hk:k.length≤40:=ha k (by simp)
 have p1:=Fh b ([[72,71,69,84,65,76,76],k]) hb.sm (by simp only[List.length_cons,List.length_nil];omega) (by simp)
 rw[hr] at p1
 have p2:=Ff [72,71,69,84,65,76,76]
 rw[wv] at p2
 have p3:=Bcp b k hb hk
 have re:Dq b [72,71,69,84,65,76,76] [k]=Sm b k:=rfl
 rw[re]
 generalize Sm b k=P at*
 simp only[Bf,List.map_cons,List.map_nil] at p1 p3
 simp(maxSteps:=1000000) [Cm,-List.getD_eq_getElem?_getD,-List.map_map,f82,p1,p2,p3,Bl]
theorem Bpp (b:Ba) (r:List Bp) (hb:BaG b) (ha: ∀x∈r,x.length≤40) (hr:Cz b ([72,76,69,78]::r)=[]):Be (ev R) 82 [.d (Dx b), .d (Bf ([72,76,69,78]::r))]=some (Bl (Dq b [72,76,69,78] r)):=Bb fun H=>by
 refine Bh (fn:=f82) rfl rfl ?_
 have hl:=Bz hr
 have wv:Bi [72,76,69,78]=(2,2,5):=rfl
 rw[wv] at hl
 dsimp only at hl
 obtain⟨k,rfl⟩: ∃k,r=[k]:=by
  match r,hl with
  | [],hl=>exact absurd hl (by simp)
  | [k],_=>exact⟨k,rfl⟩
  |k::z::ts,hl=>exact absurd hl (by simp only[List.length_cons];omega)
 have hk:k.length≤40:=ha k (by simp)
 have p1:=Fh b ([[72,76,69,78],k]) hb.sm (by simp only[List.length_cons,List.length_nil];omega) (by simp)
 rw[hr] at p1
 have p2:=Ff [72,76,69,78]
 rw[wv] at p2
 have p3:=Bkh b k hb hk
 have re:Dq b [72,76,69,78] [k]=Bhj b k:=rfl
 rw[re]
 generalize Bhj b k=P at*
 simp only[Bf,List.map_cons,List.map_nil] at p1 p3
 simp(maxSteps:=1000000) [Cm,-List.getD_eq_getElem?_getD,-List.map_map,f82,p1,p2,p3,Bl]
theorem Bfp (b:Ba) (r:List Bp) (hb:BaG b) (ha: ∀x∈r,x.length≤40) (hr:Cz b ([72,73,78,67,82,66,89]::r)=[]):Be (ev R) 82 [.d (Dx b), .d (Bf ([72,73,78,67,82,66,89]::r))]=some (Bl (Dq b [72,73,78,67,82,66,89] r)):=Bb fun H=>by
 refine Bh (fn:=f82) rfl rfl ?_
 have hl:=Bz hr
 have wv:Bi [72,73,78,67,82,66,89]=(4,4,5):=rfl
 rw[wv] at hl
 dsimp only at hl
 obtain⟨k,x,y,rfl⟩: ∃k x y,r=[k,x,y]:=by
  match r,hl with
  | [],hl=>exact absurd hl (by simp)
  | [a0],hl=>exact absurd hl (by simp)
  | [a0,a1],hl=>exact absurd hl (by simp)
  | [k,x,y],_=>exact⟨k,x,y,rfl⟩
  |k::x::y::z::ts,hl=>exact absurd hl (by simp only[List.length_cons];omega)
 have hk:k.length≤40:=ha k (by simp)
 have hx:x.length≤40:=ha x (by simp)
 have hy:y.length≤40:=ha y (by simp)
 have p1:=Fh b ([[72,73,78,67,82,66,89],k,x,y]) hb.sm (by simp only[List.length_cons,List.length_nil];omega) (by simp)
 rw[hr] at p1
 have p2:=Ff [72,73,78,67,82,66,89]
 rw[wv] at p2
 have p3:=Bcq b k x y hb hk hx hy
 have re:Dq b [72,73,78,67,82,66,89] [k,x,y]=Ql b k x y:=rfl
 rw[re]
 generalize Ql b k x y=P at*
 simp only[Bf,List.map_cons,List.map_nil] at p1 p3
 simp(maxSteps:=1000000) [Cm,-List.getD_eq_getElem?_getD,-List.map_map,f82,p1,p2,p3,Bl]
theorem Buk (b:Ba) (r:List Bp) (hb:BaG b) (ha: ∀x∈r,x.length≤40) (hr:Cz b ([68,69,76]::r)=[]):Be (ev R) 82 [.d (Dx b), .d (Bf ([68,69,76]::r))]=some (Bl (Dq b [68,69,76] r)):=Bb fun H=>by
 refine Bh (fn:=f82) rfl rfl ?_
 have hl:=Bz hr
 have wv:Bi [68,69,76]=(2,8,0):=rfl
 rw[wv] at hl
 dsimp only at hl
 have p1:=Fh b ([68,69,76]::r) hb.sm (by simp only[List.length_cons,List.length_nil];omega) (by simp)
 rw[hr] at p1
 have p2:=Ff [68,69,76]
 rw[wv] at p2
 have p3:=Bog b r hb (by omega)
 have re:Dq b [68,69,76] r=Boq b r:=rfl
 rw[re]
 generalize Boq b r=P at*
 simp only[Bf,List.map_cons,List.map_nil] at p1 p3
 simp(maxSteps:=1000000) [Cm,-List.getD_eq_getElem?_getD,-List.map_map,f82,p1,p2,p3,Bl]
theorem Bih (b:Ba) (r:List Bp) (hb:BaG b) (ha: ∀x∈r,x.length≤40) (hr:Cz b ([69,88,73,83,84,83]::r)=[]):Be (ev R) 82 [.d (Dx b), .d (Bf ([69,88,73,83,84,83]::r))]=some (Bl (Dq b [69,88,73,83,84,83] r)):=Bb fun H=>by
 refine Bh (fn:=f82) rfl rfl ?_
 have hl:=Bz hr
 have wv:Bi [69,88,73,83,84,83]=(2,8,0):=rfl
 rw[wv] at hl
 dsimp only at hl
 have p1:=Fh b ([69,88,73,83,84,83]::r) hb.sm (by simp only[List.length_cons,List.length_nil];omega) (by simp)
 rw[hr] at p1
 have p2:=Ff [69,88,73,83,84,83]
 rw[wv] at p2
 have p3:=Bfa b r hb (by omega)
 have re:Dq b [69,88,73,83,84,83] r=Tq b r:=rfl
 rw[re]
 generalize Tq b r=P at*
 simp only[Bf,List.map_cons,List.map_nil] at p1 p3
 simp(maxSteps:=1000000) [Cm,-List.getD_eq_getElem?_getD,-List.map_map,f82,p1,p2,p3,Bl]
theorem Bp0 (b:Ba) (r:List Bp) (hb:BaG b) (ha: ∀x∈r,x.length≤40) (hr:Cz b ([84,89,80,69]::r)=[]):Be (ev R) 82 [.d (Dx b), .d (Bf ([84,89,80,69]::r))]=some (Bl (Dq b [84,89,80,69] r)):=Bb fun H=>by
 refine Bh (fn:=f82) rfl rfl ?_
 have hl:=Bz hr
 have wv:Bi [84,89,80,69]=(2,2,0):=rfl
 rw[wv] at hl
 dsimp only at hl
 obtain⟨k,rfl⟩: ∃k,r=[k]:=by
  match r,hl with
  | [],hl=>exact absurd hl (by simp)
  | [k],_=>exact⟨k,rfl⟩
  |k::z::ts,hl=>exact absurd hl (by simp only[List.length_cons];omega)
 have hk:k.length≤40:=ha k (by simp)
 have p1:=Fh b ([[84,89,80,69],k]) hb.sm (by simp only[List.length_cons,List.length_nil];omega) (by simp)
 rw[hr] at p1
 have p2:=Ff [84,89,80,69]
 rw[wv] at p2
 have p3:=Bkk b k hb hk
 have re:Dq b [84,89,80,69] [k]=Bhn b k:=rfl
 rw[re]
 generalize Bhn b k=P at*
 simp only[Bf,List.map_cons,List.map_nil] at p1 p3
 simp(maxSteps:=1000000) [Cm,-List.getD_eq_getElem?_getD,-List.map_map,f82,p1,p2,p3,Bl]
theorem Bun (b:Ba) (r:List Bp) (hb:BaG b) (ha: ∀x∈r,x.length≤40) (hr:Cz b ([84,84,76]::r)=[]):Be (ev R) 82 [.d (Dx b), .d (Bf ([84,84,76]::r))]=some (Bl (Dq b [84,84,76] r)):=Bb fun H=>by
 refine Bh (fn:=f82) rfl rfl ?_
 have hl:=Bz hr
 have wv:Bi [84,84,76]=(2,2,0):=rfl
 rw[wv] at hl
 dsimp only at hl
 obtain⟨k,rfl⟩: ∃k,r=[k]:=by
  match r,hl with
  | [],hl=>exact absurd hl (by simp)
  | [k],_=>exact⟨k,rfl⟩
  |k::z::ts,hl=>exact absurd hl (by simp only[List.length_cons];omega)
 have hk:k.length≤40:=ha k (by simp)
 have p1:=Fh b ([[84,84,76],k]) hb.sm (by simp only[List.length_cons,List.length_nil];omega) (by simp)
 rw[hr] at p1
 have p2:=Ff [84,84,76]
 rw[wv] at p2
 have p3:=Boh b k hb hk
 have re:Dq b [84,84,76] [k]=Br4 b k:=rfl
 rw[re]
 generalize Br4 b k=P at*
 simp only[Bf,List.map_cons,List.map_nil] at p1 p3
 simp(maxSteps:=1000000) [Cm,-List.getD_eq_getElem?_getD,-List.map_map,f82,p1,p2,p3,Bl]
theorem Bfq (b:Ba) (r:List Bp) (hb:BaG b) (ha: ∀x∈r,x.length≤40) (hr:Cz b ([80,69,82,83,73,83,84]::r)=[]):Be (ev R) 82 [.d (Dx b), .d (Bf ([80,69,82,83,73,83,84]::r))]=some (Bl (Dq b [80,69,82,83,73,83,84] r)):=Bb fun H=>by
 refine Bh (fn:=f82) rfl rfl ?_
 have hl:=Bz hr
 have wv:Bi [80,69,82,83,73,83,84]=(2,2,0):=rfl
 rw[wv] at hl
 dsimp only at hl
 obtain⟨k,rfl⟩: ∃k,r=[k]:=by
  match r,hl with
  | [],hl=>exact absurd hl (by simp)
  | [k],_=>exact⟨k,rfl⟩
  |k::z::ts,hl=>exact absurd hl (by simp only[List.length_cons];omega)
 have hk:k.length≤40:=ha k (by simp)
 have p1:=Fh b ([[80,69,82,83,73,83,84],k]) hb.sm (by simp only[List.length_cons,List.length_nil];omega) (by simp)
 rw[hr] at p1
 have p2:=Ff [80,69,82,83,73,83,84]
 rw[wv] at p2
 have p3:=Bcr b k hb hk
 have re:Dq b [80,69,82,83,73,83,84] [k]=Qm b k:=rfl
 rw[re]
 generalize Qm b k=P at*
 simp only[Bf,List.map_cons,List.map_nil] at p1 p3
 simp(maxSteps:=1000000) [Cm,-List.getD_eq_getElem?_getD,-List.map_map,f82,p1,p2,p3,Bl]
theorem Bii (b:Ba) (r:List Bp) (hb:BaG b) (ha: ∀x∈r,x.length≤40) (hr:Cz b ([69,88,80,73,82,69]::r)=[]):Be (ev R) 82 [.d (Dx b), .d (Bf ([69,88,80,73,82,69]::r))]=some (Bl (Dq b [69,88,80,73,82,69] r)):=Bb fun H=>by
 refine Bh (fn:=f82) rfl rfl ?_
 have hl:=Bz hr
 have wv:Bi [69,88,80,73,82,69]=(3,3,0):=rfl
 rw[wv] at hl
 dsimp only at hl
 obtain⟨k,x,rfl⟩: ∃k x,r=[k,x]:=by
  match r,hl with
  | [],hl=>exact absurd hl (by simp)
  | [a0],hl=>exact absurd hl (by simp)
  | [k,x],_=>exact⟨k,x,rfl⟩
  |k::x::z::ts,hl=>exact absurd hl (by simp only[List.length_cons];omega)
 have hk:k.length≤40:=ha k (by simp)
 have hx:x.length≤40:=ha x (by simp)
 have p1:=Fh b ([[69,88,80,73,82,69],k,x]) hb.sm (by simp only[List.length_cons,List.length_nil];omega) (by simp)
 rw[hr] at p1
 have p2:=Ff [69,88,80,73,82,69]
 rw[wv] at p2
 have p3:=Bfb b k x hb hk hx
 have re:Dq b [69,88,80,73,82,69] [k,x]=Tt b k x:=rfl
 rw[re]
 generalize Tt b k x=P at*
 simp only[Bf,List.map_cons,List.map_nil] at p1 p3
 simp(maxSteps:=1000000) [Cm,-List.getD_eq_getElem?_getD,-List.map_map,f82,p1,p2,p3,Bl]
theorem Bcw (b:Ba) (r:List Bp) (hb:BaG b) (ha: ∀x∈r,x.length≤40) (hr:Cz b ([69,88,80,73,82,69,65,84]::r)=[]):Be (ev R) 82 [.d (Dx b), .d (Bf ([69,88,80,73,82,69,65,84]::r))]=some (Bl (Dq b [69,88,80,73,82,69,65,84] r)):=Bb fun H=>by
 refine Bh (fn:=f82) rfl rfl ?_
 have hl:=Bz hr
 have wv:Bi [69,88,80,73,82,69,65,84]=(3,3,0):=rfl
 rw[wv] at hl
 dsimp only at hl
 obtain⟨k,x,rfl⟩: ∃k x,r=[k,x]:=by
  match r,hl with
  | [],hl=>exact absurd hl (by simp)
  | [a0],hl=>exact absurd hl (by simp)
  | [k,x],_=>exact⟨k,x,rfl⟩
  |k::x::z::ts,hl=>exact absurd hl (by simp only[List.length_cons];omega)
 have hk:k.length≤40:=ha k (by simp)
 have hx:x.length≤40:=ha x (by simp)
 have p1:=Fh b ([[69,88,80,73,82,69,65,84],k,x]) hb.sm (by simp only[List.length_cons,List.length_nil];omega) (by simp)
 rw[hr] at p1
 have p2:=Ff [69,88,80,73,82,69,65,84]
 rw[wv] at p2
 have p3:=Bbv b k x hb hk hx
 have re:Dq b [69,88,80,73,82,69,65,84] [k,x]=Nj b k x:=rfl
 rw[re]
 generalize Nj b k x=P at*
 simp only[Bf,List.map_cons,List.map_nil] at p1 p3
 simp(maxSteps:=1000000) [Cm,-List.getD_eq_getElem?_getD,-List.map_map,f82,p1,p2,p3,Bl]
theorem Bil (b:Ba) (r:List Bp) (hb:BaG b) (ha: ∀x∈r,x.length≤40) (hr:Cz b ([82,69,78,65,77,69]::r)=[]):Be (ev R) 82 [.d (Dx b), .d (Bf ([82,69,78,65,77,69]::r))]=some (Bl (Dq b [82,69,78,65,77,69] r)):=Bb fun H=>by
 refine Bh (fn:=f82) rfl rfl ?_
 have hl:=Bz hr
 have wv:Bi [82,69,78,65,77,69]=(3,3,0):=rfl
 rw[wv] at hl
 dsimp only at hl
 obtain⟨k,x,rfl⟩: ∃k x,r=[k,x]:=by
  match r,hl with
  | [],hl=>exact absurd hl (by simp)
  | [a0],hl=>exact absurd hl (by simp)
  | [k,x],_=>exact⟨k,x,rfl⟩
  |k::x::z::ts,hl=>exact absurd hl (by simp only[List.length_cons];omega)
 have hk:k.length≤40:=ha k (by simp)
 have hx:x.length≤40:=ha x (by simp)
 have p1:=Fh b ([[82,69,78,65,77,69],k,x]) hb.sm (by simp only[List.length_cons,List.length_nil];omega) (by simp)
 rw[hr] at p1
 have p2:=Ff [82,69,78,65,77,69]
 rw[wv] at p2
 have p3:=Bfc b k x hb hk hx
 have re:Dq b [82,69,78,65,77,69] [k,x]=Tv b k x:=rfl
 rw[re]
 generalize Tv b k x=P at*
 simp only[Bf,List.map_cons,List.map_nil] at p1 p3
 simp(maxSteps:=1000000) [Cm,-List.getD_eq_getElem?_getD,-List.map_map,f82,p1,p2,p3,Bl]
theorem Bps (b:Ba) (r:List Bp) (hb:BaG b) (ha: ∀x∈r,x.length≤40) (hr:Cz b ([75,69,89,83]::r)=[]):Be (ev R) 82 [.d (Dx b), .d (Bf ([75,69,89,83]::r))]=some (Bl (Dq b [75,69,89,83] r)):=Bb fun H=>by
 refine Bh (fn:=f82) rfl rfl ?_
 have hl:=Bz hr
 have wv:Bi [75,69,89,83]=(2,2,0):=rfl
 rw[wv] at hl
 dsimp only at hl
 obtain⟨k,rfl⟩: ∃k,r=[k]:=by
  match r,hl with
  | [],hl=>exact absurd hl (by simp)
  | [k],_=>exact⟨k,rfl⟩
  |k::z::ts,hl=>exact absurd hl (by simp only[List.length_cons];omega)
 have hk:k.length≤40:=ha k (by simp)
 have p1:=Fh b ([[75,69,89,83],k]) hb.sm (by simp only[List.length_cons,List.length_nil];omega) (by simp)
 rw[hr] at p1
 have p2:=Ff [75,69,89,83]
 rw[wv] at p2
 have p3:=Bkj b k hb hk
 have re:Dq b [75,69,89,83] [k]=Bhk b k:=rfl
 rw[re]
 generalize Bhk b k=P at*
 simp only[Bf,List.map_cons,List.map_nil] at p1 p3
 simp(maxSteps:=1000000) [Cm,-List.getD_eq_getElem?_getD,-List.map_map,f82,p1,p2,p3,Bl]
theorem Bif (b:Ba) (r:List Bp) (hb:BaG b) (ha: ∀x∈r,x.length≤40) (hr:Cz b ([68,66,83,73,90,69]::r)=[]):Be (ev R) 82 [.d (Dx b), .d (Bf ([68,66,83,73,90,69]::r))]=some (Bl (Dq b [68,66,83,73,90,69] r)):=Bb fun H=>by
 refine Bh (fn:=f82) rfl rfl ?_
 have hl:=Bz hr
 have wv:Bi [68,66,83,73,90,69]=(1,1,0):=rfl
 rw[wv] at hl
 dsimp only at hl
 obtain rfl:r=[]:=by
  match r,hl with
  | [],_=>rfl
  |k::ts,hl=>simp only[List.length_cons] at hl;omega
 have p1:=Fh b ([[68,66,83,73,90,69]]) hb.sm (by simp only[List.length_cons,List.length_nil];omega) (by simp)
 rw[hr] at p1
 have p2:=Ff [68,66,83,73,90,69]
 rw[wv] at p2
 have p3:=Be9 b hb
 have re:Dq b [68,66,83,73,90,69] []=Xe b:=rfl
 rw[re]
 generalize Xe b=P at*
 simp only[Bf,List.map_cons,List.map_nil] at p1 p3
 simp(maxSteps:=1000000) [Cm,-List.getD_eq_getElem?_getD,-List.map_map,f82,p1,p2,p3,Bl]
theorem Ble (b:Ba) (r:List Bp) (hb:BaG b) (ha: ∀x∈r,x.length≤40) (hr:Cz b ([70,76,85,83,72]::r)=[]):Be (ev R) 82 [.d (Dx b), .d (Bf ([70,76,85,83,72]::r))]=some (Bl (Dq b [70,76,85,83,72] r)):=Bb fun H=>by
 refine Bh (fn:=f82) rfl rfl ?_
 have hl:=Bz hr
 have wv:Bi [70,76,85,83,72]=(1,1,0):=rfl
 rw[wv] at hl
 dsimp only at hl
 obtain rfl:r=[]:=by
  match r,hl with
  | [],_=>rfl
  |k::ts,hl=>simp only[List.length_cons] at hl;omega
 have p1:=Fh b ([[70,76,85,83,72]]) hb.sm (by simp only[List.length_cons,List.length_nil];omega) (by simp)
 rw[hr] at p1
 have p2:=Ff [70,76,85,83,72]
 rw[wv] at p2
 have p3:=Bhb b hb
 have re:Dq b [70,76,85,83,72] []=Yf b:=rfl
 rw[re]
 generalize Yf b=P at*
 simp only[Bf,List.map_cons,List.map_nil] at p1 p3
 simp(maxSteps:=1000000) [Cm,-List.getD_eq_getElem?_getD,-List.map_map,f82,p1,p2,p3,Bl]
theorem B79 (b:Ba) (args:List Bp) (hb:BaG b) (ha:Nz args=true):Be (ev R) 82 [.d (Dx b), .d (Bf args)]=some (Bl (rDo b args)):=by
 have hl:=Bbn ha
 have hx:=Bgy ha
 obtain⟨w,r,rfl⟩: ∃w r,args=w::r:=by
  cases args with
  |nil=>simp at hl
  |cons w r=>exact⟨w,r,rfl⟩
 by_cases hr:Cz b (w::r)=[]
 ·have hd:rDo b (w::r)=Dq b w r:=by unfold rDo;rw[if_pos hr];rfl
  rw[hd]
  have hx': ∀x∈r,x.length≤40:=fun x h=>hx x (by simp[h])
  by_cases h0:w=[71,69,84]
  ·subst h0;exact Bul b r hb hx' hr
  by_cases h1:w=[83,84,82,76,69,78]
  ·subst h1;exact Bio b r hb hx' hr
  by_cases h2:w=[73,78,67,82]
  ·subst h2;exact Bpr b r hb hx' hr
  by_cases h3:w=[83,69,84]
  ·subst h3;exact Bum b r hb hx' hr
  by_cases h4:w=[65,80,80,69,78,68]
  ·subst h4;exact Bie b r hb hx' hr
  by_cases h5:w=[73,78,67,82,66,89]
  ·subst h5;exact Bij b r hb hx' hr
  by_cases h6:w=[71,69,84,82,65,78,71,69]
  ·subst h6;exact Bcx b r hb hx' hr
  by_cases h7:w=[76,80,85,83,72]
  ·subst h7;exact Blf b r hb hx' hr
  by_cases h8:w=[82,80,85,83,72]
  ·subst h8;exact Blh b r hb hx' hr
  by_cases h9:w=[76,80,79,80]
  ·subst h9;exact Bpu b r hb hx' hr
  by_cases h10:w=[82,80,79,80]
  ·subst h10;exact Bpx b r hb hx' hr
  by_cases h11:w=[76,76,69,78]
  ·subst h11;exact Bpt b r hb hx' hr
  by_cases h12:w=[76,82,65,78,71,69]
  ·subst h12;exact Bik b r hb hx' hr
  by_cases h13:w=[76,84,82,73,77]
  ·subst h13;exact Blg b r hb hx' hr
  by_cases h14:w=[76,83,69,84]
  ·subst h14;exact Bpw b r hb hx' hr
  by_cases h15:w=[76,82,69,77]
  ·subst h15;exact Bpv b r hb hx' hr
  by_cases h16:w=[83,65,68,68]
  ·subst h16;exact Bpy b r hb hx' hr
  by_cases h17:w=[83,82,69,77]
  ·subst h17;exact Bpz b r hb hx' hr
  by_cases h18:w=[83,77,69,77,66,69,82,83]
  ·subst h18;exact Bcy b r hb hx' hr
  by_cases h19:w=[83,67,65,82,68]
  ·subst h19;exact Bli b r hb hx' hr
  by_cases h20:w=[83,73,83,77,69,77,66,69,82]
  ·subst h20;exact Bck b r hb hx' hr
  by_cases h21:w=[83,73,78,84,69,82]
  ·subst h21;exact Bim b r hb hx' hr
  by_cases h22:w=[83,85,78,73,79,78]
  ·subst h22;exact Bip b r hb hx' hr
  by_cases h23:w=[83,68,73,70,70]
  ·subst h23;exact Blj b r hb hx' hr
  by_cases h24:w=[90,65,68,68]
  ·subst h24;exact Bp1 b r hb hx' hr
  by_cases h25:w=[90,73,78,67,82,66,89]
  ·subst h25;exact Bfr b r hb hx' hr
  by_cases h26:w=[90,82,65,78,71,69]
  ·subst h26;exact Biq b r hb hx' hr
  by_cases h27:w=[90,82,65,78,71,69,66,89,83,67,79,82,69]
  ·subst h27;exact U6 b r hb hx' hr
  by_cases h28:w=[90,82,69,77]
  ·subst h28;exact Bp2 b r hb hx' hr
  by_cases h29:w=[90,83,67,79,82,69]
  ·subst h29;exact Bir b r hb hx' hr
  by_cases h30:w=[90,82,65,78,75]
  ·subst h30;exact Bll b r hb hx' hr
  by_cases h31:w=[90,67,65,82,68]
  ·subst h31;exact Blk b r hb hx' hr
  by_cases h32:w=[72,83,69,84]
  ·subst h32;exact Bpq b r hb hx' hr
  by_cases h33:w=[72,71,69,84]
  ·subst h33;exact Bpo b r hb hx' hr
  by_cases h34:w=[72,68,69,76]
  ·subst h34;exact Bpn b r hb hx' hr
  by_cases h35:w=[72,71,69,84,65,76,76]
  ·subst h35;exact Bfo b r hb hx' hr
  by_cases h36:w=[72,76,69,78]
  ·subst h36;exact Bpp b r hb hx' hr
  by_cases h37:w=[72,73,78,67,82,66,89]
  ·subst h37;exact Bfp b r hb hx' hr
  by_cases h38:w=[68,69,76]
  ·subst h38;exact Buk b r hb hx' hr
  by_cases h39:w=[69,88,73,83,84,83]
  ·subst h39;exact Bih b r hb hx' hr
  by_cases h40:w=[84,89,80,69]
  ·subst h40;exact Bp0 b r hb hx' hr
  by_cases h41:w=[84,84,76]
  ·subst h41;exact Bun b r hb hx' hr
  by_cases h42:w=[80,69,82,83,73,83,84]
  ·subst h42;exact Bfq b r hb hx' hr
  by_cases h43:w=[69,88,80,73,82,69]
  ·subst h43;exact Bii b r hb hx' hr
  by_cases h44:w=[69,88,80,73,82,69,65,84]
  ·subst h44;exact Bcw b r hb hx' hr
  by_cases h45:w=[82,69,78,65,77,69]
  ·subst h45;exact Bil b r hb hx' hr
  by_cases h46:w=[75,69,89,83]
  ·subst h46;exact Bps b r hb hx' hr
  by_cases h47:w=[68,66,83,73,90,69]
  ·subst h47;exact Bif b r hb hx' hr
  by_cases h48:w=[70,76,85,83,72]
  ·subst h48;exact Ble b r hb hx' hr
  exfalso
  have hw:=Bis w (eq_false h0) (eq_false h1) (eq_false h2) (eq_false h3) (eq_false h4) (eq_false h5) (eq_false h6) (eq_false h7) (eq_false h8) (eq_false h9) (eq_false h10) (eq_false h11) (eq_false h12) (eq_false h13) (eq_false h14) (eq_false h15) (eq_false h16) (eq_false h17) (eq_false h18) (eq_false h19) (eq_false h20) (eq_false h21) (eq_false h22) (eq_false h23) (eq_false h24) (eq_false h25) (eq_false h26) (eq_false h27) (eq_false h28) (eq_false h29) (eq_false h30) (eq_false h31) (eq_false h32) (eq_false h33) (eq_false h34) (eq_false h35) (eq_false h36) (eq_false h37) (eq_false h38) (eq_false h39) (eq_false h40) (eq_false h41) (eq_false h42) (eq_false h43) (eq_false h44) (eq_false h45) (eq_false h46) (eq_false h47) (eq_false h48)
  unfold Cz at hr
  rw[show(w::r).getD 0 []=w from rfl,hw] at hr
  simp at hr
 ·have hd:rDo b (w::r)=(b,Du (Cz b (w::r))):=by unfold rDo;rw[if_neg hr]
  rw[hd]
  refine Bb fun H=> ?_
  refine Bh (fn:=f82) rfl rfl ?_
  have p1:=Fh b (w::r) hb.sm (by omega) (by simp)
  have p2:=Bu (Cz b (w::r))
  generalize Cz b (w::r)=t at*
  simp only[Bf,List.map_cons,List.map_nil] at p1
  simp(maxSteps:=1000000) [Cm,-List.getD_eq_getElem?_getD,-List.map_map,f82,p1,p2,eq_false hr,Bl,Du]
end Go.Proofs.YtjdmiodinhlchaaGreat.Code

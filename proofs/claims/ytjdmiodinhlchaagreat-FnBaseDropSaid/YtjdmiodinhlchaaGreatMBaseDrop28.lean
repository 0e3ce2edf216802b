/- Lemmas (several texts in one). -/
import Derived.Test.YtjdmiodinhlchaaGreatMBaseDrop7
import Derived.Test.YtjdmiodinhlchaaGreatMBaseDrop27
set_option maxRecDepth 100000
set_option maxHeartbeats 2000000
set_option linter.unusedSimpArgs false
set_option linter.unusedVariables false
namespace Go.Proofs.YtjdmiodinhlchaaGreat.Code
open Go Go.Ev Go.Proofs
def Cp (b:Ba) (w:Bm) (r:List Bm):Ba×Re:=
 if w=[71,69,84] then Bmh b (r.getD 0 []) else
 if w=[83,84,82,76,69,78] then Rm b (r.getD 0 []) else
 if w=[73,78,67,82] then Wt b (r.getD 0 []) [49] else
 if w=[83,69,84] then Bjf b (r.getD 0 []) (r.getD 1 []) else
 if w=[65,80,80,69,78,68] then Pm b (r.getD 0 []) (r.getD 1 []) else
 if w=[73,78,67,82,66,89] then Wt b (r.getD 0 []) (r.getD 1 []) else
 if w=[71,69,84,82,65,78,71,69] then K5 b (r.getD 0 []) (r.getD 1 []) (r.getD 2 []) else
 if w=[76,80,85,83,72] then N2 b (r.getD 0 []) true (r.drop 1) else
 if w=[82,80,85,83,72] then N2 b (r.getD 0 []) false (r.drop 1) else
 if w=[76,80,79,80] then Wx b (r.getD 0 []) true else
 if w=[82,80,79,80] then Wx b (r.getD 0 []) false else
 if w=[76,76,69,78] then P6 b (r.getD 0 []) else
 if w=[76,82,65,78,71,69] then Pp b (r.getD 0 []) (r.getD 1 []) (r.getD 2 []) else
 if w=[76,84,82,73,77] then Sk b (r.getD 0 []) (r.getD 1 []) (r.getD 2 []) else
 if w=[76,83,69,84] then Yv b (r.getD 0 []) (r.getD 1 []) (r.getD 2 []) else
 if w=[76,82,69,77] then Yu b (r.getD 0 []) (r.getD 1 []) (r.getD 2 []) else
 if w=[83,65,68,68] then Yw b (r.getD 0 []) (r.drop 1) else
 if w=[83,82,69,77] then Yx b (r.getD 0 []) (r.drop 1) else
 if w=[83,77,69,77,66,69,82,83] then Mk b (r.getD 0 []) else
 if w=[83,67,65,82,68] then P6 b (r.getD 0 []) else
 if w=[83,73,83,77,69,77,66,69,82] then Li b (r.getD 0 []) (r.getD 1 []) else
 if w=[83,73,78,84,69,82] then Rl b (r.getD 0 []) (r.getD 1 []) else
 if w=[83,85,78,73,79,78] then Rn b (r.getD 0 []) (r.getD 1 []) else
 if w=[83,68,73,70,70] then Wy b (r.getD 0 []) (r.getD 1 []) else
 if w=[90,65,68,68] then Yy b (r.getD 0 []) (r.getD 1 []) (r.getD 2 []) else
 if w=[90,73,78,67,82,66,89] then Ml b (r.getD 0 []) (r.getD 1 []) (r.getD 2 []) else
 if w=[90,82,65,78,71,69] then Ps b (r.getD 0 []) (r.getD 1 []) (r.getD 2 []) else
 if w=[90,82,65,78,71,69,66,89,83,67,79,82,69] then Gi b (r.getD 0 []) (r.getD 1 []) (r.getD 2 []) else
 if w=[90,82,69,77] then Yz b (r.getD 0 []) (r.getD 1 []) else
 if w=[90,83,67,79,82,69] then Ro b (r.getD 0 []) (r.getD 1 []) else
 if w=[90,82,65,78,75] then W1 b (r.getD 0 []) (r.getD 1 []) else
 if w=[90,67,65,82,68] then W0 b (r.getD 0 []) else
 if w=[72,83,69,84] then Yt b (r.getD 0 []) (r.getD 1 []) (r.getD 2 []) else
 if w=[72,71,69,84] then Bce b (r.getD 0 []) (r.getD 1 []) else
 if w=[72,68,69,76] then Ys b (r.getD 0 []) (r.getD 1 []) else
 if w=[72,71,69,84,65,76,76] then N1 b (r.getD 0 []) else
 if w=[72,76,69,78] then Bcf b (r.getD 0 []) else
 if w=[72,73,78,67,82,66,89] then Mi b (r.getD 0 []) (r.getD 1 []) (r.getD 2 []) else
 if w=[68,69,76] then Bjb b r else
 if w=[69,88,73,83,84,83] then Pn b r else
 if w=[84,89,80,69] then Bcj b (r.getD 0 []) else
 if w=[84,84,76] then Bmk b (r.getD 0 []) else
 if w=[80,69,82,83,73,83,84] then Mj b (r.getD 0 []) else
 if w=[69,88,80,73,82,69] then Po b (r.getD 0 []) (r.getD 1 []) else
 if w=[69,88,80,73,82,69,65,84] then K4 b (r.getD 0 []) (r.getD 1 []) else
 if w=[82,69,78,65,77,69] then Pq b (r.getD 0 []) (r.getD 1 []) else
 if w=[75,69,89,83] then Bcg b (r.getD 0 []) else
 if w=[68,66,83,73,90,69] then Ri b else
 if w=[70,76,85,83,72] then Si b else
 (b,Cu [117,110,107,110,111,119,110])
def rDo (b:Ba) (args:List Bm):Ba×Re:=if Cc b args=[] then Cp b (args.getD 0 []) args.tail else(b,Cu (Cc b args))
theorem Bs {b:Ba} {w:Bm} {r:List Bm} (h:Cc b (w::r)=[]): (Bh w).1≤(r.length:Int)+1∧(r.length:Int)+1≤(Bh w).2.1:=by
 unfold Cc at h
 have e0: (w::r).getD 0 []=w:=rfl
 have e2: ((w::r).length:Int)=(r.length:Int)+1:=by rw[List.length_cons];omega
 rw[e0,e2] at h
 split at h
 ·simp at h
 ·split at h
  ·simp at h
  ·rename_i h2;exact Decidable.not_not.1 h2
theorem Boy (b:Ba) (r:List Bm) (hb:BaG b) (ha: ∀x∈r,x.length≤40) (hr:Cc b ([71,69,84]::r)=[]):Be (ev R) 82 [.d (Cv b), .d (Bf ([71,69,84]::r))]=some (Bk (Cp b [71,69,84] r)):=Bb fun H=>by
 refine Bi (fn:=f82) rfl rfl ?_
 have hl:=Bs hr
 have wv:Bh [71,69,84]=(2,2,1):=rfl
 rw[wv] at hl
 dsimp only at hl
 obtain⟨k,rfl⟩: ∃k,r=[k]:=by
  match r,hl with
  | [],hl=>exact absurd hl (by simp)
  | [k],_=>exact⟨k,rfl⟩
  |k::z::ts,hl=>exact absurd hl (by simp only[List.length_cons];omega)
 have hk:k.length≤40:=ha k (by simp)
 have p1:=Dc b ([[71,69,84],k]) hb.sm (by simp only[List.length_cons,List.length_nil];omega) (by simp)
 rw[hr] at p1
 have p2:=C9 [71,69,84]
 rw[wv] at p2
 have p3:=Bi0 b k hb hk
 have re:Cp b [71,69,84] [k]=Bmh b k:=rfl
 rw[re]
 generalize Bmh b k=P at*
 simp only[Bf,List.map_cons,List.map_nil] at p1 p3
 simp(maxSteps:=1000000) [Ca,-List.getD_eq_getElem?_getD,-List.map_map,f82,p1,p2,p3,Bk]
theorem Bdh (b:Ba) (r:List Bm) (hb:BaG b) (ha: ∀x∈r,x.length≤40) (hr:Cc b ([83,84,82,76,69,78]::r)=[]):Be (ev R) 82 [.d (Cv b), .d (Bf ([83,84,82,76,69,78]::r))]=some (Bk (Cp b [83,84,82,76,69,78] r)):=Bb fun H=>by
 refine Bi (fn:=f82) rfl rfl ?_
 have hl:=Bs hr
 have wv:Bh [83,84,82,76,69,78]=(2,2,1):=rfl
 rw[wv] at hl
 dsimp only at hl
 obtain⟨k,rfl⟩: ∃k,r=[k]:=by
  match r,hl with
  | [],hl=>exact absurd hl (by simp)
  | [k],_=>exact⟨k,rfl⟩
  |k::z::ts,hl=>exact absurd hl (by simp only[List.length_cons];omega)
 have hk:k.length≤40:=ha k (by simp)
 have p1:=Dc b ([[83,84,82,76,69,78],k]) hb.sm (by simp only[List.length_cons,List.length_nil];omega) (by simp)
 rw[hr] at p1
 have p2:=C9 [83,84,82,76,69,78]
 rw[wv] at p2
 have p3:=Z1 b k hb hk
 have re:Cp b [83,84,82,76,69,78] [k]=Rm b k:=rfl
 rw[re]
 generalize Rm b k=P at*
 simp only[Bf,List.map_cons,List.map_nil] at p1 p3
 simp(maxSteps:=1000000) [Ca,-List.getD_eq_getElem?_getD,-List.map_map,f82,p1,p2,p3,Bk]
theorem Bkb (b:Ba) (r:List Bm) (hb:BaG b) (ha: ∀x∈r,x.length≤40) (hr:Cc b ([73,78,67,82]::r)=[]):Be (ev R) 82 [.d (Cv b), .d (Bf ([73,78,67,82]::r))]=some (Bk (Cp b [73,78,67,82] r)):=Bb fun H=>by
 refine Bi (fn:=f82) rfl rfl ?_
 have hl:=Bs hr
 have wv:Bh [73,78,67,82]=(2,2,1):=rfl
 rw[wv] at hl
 dsimp only at hl
 obtain⟨k,rfl⟩: ∃k,r=[k]:=by
  match r,hl with
  | [],hl=>exact absurd hl (by simp)
  | [k],_=>exact⟨k,rfl⟩
  |k::z::ts,hl=>exact absurd hl (by simp only[List.length_cons];omega)
 have hk:k.length≤40:=ha k (by simp)
 have p1:=Dc b ([[73,78,67,82],k]) hb.sm (by simp only[List.length_cons,List.length_nil];omega) (by simp)
 rw[hr] at p1
 have p2:=C9 [73,78,67,82]
 rw[wv] at p2
 have p3:=Bew b k hb hk
 have re:Cp b [73,78,67,82] [k]=Wt b k [49]:=rfl
 rw[re]
 generalize Wt b k [49]=P at*
 simp only[Bf,List.map_cons,List.map_nil] at p1 p3
 simp(maxSteps:=1000000) [Ca,-List.getD_eq_getElem?_getD,-List.map_map,f82,p1,p2,p3,Bk]
theorem Boz (b:Ba) (r:List Bm) (hb:BaG b) (ha: ∀x∈r,x.length≤40) (hr:Cc b ([83,69,84]::r)=[]):Be (ev R) 82 [.d (Cv b), .d (Bf ([83,69,84]::r))]=some (Bk (Cp b [83,69,84] r)):=Bb fun H=>by
 refine Bi (fn:=f82) rfl rfl ?_
 have hl:=Bs hr
 have wv:Bh [83,69,84]=(3,3,0):=rfl
 rw[wv] at hl
 dsimp only at hl
 obtain⟨k,x,rfl⟩: ∃k x,r=[k,x]:=by
  match r,hl with
  | [],hl=>exact absurd hl (by simp)
  | [a0],hl=>exact absurd hl (by simp)
  | [k,x],_=>exact⟨k,x,rfl⟩
  |k::x::z::ts,hl=>exact absurd hl (by simp only[List.length_cons];omega)
 have hk:k.length≤40:=ha k (by simp)
 have hx:x.length≤40:=ha x (by simp)
 have p1:=Dc b ([[83,69,84],k,x]) hb.sm (by simp only[List.length_cons,List.length_nil];omega) (by simp)
 rw[hr] at p1
 have p2:=C9 [83,69,84]
 rw[wv] at p2
 have p3:=Bi1 b k x hb hk hx
 have re:Cp b [83,69,84] [k,x]=Bjf b k x:=rfl
 rw[re]
 generalize Bjf b k x=P at*
 simp only[Bf,List.map_cons,List.map_nil] at p1 p3
 simp(maxSteps:=1000000) [Ca,-List.getD_eq_getElem?_getD,-List.map_map,f82,p1,p2,p3,Bk]
theorem Bc9 (b:Ba) (r:List Bm) (hb:BaG b) (ha: ∀x∈r,x.length≤40) (hr:Cc b ([65,80,80,69,78,68]::r)=[]):Be (ev R) 82 [.d (Cv b), .d (Bf ([65,80,80,69,78,68]::r))]=some (Bk (Cp b [65,80,80,69,78,68] r)):=Bb fun H=>by
 refine Bi (fn:=f82) rfl rfl ?_
 have hl:=Bs hr
 have wv:Bh [65,80,80,69,78,68]=(3,3,1):=rfl
 rw[wv] at hl
 dsimp only at hl
 obtain⟨k,x,rfl⟩: ∃k x,r=[k,x]:=by
  match r,hl with
  | [],hl=>exact absurd hl (by simp)
  | [a0],hl=>exact absurd hl (by simp)
  | [k,x],_=>exact⟨k,x,rfl⟩
  |k::x::z::ts,hl=>exact absurd hl (by simp only[List.length_cons];omega)
 have hk:k.length≤40:=ha k (by simp)
 have hx:x.length≤40:=ha x (by simp)
 have p1:=Dc b ([[65,80,80,69,78,68],k,x]) hb.sm (by simp only[List.length_cons,List.length_nil];omega) (by simp)
 rw[hr] at p1
 have p2:=C9 [65,80,80,69,78,68]
 rw[wv] at p2
 have p3:=Zz b k x hb hk hx
 have re:Cp b [65,80,80,69,78,68] [k,x]=Pm b k x:=rfl
 rw[re]
 generalize Pm b k x=P at*
 simp only[Bf,List.map_cons,List.map_nil] at p1 p3
 simp(maxSteps:=1000000) [Ca,-List.getD_eq_getElem?_getD,-List.map_map,f82,p1,p2,p3,Bk]
theorem Bdd (b:Ba) (r:List Bm) (hb:BaG b) (ha: ∀x∈r,x.length≤40) (hr:Cc b ([73,78,67,82,66,89]::r)=[]):Be (ev R) 82 [.d (Cv b), .d (Bf ([73,78,67,82,66,89]::r))]=some (Bk (Cp b [73,78,67,82,66,89] r)):=Bb fun H=>by
 refine Bi (fn:=f82) rfl rfl ?_
 have hl:=Bs hr
 have wv:Bh [73,78,67,82,66,89]=(3,3,1):=rfl
 rw[wv] at hl
 dsimp only at hl
 obtain⟨k,x,rfl⟩: ∃k x,r=[k,x]:=by
  match r,hl with
  | [],hl=>exact absurd hl (by simp)
  | [a0],hl=>exact absurd hl (by simp)
  | [k,x],_=>exact⟨k,x,rfl⟩
  |k::x::z::ts,hl=>exact absurd hl (by simp only[List.length_cons];omega)
 have hk:k.length≤40:=ha k (by simp)
 have hx:x.length≤40:=ha x (by simp)
 have p1:=Dc b ([[73,78,67,82,66,89],k,x]) hb.sm (by simp only[List.length_cons,List.length_nil];omega) (by simp)
 rw[hr] at p1
 have p2:=C9 [73,78,67,82,66,89]
 rw[wv] at p2
 have p3:=Z0 b k x hb hk hx
 have re:Cp b [73,78,67,82,66,89] [k,x]=Wt b k x:=rfl
 rw[re]
 generalize Wt b k x=P at*
 simp only[Bf,List.map_cons,List.map_nil] at p1 p3
 simp(maxSteps:=1000000) [Ca,-List.getD_eq_getElem?_getD,-List.map_map,f82,p1,p2,p3,Bk]
theorem Xv (b:Ba) (r:List Bm) (hb:BaG b) (ha: ∀x∈r,x.length≤40) (hr:Cc b ([71,69,84,82,65,78,71,69]::r)=[]):Be (ev R) 82 [.d (Cv b), .d (Bf ([71,69,84,82,65,78,71,69]::r))]=some (Bk (Cp b [71,69,84,82,65,78,71,69] r)):=Bb fun H=>by
 refine Bi (fn:=f82) rfl rfl ?_
 have hl:=Bs hr
 have wv:Bh [71,69,84,82,65,78,71,69]=(4,4,1):=rfl
 rw[wv] at hl
 dsimp only at hl
 obtain⟨k,x,y,rfl⟩: ∃k x y,r=[k,x,y]:=by
  match r,hl with
  | [],hl=>exact absurd hl (by simp)
  | [a0],hl=>exact absurd hl (by simp)
  | [a0,a1],hl=>exact absurd hl (by simp)
  | [k,x,y],_=>exact⟨k,x,y,rfl⟩
  |k::x::y::z::ts,hl=>exact absurd hl (by simp only[List.length_cons];omega)
 have hk:k.length≤40:=ha k (by simp)
 have hx:x.length≤40:=ha x (by simp)
 have hy:y.length≤40:=ha y (by simp)
 have p1:=Dc b ([[71,69,84,82,65,78,71,69],k,x,y]) hb.sm (by simp only[List.length_cons,List.length_nil];omega) (by simp)
 rw[hr] at p1
 have p2:=C9 [71,69,84,82,65,78,71,69]
 rw[wv] at p2
 have p3:=Wp b k x y hb hk hx hy
 have re:Cp b [71,69,84,82,65,78,71,69] [k,x,y]=K5 b k x y:=rfl
 rw[re]
 generalize K5 b k x y=P at*
 simp only[Bf,List.map_cons,List.map_nil] at p1 p3
 simp(maxSteps:=1000000) [Ca,-List.getD_eq_getElem?_getD,-List.map_map,f82,p1,p2,p3,Bk]
theorem Bf6 (b:Ba) (r:List Bm) (hb:BaG b) (ha: ∀x∈r,x.length≤40) (hr:Cc b ([76,80,85,83,72]::r)=[]):Be (ev R) 82 [.d (Cv b), .d (Bf ([76,80,85,83,72]::r))]=some (Bk (Cp b [76,80,85,83,72] r)):=Bb fun H=>by
 refine Bi (fn:=f82) rfl rfl ?_
 have hl:=Bs hr
 have wv:Bh [76,80,85,83,72]=(3,8,2):=rfl
 rw[wv] at hl
 dsimp only at hl
 obtain⟨k,ts,rfl⟩: ∃k ts,r=k::ts:=by
  match r,hl with
  | [],hl=>simp at hl
  |k::ts,_=>exact⟨k,ts,rfl⟩
 simp only[List.length_cons] at hl
 have hk:k.length≤40:=ha k (by simp)
 have c00: (0:Int)< (ts.length:Int)+1+1:=by omega
 have p1:=Dc b ([76,80,85,83,72]::k::ts) hb.sm (by simp only[List.length_cons,List.length_nil];omega) (by simp)
 rw[hr] at p1
 have p2:=C9 [76,80,85,83,72]
 rw[wv] at p2
 have p3:=Bb1 b k ts hb hk (by omega)
 have re:Cp b [76,80,85,83,72] (k::ts)=N2 b k true ts:=rfl
 rw[re]
 generalize N2 b k true ts=P at*
 simp only[Bf,List.map_cons,List.map_nil] at p1 p3
 simp(maxSteps:=1000000) [Ca,-List.getD_eq_getElem?_getD,-List.map_map,f82,p1,p2,p3,Bk,c00]
theorem Bf8 (b:Ba) (r:List Bm) (hb:BaG b) (ha: ∀x∈r,x.length≤40) (hr:Cc b ([82,80,85,83,72]::r)=[]):Be (ev R) 82 [.d (Cv b), .d (Bf ([82,80,85,83,72]::r))]=some (Bk (Cp b [82,80,85,83,72] r)):=Bb fun H=>by
 refine Bi (fn:=f82) rfl rfl ?_
 have hl:=Bs hr
 have wv:Bh [82,80,85,83,72]=(3,8,2):=rfl
 rw[wv] at hl
 dsimp only at hl
 obtain⟨k,ts,rfl⟩: ∃k ts,r=k::ts:=by
  match r,hl with
  | [],hl=>simp at hl
  |k::ts,_=>exact⟨k,ts,rfl⟩
 simp only[List.length_cons] at hl
 have hk:k.length≤40:=ha k (by simp)
 have c00: (0:Int)< (ts.length:Int)+1+1:=by omega
 have p1:=Dc b ([82,80,85,83,72]::k::ts) hb.sm (by simp only[List.length_cons,List.length_nil];omega) (by simp)
 rw[hr] at p1
 have p2:=C9 [82,80,85,83,72]
 rw[wv] at p2
 have p3:=Bb3 b k ts hb hk (by omega)
 have re:Cp b [82,80,85,83,72] (k::ts)=N2 b k false ts:=rfl
 rw[re]
 generalize N2 b k false ts=P at*
 simp only[Bf,List.map_cons,List.map_nil] at p1 p3
 simp(maxSteps:=1000000) [Ca,-List.getD_eq_getElem?_getD,-List.map_map,f82,p1,p2,p3,Bk,c00]
theorem Bke (b:Ba) (r:List Bm) (hb:BaG b) (ha: ∀x∈r,x.length≤40) (hr:Cc b ([76,80,79,80]::r)=[]):Be (ev R) 82 [.d (Cv b), .d (Bf ([76,80,79,80]::r))]=some (Bk (Cp b [76,80,79,80] r)):=Bb fun H=>by
 refine Bi (fn:=f82) rfl rfl ?_
 have hl:=Bs hr
 have wv:Bh [76,80,79,80]=(2,2,2):=rfl
 rw[wv] at hl
 dsimp only at hl
 obtain⟨k,rfl⟩: ∃k,r=[k]:=by
  match r,hl with
  | [],hl=>exact absurd hl (by simp)
  | [k],_=>exact⟨k,rfl⟩
  |k::z::ts,hl=>exact absurd hl (by simp only[List.length_cons];omega)
 have hk:k.length≤40:=ha k (by simp)
 have p1:=Dc b ([[76,80,79,80],k]) hb.sm (by simp only[List.length_cons,List.length_nil];omega) (by simp)
 rw[hr] at p1
 have p2:=C9 [76,80,79,80]
 rw[wv] at p2
 have p3:=Bey b k hb hk
 have re:Cp b [76,80,79,80] [k]=Wx b k true:=rfl
 rw[re]
 generalize Wx b k true=P at*
 simp only[Bf,List.map_cons,List.map_nil] at p1 p3
 simp(maxSteps:=1000000) [Ca,-List.getD_eq_getElem?_getD,-List.map_map,f82,p1,p2,p3,Bk]
theorem Bkh (b:Ba) (r:List Bm) (hb:BaG b) (ha: ∀x∈r,x.length≤40) (hr:Cc b ([82,80,79,80]::r)=[]):Be (ev R) 82 [.d (Cv b), .d (Bf ([82,80,79,80]::r))]=some (Bk (Cp b [82,80,79,80] r)):=Bb fun H=>by
 refine Bi (fn:=f82) rfl rfl ?_
 have hl:=Bs hr
 have wv:Bh [82,80,79,80]=(2,2,2):=rfl
 rw[wv] at hl
 dsimp only at hl
 obtain⟨k,rfl⟩: ∃k,r=[k]:=by
  match r,hl with
  | [],hl=>exact absurd hl (by simp)
  | [k],_=>exact⟨k,rfl⟩
  |k::z::ts,hl=>exact absurd hl (by simp only[List.length_cons];omega)
 have hk:k.length≤40:=ha k (by simp)
 have p1:=Dc b ([[82,80,79,80],k]) hb.sm (by simp only[List.length_cons,List.length_nil];omega) (by simp)
 rw[hr] at p1
 have p2:=C9 [82,80,79,80]
 rw[wv] at p2
 have p3:=Be1 b k hb hk
 have re:Cp b [82,80,79,80] [k]=Wx b k false:=rfl
 rw[re]
 generalize Wx b k false=P at*
 simp only[Bf,List.map_cons,List.map_nil] at p1 p3
 simp(maxSteps:=1000000) [Ca,-List.getD_eq_getElem?_getD,-List.map_map,f82,p1,p2,p3,Bk]
theorem Bkd (b:Ba) (r:List Bm) (hb:BaG b) (ha: ∀x∈r,x.length≤40) (hr:Cc b ([76,76,69,78]::r)=[]):Be (ev R) 82 [.d (Cv b), .d (Bf ([76,76,69,78]::r))]=some (Bk (Cp b [76,76,69,78] r)):=Bb fun H=>by
 refine Bi (fn:=f82) rfl rfl ?_
 have hl:=Bs hr
 have wv:Bh [76,76,69,78]=(2,2,2):=rfl
 rw[wv] at hl
 dsimp only at hl
 obtain⟨k,rfl⟩: ∃k,r=[k]:=by
  match r,hl with
  | [],hl=>exact absurd hl (by simp)
  | [k],_=>exact⟨k,rfl⟩
  |k::z::ts,hl=>exact absurd hl (by simp only[List.length_cons];omega)
 have hk:k.length≤40:=ha k (by simp)
 have p1:=Dc b ([[76,76,69,78],k]) hb.sm (by simp only[List.length_cons,List.length_nil];omega) (by simp)
 rw[hr] at p1
 have p2:=C9 [76,76,69,78]
 rw[wv] at p2
 have p3:=Bex b k hb hk
 have re:Cp b [76,76,69,78] [k]=P6 b k:=rfl
 rw[re]
 generalize P6 b k=P at*
 simp only[Bf,List.map_cons,List.map_nil] at p1 p3
 simp(maxSteps:=1000000) [Ca,-List.getD_eq_getElem?_getD,-List.map_map,f82,p1,p2,p3,Bk]
theorem Bde (b:Ba) (r:List Bm) (hb:BaG b) (ha: ∀x∈r,x.length≤40) (hr:Cc b ([76,82,65,78,71,69]::r)=[]):Be (ev R) 82 [.d (Cv b), .d (Bf ([76,82,65,78,71,69]::r))]=some (Bk (Cp b [76,82,65,78,71,69] r)):=Bb fun H=>by
 refine Bi (fn:=f82) rfl rfl ?_
 have hl:=Bs hr
 have wv:Bh [76,82,65,78,71,69]=(4,4,2):=rfl
 rw[wv] at hl
 dsimp only at hl
 obtain⟨k,x,y,rfl⟩: ∃k x y,r=[k,x,y]:=by
  match r,hl with
  | [],hl=>exact absurd hl (by simp)
  | [a0],hl=>exact absurd hl (by simp)
  | [a0,a1],hl=>exact absurd hl (by simp)
  | [k,x,y],_=>exact⟨k,x,y,rfl⟩
  |k::x::y::z::ts,hl=>exact absurd hl (by simp only[List.length_cons];omega)
 have hk:k.length≤40:=ha k (by simp)
 have hx:x.length≤40:=ha x (by simp)
 have hy:y.length≤40:=ha y (by simp)
 have p1:=Dc b ([[76,82,65,78,71,69],k,x,y]) hb.sm (by simp only[List.length_cons,List.length_nil];omega) (by simp)
 rw[hr] at p1
 have p2:=C9 [76,82,65,78,71,69]
 rw[wv] at p2
 have p3:=Z2 b k x y hb hk hx hy
 have re:Cp b [76,82,65,78,71,69] [k,x,y]=Pp b k x y:=rfl
 rw[re]
 generalize Pp b k x y=P at*
 simp only[Bf,List.map_cons,List.map_nil] at p1 p3
 simp(maxSteps:=1000000) [Ca,-List.getD_eq_getElem?_getD,-List.map_map,f82,p1,p2,p3,Bk]
theorem Bf7 (b:Ba) (r:List Bm) (hb:BaG b) (ha: ∀x∈r,x.length≤40) (hr:Cc b ([76,84,82,73,77]::r)=[]):Be (ev R) 82 [.d (Cv b), .d (Bf ([76,84,82,73,77]::r))]=some (Bk (Cp b [76,84,82,73,77] r)):=Bb fun H=>by
 refine Bi (fn:=f82) rfl rfl ?_
 have hl:=Bs hr
 have wv:Bh [76,84,82,73,77]=(4,4,2):=rfl
 rw[wv] at hl
 dsimp only at hl
 obtain⟨k,x,y,rfl⟩: ∃k x y,r=[k,x,y]:=by
  match r,hl with
  | [],hl=>exact absurd hl (by simp)
  | [a0],hl=>exact absurd hl (by simp)
  | [a0,a1],hl=>exact absurd hl (by simp)
  | [k,x,y],_=>exact⟨k,x,y,rfl⟩
  |k::x::y::z::ts,hl=>exact absurd hl (by simp only[List.length_cons];omega)
 have hk:k.length≤40:=ha k (by simp)
 have hx:x.length≤40:=ha x (by simp)
 have hy:y.length≤40:=ha y (by simp)
 have p1:=Dc b ([[76,84,82,73,77],k,x,y]) hb.sm (by simp only[List.length_cons,List.length_nil];omega) (by simp)
 rw[hr] at p1
 have p2:=C9 [76,84,82,73,77]
 rw[wv] at p2
 have p3:=Bb2 b k x y hb hk hx hy
 have re:Cp b [76,84,82,73,77] [k,x,y]=Sk b k x y:=rfl
 rw[re]
 generalize Sk b k x y=P at*
 simp only[Bf,List.map_cons,List.map_nil] at p1 p3
 simp(maxSteps:=1000000) [Ca,-List.getD_eq_getElem?_getD,-List.map_map,f82,p1,p2,p3,Bk]
theorem Bkg (b:Ba) (r:List Bm) (hb:BaG b) (ha: ∀x∈r,x.length≤40) (hr:Cc b ([76,83,69,84]::r)=[]):Be (ev R) 82 [.d (Cv b), .d (Bf ([76,83,69,84]::r))]=some (Bk (Cp b [76,83,69,84] r)):=Bb fun H=>by
 refine Bi (fn:=f82) rfl rfl ?_
 have hl:=Bs hr
 have wv:Bh [76,83,69,84]=(4,4,2):=rfl
 rw[wv] at hl
 dsimp only at hl
 obtain⟨k,x,y,rfl⟩: ∃k x y,r=[k,x,y]:=by
  match r,hl with
  | [],hl=>exact absurd hl (by simp)
  | [a0],hl=>exact absurd hl (by simp)
  | [a0,a1],hl=>exact absurd hl (by simp)
  | [k,x,y],_=>exact⟨k,x,y,rfl⟩
  |k::x::y::z::ts,hl=>exact absurd hl (by simp only[List.length_cons];omega)
 have hk:k.length≤40:=ha k (by simp)
 have hx:x.length≤40:=ha x (by simp)
 have hy:y.length≤40:=ha y (by simp)
 have p1:=Dc b ([[76,83,69,84],k,x,y]) hb.sm (by simp only[List.length_cons,List.length_nil];omega) (by simp)
 rw[hr] at p1
 have p2:=C9 [76,83,69,84]
 rw[wv] at p2
 have p3:=Be0 b k x y hb hk hx hy
 have re:Cp b [76,83,69,84] [k,x,y]=Yv b k x y:=rfl
 rw[re]
 generalize Yv b k x y=P at*
 simp only[Bf,List.map_cons,List.map_nil] at p1 p3
 simp(maxSteps:=1000000) [Ca,-List.getD_eq_getElem?_getD,-List.map_map,f82,p1,p2,p3,Bk]
theorem Bkf (b:Ba) (r:List Bm) (hb:BaG b) (ha: ∀x∈r,x.length≤40) (hr:Cc b ([76,82,69,77]::r)=[]):Be (ev R) 82 [.d (Cv b), .d (Bf ([76,82,69,77]::r))]=some (Bk (Cp b [76,82,69,77] r)):=Bb fun H=>by
 refine Bi (fn:=f82) rfl rfl ?_
 have hl:=Bs hr
 have wv:Bh [76,82,69,77]=(4,4,2):=rfl
 rw[wv] at hl
 dsimp only at hl
 obtain⟨k,x,y,rfl⟩: ∃k x y,r=[k,x,y]:=by
  match r,hl with
  | [],hl=>exact absurd hl (by simp)
  | [a0],hl=>exact absurd hl (by simp)
  | [a0,a1],hl=>exact absurd hl (by simp)
  | [k,x,y],_=>exact⟨k,x,y,rfl⟩
  |k::x::y::z::ts,hl=>exact absurd hl (by simp only[List.length_cons];omega)
 have hk:k.length≤40:=ha k (by simp)
 have hx:x.length≤40:=ha x (by simp)
 have hy:y.length≤40:=ha y (by simp)
 have p1:=Dc b ([[76,82,69,77],k,x,y]) hb.sm (by simp only[List.length_cons,List.length_nil];omega) (by simp)
 rw[hr] at p1
 have p2:=C9 [76,82,69,77]
 rw[wv] at p2
 have p3:=Bez b k x y hb hk hx hy
 have re:Cp b [76,82,69,77] [k,x,y]=Yu b k x y:=rfl
 rw[re]
 generalize Yu b k x y=P at*
 simp only[Bf,List.map_cons,List.map_nil] at p1 p3
 simp(maxSteps:=1000000) [Ca,-List.getD_eq_getElem?_getD,-List.map_map,f82,p1,p2,p3,Bk]
theorem Bki (b:Ba) (r:List Bm) (hb:BaG b) (ha: ∀x∈r,x.length≤40) (hr:Cc b ([83,65,68,68]::r)=[]):Be (ev R) 82 [.d (Cv b), .d (Bf ([83,65,68,68]::r))]=some (Bk (Cp b [83,65,68,68] r)):=Bb fun H=>by
 refine Bi (fn:=f82) rfl rfl ?_
 have hl:=Bs hr
 have wv:Bh [83,65,68,68]=(3,8,3):=rfl
 rw[wv] at hl
 dsimp only at hl
 obtain⟨k,ts,rfl⟩: ∃k ts,r=k::ts:=by
  match r,hl with
  | [],hl=>simp at hl
  |k::ts,_=>exact⟨k,ts,rfl⟩
 simp only[List.length_cons] at hl
 have hk:k.length≤40:=ha k (by simp)
 have c00: (0:Int)< (ts.length:Int)+1+1:=by omega
 have p1:=Dc b ([83,65,68,68]::k::ts) hb.sm (by simp only[List.length_cons,List.length_nil];omega) (by simp)
 rw[hr] at p1
 have p2:=C9 [83,65,68,68]
 rw[wv] at p2
 have p3:=Be2 b k ts hb hk (by omega)
 have re:Cp b [83,65,68,68] (k::ts)=Yw b k ts:=rfl
 rw[re]
 generalize Yw b k ts=P at*
 simp only[Bf,List.map_cons,List.map_nil] at p1 p3
 simp(maxSteps:=1000000) [Ca,-List.getD_eq_getElem?_getD,-List.map_map,f82,p1,p2,p3,Bk,c00]
theorem Bkj (b:Ba) (r:List Bm) (hb:BaG b) (ha: ∀x∈r,x.length≤40) (hr:Cc b ([83,82,69,77]::r)=[]):Be (ev R) 82 [.d (Cv b), .d (Bf ([83,82,69,77]::r))]=some (Bk (Cp b [83,82,69,77] r)):=Bb fun H=>by
 refine Bi (fn:=f82) rfl rfl ?_
 have hl:=Bs hr
 have wv:Bh [83,82,69,77]=(3,8,3):=rfl
 rw[wv] at hl
 dsimp only at hl
 obtain⟨k,ts,rfl⟩: ∃k ts,r=k::ts:=by
  match r,hl with
  | [],hl=>simp at hl
  |k::ts,_=>exact⟨k,ts,rfl⟩
 simp only[List.length_cons] at hl
 have hk:k.length≤40:=ha k (by simp)
 have c00: (0:Int)< (ts.length:Int)+1+1:=by omega
 have p1:=Dc b ([83,82,69,77]::k::ts) hb.sm (by simp only[List.length_cons,List.length_nil];omega) (by simp)
 rw[hr] at p1
 have p2:=C9 [83,82,69,77]
 rw[wv] at p2
 have p3:=Be3 b k ts hb hk (by omega)
 have re:Cp b [83,82,69,77] (k::ts)=Yx b k ts:=rfl
 rw[re]
 generalize Yx b k ts=P at*
 simp only[Bf,List.map_cons,List.map_nil] at p1 p3
 simp(maxSteps:=1000000) [Ca,-List.getD_eq_getElem?_getD,-List.map_map,f82,p1,p2,p3,Bk,c00]
theorem Xw (b:Ba) (r:List Bm) (hb:BaG b) (ha: ∀x∈r,x.length≤40) (hr:Cc b ([83,77,69,77,66,69,82,83]::r)=[]):Be (ev R) 82 [.d (Cv b), .d (Bf ([83,77,69,77,66,69,82,83]::r))]=some (Bk (Cp b [83,77,69,77,66,69,82,83] r)):=Bb fun H=>by
 refine Bi (fn:=f82) rfl rfl ?_
 have hl:=Bs hr
 have wv:Bh [83,77,69,77,66,69,82,83]=(2,2,3):=rfl
 rw[wv] at hl
 dsimp only at hl
 obtain⟨k,rfl⟩: ∃k,r=[k]:=by
  match r,hl with
  | [],hl=>exact absurd hl (by simp)
  | [k],_=>exact⟨k,rfl⟩
  |k::z::ts,hl=>exact absurd hl (by simp only[List.length_cons];omega)
 have hk:k.length≤40:=ha k (by simp)
 have p1:=Dc b ([[83,77,69,77,66,69,82,83],k]) hb.sm (by simp only[List.length_cons,List.length_nil];omega) (by simp)
 rw[hr] at p1
 have p2:=C9 [83,77,69,77,66,69,82,83]
 rw[wv] at p2
 have p3:=Wq b k hb hk
 have re:Cp b [83,77,69,77,66,69,82,83] [k]=Mk b k:=rfl
 rw[re]
 generalize Mk b k=P at*
 simp only[Bf,List.map_cons,List.map_nil] at p1 p3
 simp(maxSteps:=1000000) [Ca,-List.getD_eq_getElem?_getD,-List.map_map,f82,p1,p2,p3,Bk]
theorem Bf9 (b:Ba) (r:List Bm) (hb:BaG b) (ha: ∀x∈r,x.length≤40) (hr:Cc b ([83,67,65,82,68]::r)=[]):Be (ev R) 82 [.d (Cv b), .d (Bf ([83,67,65,82,68]::r))]=some (Bk (Cp b [83,67,65,82,68] r)):=Bb fun H=>by
 refine Bi (fn:=f82) rfl rfl ?_
 have hl:=Bs hr
 have wv:Bh [83,67,65,82,68]=(2,2,3):=rfl
 rw[wv] at hl
 dsimp only at hl
 obtain⟨k,rfl⟩: ∃k,r=[k]:=by
  match r,hl with
  | [],hl=>exact absurd hl (by simp)
  | [k],_=>exact⟨k,rfl⟩
  |k::z::ts,hl=>exact absurd hl (by simp only[List.length_cons];omega)
 have hk:k.length≤40:=ha k (by simp)
 have p1:=Dc b ([[83,67,65,82,68],k]) hb.sm (by simp only[List.length_cons,List.length_nil];omega) (by simp)
 rw[hr] at p1
 have p2:=C9 [83,67,65,82,68]
 rw[wv] at p2
 have p3:=Bb4 b k hb hk
 have re:Cp b [83,67,65,82,68] [k]=P6 b k:=rfl
 rw[re]
 generalize P6 b k=P at*
 simp only[Bf,List.map_cons,List.map_nil] at p1 p3
 simp(maxSteps:=1000000) [Ca,-List.getD_eq_getElem?_getD,-List.map_map,f82,p1,p2,p3,Bk]
theorem Xh (b:Ba) (r:List Bm) (hb:BaG b) (ha: ∀x∈r,x.length≤40) (hr:Cc b ([83,73,83,77,69,77,66,69,82]::r)=[]):Be (ev R) 82 [.d (Cv b), .d (Bf ([83,73,83,77,69,77,66,69,82]::r))]=some (Bk (Cp b [83,73,83,77,69,77,66,69,82] r)):=Bb fun H=>by
 refine Bi (fn:=f82) rfl rfl ?_
 have hl:=Bs hr
 have wv:Bh [83,73,83,77,69,77,66,69,82]=(3,3,3):=rfl
 rw[wv] at hl
 dsimp only at hl
 obtain⟨k,x,rfl⟩: ∃k x,r=[k,x]:=by
  match r,hl with
  | [],hl=>exact absurd hl (by simp)
  | [a0],hl=>exact absurd hl (by simp)
  | [k,x],_=>exact⟨k,x,rfl⟩
  |k::x::z::ts,hl=>exact absurd hl (by simp only[List.length_cons];omega)
 have hk:k.length≤40:=ha k (by simp)
 have hx:x.length≤40:=ha x (by simp)
 have p1:=Dc b ([[83,73,83,77,69,77,66,69,82],k,x]) hb.sm (by simp only[List.length_cons,List.length_nil];omega) (by simp)
 rw[hr] at p1
 have p2:=C9 [83,73,83,77,69,77,66,69,82]
 rw[wv] at p2
 have p3:=Ts b k x hb hk hx
 have re:Cp b [83,73,83,77,69,77,66,69,82] [k,x]=Li b k x:=rfl
 rw[re]
 generalize Li b k x=P at*
 simp only[Bf,List.map_cons,List.map_nil] at p1 p3
 simp(maxSteps:=1000000) [Ca,-List.getD_eq_getElem?_getD,-List.map_map,f82,p1,p2,p3,Bk]
theorem Bdg (b:Ba) (r:List Bm) (hb:BaG b) (ha: ∀x∈r,x.length≤40) (hr:Cc b ([83,73,78,84,69,82]::r)=[]):Be (ev R) 82 [.d (Cv b), .d (Bf ([83,73,78,84,69,82]::r))]=some (Bk (Cp b [83,73,78,84,69,82] r)):=Bb fun H=>by
 refine Bi (fn:=f82) rfl rfl ?_
 have hl:=Bs hr
 have wv:Bh [83,73,78,84,69,82]=(3,3,3):=rfl
 rw[wv] at hl
 dsimp only at hl
 obtain⟨k,x,rfl⟩: ∃k x,r=[k,x]:=by
  match r,hl with
  | [],hl=>exact absurd hl (by simp)
  | [a0],hl=>exact absurd hl (by simp)
  | [k,x],_=>exact⟨k,x,rfl⟩
  |k::x::z::ts,hl=>exact absurd hl (by simp only[List.length_cons];omega)
 have hk:k.length≤40:=ha k (by simp)
 have hx:x.length≤40:=ha x (by simp)
 have p1:=Dc b ([[83,73,78,84,69,82],k,x]) hb.sm (by simp only[List.length_cons,List.length_nil];omega) (by simp)
 rw[hr] at p1
 have p2:=C9 [83,73,78,84,69,82]
 rw[wv] at p2
 have p3:=Z3 b k x hb hk hx
 have re:Cp b [83,73,78,84,69,82] [k,x]=Rl b k x:=rfl
 rw[re]
 generalize Rl b k x=P at*
 simp only[Bf,List.map_cons,List.map_nil] at p1 p3
 simp(maxSteps:=1000000) [Ca,-List.getD_eq_getElem?_getD,-List.map_map,f82,p1,p2,p3,Bk]
theorem Bdi (b:Ba) (r:List Bm) (hb:BaG b) (ha: ∀x∈r,x.length≤40) (hr:Cc b ([83,85,78,73,79,78]::r)=[]):Be (ev R) 82 [.d (Cv b), .d (Bf ([83,85,78,73,79,78]::r))]=some (Bk (Cp b [83,85,78,73,79,78] r)):=Bb fun H=>by
 refine Bi (fn:=f82) rfl rfl ?_
 have hl:=Bs hr
 have wv:Bh [83,85,78,73,79,78]=(3,3,3):=rfl
 rw[wv] at hl
 dsimp only at hl
 obtain⟨k,x,rfl⟩: ∃k x,r=[k,x]:=by
  match r,hl with
  | [],hl=>exact absurd hl (by simp)
  | [a0],hl=>exact absurd hl (by simp)
  | [k,x],_=>exact⟨k,x,rfl⟩
  |k::x::z::ts,hl=>exact absurd hl (by simp only[List.length_cons];omega)
 have hk:k.length≤40:=ha k (by simp)
 have hx:x.length≤40:=ha x (by simp)
 have p1:=Dc b ([[83,85,78,73,79,78],k,x]) hb.sm (by simp only[List.length_cons,List.length_nil];omega) (by simp)
 rw[hr] at p1
 have p2:=C9 [83,85,78,73,79,78]
 rw[wv] at p2
 have p3:=Z4 b k x hb hk hx
 have re:Cp b [83,85,78,73,79,78] [k,x]=Rn b k x:=rfl
 rw[re]
 generalize Rn b k x=P at*
 simp only[Bf,List.map_cons,List.map_nil] at p1 p3
 simp(maxSteps:=1000000) [Ca,-List.getD_eq_getElem?_getD,-List.map_map,f82,p1,p2,p3,Bk]
theorem Bga (b:Ba) (r:List Bm) (hb:BaG b) (ha: ∀x∈r,x.length≤40) (hr:Cc b ([83,68,73,70,70]::r)=[]):Be (ev R) 82 [.d (Cv b), .d (Bf ([83,68,73,70,70]::r))]=some (Bk (Cp b [83,68,73,70,70] r)):=Bb fun H=>by
 refine Bi (fn:=f82) rfl rfl ?_
 have hl:=Bs hr
 have wv:Bh [83,68,73,70,70]=(3,3,3):=rfl
 rw[wv] at hl
 dsimp only at hl
 obtain⟨k,x,rfl⟩: ∃k x,r=[k,x]:=by
  match r,hl with
  | [],hl=>exact absurd hl (by simp)
  | [a0],hl=>exact absurd hl (by simp)
  | [k,x],_=>exact⟨k,x,rfl⟩
  |k::x::z::ts,hl=>exact absurd hl (by simp only[List.length_cons];omega)
 have hk:k.length≤40:=ha k (by simp)
 have hx:x.length≤40:=ha x (by simp)
 have p1:=Dc b ([[83,68,73,70,70],k,x]) hb.sm (by simp only[List.length_cons,List.length_nil];omega) (by simp)
 rw[hr] at p1
 have p2:=C9 [83,68,73,70,70]
 rw[wv] at p2
 have p3:=Bb5 b k x hb hk hx
 have re:Cp b [83,68,73,70,70] [k,x]=Wy b k x:=rfl
 rw[re]
 generalize Wy b k x=P at*
 simp only[Bf,List.map_cons,List.map_nil] at p1 p3
 simp(maxSteps:=1000000) [Ca,-List.getD_eq_getElem?_getD,-List.map_map,f82,p1,p2,p3,Bk]
theorem Bkl (b:Ba) (r:List Bm) (hb:BaG b) (ha: ∀x∈r,x.length≤40) (hr:Cc b ([90,65,68,68]::r)=[]):Be (ev R) 82 [.d (Cv b), .d (Bf ([90,65,68,68]::r))]=some (Bk (Cp b [90,65,68,68] r)):=Bb fun H=>by
 refine Bi (fn:=f82) rfl rfl ?_
 have hl:=Bs hr
 have wv:Bh [90,65,68,68]=(4,4,4):=rfl
 rw[wv] at hl
 dsimp only at hl
 obtain⟨k,x,y,rfl⟩: ∃k x y,r=[k,x,y]:=by
  match r,hl with
  | [],hl=>exact absurd hl (by simp)
  | [a0],hl=>exact absurd hl (by simp)
  | [a0,a1],hl=>exact absurd hl (by simp)
  | [k,x,y],_=>exact⟨k,x,y,rfl⟩
  |k::x::y::z::ts,hl=>exact absurd hl (by simp only[List.length_cons];omega)
 have hk:k.length≤40:=ha k (by simp)
 have hx:x.length≤40:=ha x (by simp)
 have hy:y.length≤40:=ha y (by simp)
 have p1:=Dc b ([[90,65,68,68],k,x,y]) hb.sm (by simp only[List.length_cons,List.length_nil];omega) (by simp)
 rw[hr] at p1
 have p2:=C9 [90,65,68,68]
 rw[wv] at p2
 have p3:=Be4 b k x y hb hk hx hy
 have re:Cp b [90,65,68,68] [k,x,y]=Yy b k x y:=rfl
 rw[re]
 generalize Yy b k x y=P at*
 simp only[Bf,List.map_cons,List.map_nil] at p1 p3
 simp(maxSteps:=1000000) [Ca,-List.getD_eq_getElem?_getD,-List.map_map,f82,p1,p2,p3,Bk]
theorem Bas (b:Ba) (r:List Bm) (hb:BaG b) (ha: ∀x∈r,x.length≤40) (hr:Cc b ([90,73,78,67,82,66,89]::r)=[]):Be (ev R) 82 [.d (Cv b), .d (Bf ([90,73,78,67,82,66,89]::r))]=some (Bk (Cp b [90,73,78,67,82,66,89] r)):=Bb fun H=>by
 refine Bi (fn:=f82) rfl rfl ?_
 have hl:=Bs hr
 have wv:Bh [90,73,78,67,82,66,89]=(4,4,4):=rfl
 rw[wv] at hl
 dsimp only at hl
 obtain⟨k,x,y,rfl⟩: ∃k x y,r=[k,x,y]:=by
  match r,hl with
  | [],hl=>exact absurd hl (by simp)
  | [a0],hl=>exact absurd hl (by simp)
  | [a0,a1],hl=>exact absurd hl (by simp)
  | [k,x,y],_=>exact⟨k,x,y,rfl⟩
  |k::x::y::z::ts,hl=>exact absurd hl (by simp only[List.length_cons];omega)
 have hk:k.length≤40:=ha k (by simp)
 have hx:x.length≤40:=ha x (by simp)
 have hy:y.length≤40:=ha y (by simp)
 have p1:=Dc b ([[90,73,78,67,82,66,89],k,x,y]) hb.sm (by simp only[List.length_cons,List.length_nil];omega) (by simp)
 rw[hr] at p1
 have p2:=C9 [90,73,78,67,82,66,89]
 rw[wv] at p2
 have p3:=Xl b k x y hb hk hx hy
 have re:Cp b [90,73,78,67,82,66,89] [k,x,y]=Ml b k x y:=rfl
 rw[re]
 generalize Ml b k x y=P at*
 simp only[Bf,List.map_cons,List.map_nil] at p1 p3
 simp(maxSteps:=1000000) [Ca,-List.getD_eq_getElem?_getD,-List.map_map,f82,p1,p2,p3,Bk]
theorem Bdj (b:Ba) (r:List Bm) (hb:BaG b) (ha: ∀x∈r,x.length≤40) (hr:Cc b ([90,82,65,78,71,69]::r)=[]):Be (ev R) 82 [.d (Cv b), .d (Bf ([90,82,65,78,71,69]::r))]=some (Bk (Cp b [90,82,65,78,71,69] r)):=Bb fun H=>by
 refine Bi (fn:=f82) rfl rfl ?_
 have hl:=Bs hr
 have wv:Bh [90,82,65,78,71,69]=(4,4,4):=rfl
 rw[wv] at hl
 dsimp only at hl
 obtain⟨k,x,y,rfl⟩: ∃k x y,r=[k,x,y]:=by
  match r,hl with
  | [],hl=>exact absurd hl (by simp)
  | [a0],hl=>exact absurd hl (by simp)
  | [a0,a1],hl=>exact absurd hl (by simp)
  | [k,x,y],_=>exact⟨k,x,y,rfl⟩
  |k::x::y::z::ts,hl=>exact absurd hl (by simp only[List.length_cons];omega)
 have hk:k.length≤40:=ha k (by simp)
 have hx:x.length≤40:=ha x (by simp)
 have hy:y.length≤40:=ha y (by simp)
 have p1:=Dc b ([[90,82,65,78,71,69],k,x,y]) hb.sm (by simp only[List.length_cons,List.length_nil];omega) (by simp)
 rw[hr] at p1
 have p2:=C9 [90,82,65,78,71,69]
 rw[wv] at p2
 have p3:=Z5 b k x y hb hk hx hy
 have re:Cp b [90,82,65,78,71,69] [k,x,y]=Ps b k x y:=rfl
 rw[re]
 generalize Ps b k x y=P at*
 simp only[Bf,List.map_cons,List.map_nil] at p1 p3
 simp(maxSteps:=1000000) [Ca,-List.getD_eq_getElem?_getD,-List.map_map,f82,p1,p2,p3,Bk]
theorem Qs (b:Ba) (r:List Bm) (hb:BaG b) (ha: ∀x∈r,x.length≤40) (hr:Cc b ([90,82,65,78,71,69,66,89,83,67,79,82,69]::r)=[]):Be (ev R) 82 [.d (Cv b), .d (Bf ([90,82,65,78,71,69,66,89,83,67,79,82,69]::r))]=some (Bk (Cp b [90,82,65,78,71,69,66,89,83,67,79,82,69] r)):=Bb fun H=>by
 refine Bi (fn:=f82) rfl rfl ?_
 have hl:=Bs hr
 have wv:Bh [90,82,65,78,71,69,66,89,83,67,79,82,69]=(4,4,4):=rfl
 rw[wv] at hl
 dsimp only at hl
 obtain⟨k,x,y,rfl⟩: ∃k x y,r=[k,x,y]:=by
  match r,hl with
  | [],hl=>exact absurd hl (by simp)
  | [a0],hl=>exact absurd hl (by simp)
  | [a0,a1],hl=>exact absurd hl (by simp)
  | [k,x,y],_=>exact⟨k,x,y,rfl⟩
  |k::x::y::z::ts,hl=>exact absurd hl (by simp only[List.length_cons];omega)
 have hk:k.length≤40:=ha k (by simp)
 have hx:x.length≤40:=ha x (by simp)
 have hy:y.length≤40:=ha y (by simp)
 have p1:=Dc b ([[90,82,65,78,71,69,66,89,83,67,79,82,69],k,x,y]) hb.sm (by simp only[List.length_cons,List.length_nil];omega) (by simp)
 rw[hr] at p1
 have p2:=C9 [90,82,65,78,71,69,66,89,83,67,79,82,69]
 rw[wv] at p2
 have p3:=Py b k x y hb hk hx hy
 have re:Cp b [90,82,65,78,71,69,66,89,83,67,79,82,69] [k,x,y]=Gi b k x y:=rfl
 rw[re]
 generalize Gi b k x y=P at*
 simp only[Bf,List.map_cons,List.map_nil] at p1 p3
 simp(maxSteps:=1000000) [Ca,-List.getD_eq_getElem?_getD,-List.map_map,f82,p1,p2,p3,Bk]
theorem Bkm (b:Ba) (r:List Bm) (hb:BaG b) (ha: ∀x∈r,x.length≤40) (hr:Cc b ([90,82,69,77]::r)=[]):Be (ev R) 82 [.d (Cv b), .d (Bf ([90,82,69,77]::r))]=some (Bk (Cp b [90,82,69,77] r)):=Bb fun H=>by
 refine Bi (fn:=f82) rfl rfl ?_
 have hl:=Bs hr
 have wv:Bh [90,82,69,77]=(3,3,4):=rfl
 rw[wv] at hl
 dsimp only at hl
 obtain⟨k,x,rfl⟩: ∃k x,r=[k,x]:=by
  match r,hl with
  | [],hl=>exact absurd hl (by simp)
  | [a0],hl=>exact absurd hl (by simp)
  | [k,x],_=>exact⟨k,x,rfl⟩
  |k::x::z::ts,hl=>exact absurd hl (by simp only[List.length_cons];omega)
 have hk:k.length≤40:=ha k (by simp)
 have hx:x.length≤40:=ha x (by simp)
 have p1:=Dc b ([[90,82,69,77],k,x]) hb.sm (by simp only[List.length_cons,List.length_nil];omega) (by simp)
 rw[hr] at p1
 have p2:=C9 [90,82,69,77]
 rw[wv] at p2
 have p3:=Be5 b k x hb hk hx
 have re:Cp b [90,82,69,77] [k,x]=Yz b k x:=rfl
 rw[re]
 generalize Yz b k x=P at*
 simp only[Bf,List.map_cons,List.map_nil] at p1 p3
 simp(maxSteps:=1000000) [Ca,-List.getD_eq_getElem?_getD,-List.map_map,f82,p1,p2,p3,Bk]
theorem Bdk (b:Ba) (r:List Bm) (hb:BaG b) (ha: ∀x∈r,x.length≤40) (hr:Cc b ([90,83,67,79,82,69]::r)=[]):Be (ev R) 82 [.d (Cv b), .d (Bf ([90,83,67,79,82,69]::r))]=some (Bk (Cp b [90,83,67,79,82,69] r)):=Bb fun H=>by
 refine Bi (fn:=f82) rfl rfl ?_
 have hl:=Bs hr
 have wv:Bh [90,83,67,79,82,69]=(3,3,4):=rfl
 rw[wv] at hl
 dsimp only at hl
 obtain⟨k,x,rfl⟩: ∃k x,r=[k,x]:=by
  match r,hl with
  | [],hl=>exact absurd hl (by simp)
  | [a0],hl=>exact absurd hl (by simp)
  | [k,x],_=>exact⟨k,x,rfl⟩
  |k::x::z::ts,hl=>exact absurd hl (by simp only[List.length_cons];omega)
 have hk:k.length≤40:=ha k (by simp)
 have hx:x.length≤40:=ha x (by simp)
 have p1:=Dc b ([[90,83,67,79,82,69],k,x]) hb.sm (by simp only[List.length_cons,List.length_nil];omega) (by simp)
 rw[hr] at p1
 have p2:=C9 [90,83,67,79,82,69]
 rw[wv] at p2
 have p3:=Z6 b k x hb hk hx
 have re:Cp b [90,83,67,79,82,69] [k,x]=Ro b k x:=rfl
 rw[re]
 generalize Ro b k x=P at*
 simp only[Bf,List.map_cons,List.map_nil] at p1 p3
 simp(maxSteps:=1000000) [Ca,-List.getD_eq_getElem?_getD,-List.map_map,f82,p1,p2,p3,Bk]
theorem Bgc (b:Ba) (r:List Bm) (hb:BaG b) (ha: ∀x∈r,x.length≤40) (hr:Cc b ([90,82,65,78,75]::r)=[]):Be (ev R) 82 [.d (Cv b), .d (Bf ([90,82,65,78,75]::r))]=some (Bk (Cp b [90,82,65,78,75] r)):=Bb fun H=>by
 refine Bi (fn:=f82) rfl rfl ?_
 have hl:=Bs hr
 have wv:Bh [90,82,65,78,75]=(3,3,4):=rfl
 rw[wv] at hl
 dsimp only at hl
 obtain⟨k,x,rfl⟩: ∃k x,r=[k,x]:=by
  match r,hl with
  | [],hl=>exact absurd hl (by simp)
  | [a0],hl=>exact absurd hl (by simp)
  | [k,x],_=>exact⟨k,x,rfl⟩
  |k::x::z::ts,hl=>exact absurd hl (by simp only[List.length_cons];omega)
 have hk:k.length≤40:=ha k (by simp)
 have hx:x.length≤40:=ha x (by simp)
 have p1:=Dc b ([[90,82,65,78,75],k,x]) hb.sm (by simp only[List.length_cons,List.length_nil];omega) (by simp)
 rw[hr] at p1
 have p2:=C9 [90,82,65,78,75]
 rw[wv] at p2
 have p3:=Bb7 b k x hb hk hx
 have re:Cp b [90,82,65,78,75] [k,x]=W1 b k x:=rfl
 rw[re]
 generalize W1 b k x=P at*
 simp only[Bf,List.map_cons,List.map_nil] at p1 p3
 simp(maxSteps:=1000000) [Ca,-List.getD_eq_getElem?_getD,-List.map_map,f82,p1,p2,p3,Bk]
theorem Bgb (b:Ba) (r:List Bm) (hb:BaG b) (ha: ∀x∈r,x.length≤40) (hr:Cc b ([90,67,65,82,68]::r)=[]):Be (ev R) 82 [.d (Cv b), .d (Bf ([90,67,65,82,68]::r))]=some (Bk (Cp b [90,67,65,82,68] r)):=Bb fun H=>by
 refine Bi (fn:=f82) rfl rfl ?_
 have hl:=Bs hr
 have wv:Bh [90,67,65,82,68]=(2,2,4):=rfl
 rw[wv] at hl
 dsimp only at hl
 obtain⟨k,rfl⟩: ∃k,r=[k]:=by
  match r,hl with
  | [],hl=>exact absurd hl (by simp)
  | [k],_=>exact⟨k,rfl⟩
  |k::z::ts,hl=>exact absurd hl (by simp only[List.length_cons];omega)
 have hk:k.length≤40:=ha k (by simp)
 have p1:=Dc b ([[90,67,65,82,68],k]) hb.sm (by simp only[List.length_cons,List.length_nil];omega) (by simp)
 rw[hr] at p1
 have p2:=C9 [90,67,65,82,68]
 rw[wv] at p2
 have p3:=Bb6 b k hb hk
 have re:Cp b [90,67,65,82,68] [k]=W0 b k:=rfl
 rw[re]
 generalize W0 b k=P at*
 simp only[Bf,List.map_cons,List.map_nil] at p1 p3
 simp(maxSteps:=1000000) [Ca,-List.getD_eq_getElem?_getD,-List.map_map,f82,p1,p2,p3,Bk]
theorem Bka (b:Ba) (r:List Bm) (hb:BaG b) (ha: ∀x∈r,x.length≤40) (hr:Cc b ([72,83,69,84]::r)=[]):Be (ev R) 82 [.d (Cv b), .d (Bf ([72,83,69,84]::r))]=some (Bk (Cp b [72,83,69,84] r)):=Bb fun H=>by
 refine Bi (fn:=f82) rfl rfl ?_
 have hl:=Bs hr
 have wv:Bh [72,83,69,84]=(4,4,5):=rfl
 rw[wv] at hl
 dsimp only at hl
 obtain⟨k,x,y,rfl⟩: ∃k x y,r=[k,x,y]:=by
  match r,hl with
  | [],hl=>exact absurd hl (by simp)
  | [a0],hl=>exact absurd hl (by simp)
  | [a0,a1],hl=>exact absurd hl (by simp)
  | [k,x,y],_=>exact⟨k,x,y,rfl⟩
  |k::x::y::z::ts,hl=>exact absurd hl (by simp only[List.length_cons];omega)
 have hk:k.length≤40:=ha k (by simp)
 have hx:x.length≤40:=ha x (by simp)
 have hy:y.length≤40:=ha y (by simp)
 have p1:=Dc b ([[72,83,69,84],k,x,y]) hb.sm (by simp only[List.length_cons,List.length_nil];omega) (by simp)
 rw[hr] at p1
 have p2:=C9 [72,83,69,84]
 rw[wv] at p2
 have p3:=Be9 b k x y hb hk hx hy
 have re:Cp b [72,83,69,84] [k,x,y]=Yt b k x y:=rfl
 rw[re]
 generalize Yt b k x y=P at*
 simp only[Bf,List.map_cons,List.map_nil] at p1 p3
 simp(maxSteps:=1000000) [Ca,-List.getD_eq_getElem?_getD,-List.map_map,f82,p1,p2,p3,Bk]
theorem Bj8 (b:Ba) (r:List Bm) (hb:BaG b) (ha: ∀x∈r,x.length≤40) (hr:Cc b ([72,71,69,84]::r)=[]):Be (ev R) 82 [.d (Cv b), .d (Bf ([72,71,69,84]::r))]=some (Bk (Cp b [72,71,69,84] r)):=Bb fun H=>by
 refine Bi (fn:=f82) rfl rfl ?_
 have hl:=Bs hr
 have wv:Bh [72,71,69,84]=(3,3,5):=rfl
 rw[wv] at hl
 dsimp only at hl
 obtain⟨k,x,rfl⟩: ∃k x,r=[k,x]:=by
  match r,hl with
  | [],hl=>exact absurd hl (by simp)
  | [a0],hl=>exact absurd hl (by simp)
  | [k,x],_=>exact⟨k,x,rfl⟩
  |k::x::z::ts,hl=>exact absurd hl (by simp only[List.length_cons];omega)
 have hk:k.length≤40:=ha k (by simp)
 have hx:x.length≤40:=ha x (by simp)
 have p1:=Dc b ([[72,71,69,84],k,x]) hb.sm (by simp only[List.length_cons,List.length_nil];omega) (by simp)
 rw[hr] at p1
 have p2:=C9 [72,71,69,84]
 rw[wv] at p2
 have p3:=Be7 b k x hb hk hx
 have re:Cp b [72,71,69,84] [k,x]=Bce b k x:=rfl
 rw[re]
 generalize Bce b k x=P at*
 simp only[Bf,List.map_cons,List.map_nil] at p1 p3
 simp(maxSteps:=1000000) [Ca,-List.getD_eq_getElem?_getD,-List.map_map,f82,p1,p2,p3,Bk]
theorem Bj7 (b:Ba) (r:List Bm) (hb:BaG b) (ha: ∀x∈r,x.length≤40) (hr:Cc b ([72,68,69,76]::r)=[]):Be (ev R) 82 [.d (Cv b), .d (Bf ([72,68,69,76]::r))]=some (Bk (Cp b [72,68,69,76] r)):=Bb fun H=>by
 refine Bi (fn:=f82) rfl rfl ?_
 have hl:=Bs hr
 have wv:Bh [72,68,69,76]=(3,3,5):=rfl
 rw[wv] at hl
 dsimp only at hl
 obtain⟨k,x,rfl⟩: ∃k x,r=[k,x]:=by
  match r,hl with
  | [],hl=>exact absurd hl (by simp)
  | [a0],hl=>exact absurd hl (by simp)
  | [k,x],_=>exact⟨k,x,rfl⟩
  |k::x::z::ts,hl=>exact absurd hl (by simp only[List.length_cons];omega)
 have hk:k.length≤40:=ha k (by simp)
 have hx:x.length≤40:=ha x (by simp)
 have p1:=Dc b ([[72,68,69,76],k,x]) hb.sm (by simp only[List.length_cons,List.length_nil];omega) (by simp)
 rw[hr] at p1
 have p2:=C9 [72,68,69,76]
 rw[wv] at p2
 have p3:=Be6 b k x hb hk hx
 have re:Cp b [72,68,69,76] [k,x]=Ys b k x:=rfl
 rw[re]
 generalize Ys b k x=P at*
 simp only[Bf,List.map_cons,List.map_nil] at p1 p3
 simp(maxSteps:=1000000) [Ca,-List.getD_eq_getElem?_getD,-List.map_map,f82,p1,p2,p3,Bk]
theorem Bap (b:Ba) (r:List Bm) (hb:BaG b) (ha: ∀x∈r,x.length≤40) (hr:Cc b ([72,71,69,84,65,76,76]::r)=[]):Be (ev R) 82 [.d (Cv b), .d (Bf ([72,71,69,84,65,76,76]::r))]=some (Bk (Cp b [72,71,69,84,65,76,76] r)):=Bb fun H=>by
 refine Bi (fn:=f82) rfl rfl ?_
 have hl:=Bs hr
 have wv:Bh [72,71,69,84,65,76,76]=(2,2,5):=rfl
 rw[wv] at hl
 dsimp only at hl
 obtain⟨k,rfl⟩: ∃k,r=[k]:=by
  match r,hl with
  | [],hl=>exact absurd hl (by simp)
  | [k],_=>exact⟨k,rfl⟩
  |k::z::ts,hl=>exact absurd hl (by simp only[List.length_cons];omega)
 have hk:k.length≤40:=ha k (by simp)
 have p1:=Dc b ([[72,71,69,84,65,76,76],k]) hb.sm (by simp only[List.length_cons,List.length_nil];omega) (by simp)
 rw[hr] at p1
 have p2:=C9 [72,71,69,84,65,76,76]
 rw[wv] at p2
 have p3:=Xm b k hb hk
 have re:Cp b [72,71,69,84,65,76,76] [k]=N1 b k:=rfl
 rw[re]
 generalize N1 b k=P at*
 simp only[Bf,List.map_cons,List.map_nil] at p1 p3
 simp(maxSteps:=1000000) [Ca,-List.getD_eq_getElem?_getD,-List.map_map,f82,p1,p2,p3,Bk]
theorem Bj9 (b:Ba) (r:List Bm) (hb:BaG b) (ha: ∀x∈r,x.length≤40) (hr:Cc b ([72,76,69,78]::r)=[]):Be (ev R) 82 [.d (Cv b), .d (Bf ([72,76,69,78]::r))]=some (Bk (Cp b [72,76,69,78] r)):=Bb fun H=>by
 refine Bi (fn:=f82) rfl rfl ?_
 have hl:=Bs hr
 have wv:Bh [72,76,69,78]=(2,2,5):=rfl
 rw[wv] at hl
 dsimp only at hl
 obtain⟨k,rfl⟩: ∃k,r=[k]:=by
  match r,hl with
  | [],hl=>exact absurd hl (by simp)
  | [k],_=>exact⟨k,rfl⟩
  |k::z::ts,hl=>exact absurd hl (by simp only[List.length_cons];omega)
 have hk:k.length≤40:=ha k (by simp)
 have p1:=Dc b ([[72,76,69,78],k]) hb.sm (by simp only[List.length_cons,List.length_nil];omega) (by simp)
 rw[hr] at p1
 have p2:=C9 [72,76,69,78]
 rw[wv] at p2
 have p3:=Be8 b k hb hk
 have re:Cp b [72,76,69,78] [k]=Bcf b k:=rfl
 rw[re]
 generalize Bcf b k=P at*
 simp only[Bf,List.map_cons,List.map_nil] at p1 p3
 simp(maxSteps:=1000000) [Ca,-List.getD_eq_getElem?_getD,-List.map_map,f82,p1,p2,p3,Bk]
theorem Baq (b:Ba) (r:List Bm) (hb:BaG b) (ha: ∀x∈r,x.length≤40) (hr:Cc b ([72,73,78,67,82,66,89]::r)=[]):Be (ev R) 82 [.d (Cv b), .d (Bf ([72,73,78,67,82,66,89]::r))]=some (Bk (Cp b [72,73,78,67,82,66,89] r)):=Bb fun H=>by
 refine Bi (fn:=f82) rfl rfl ?_
 have hl:=Bs hr
 have wv:Bh [72,73,78,67,82,66,89]=(4,4,5):=rfl
 rw[wv] at hl
 dsimp only at hl
 obtain⟨k,x,y,rfl⟩: ∃k x y,r=[k,x,y]:=by
  match r,hl with
  | [],hl=>exact absurd hl (by simp)
  | [a0],hl=>exact absurd hl (by simp)
  | [a0,a1],hl=>exact absurd hl (by simp)
  | [k,x,y],_=>exact⟨k,x,y,rfl⟩
  |k::x::y::z::ts,hl=>exact absurd hl (by simp only[List.length_cons];omega)
 have hk:k.length≤40:=ha k (by simp)
 have hx:x.length≤40:=ha x (by simp)
 have hy:y.length≤40:=ha y (by simp)
 have p1:=Dc b ([[72,73,78,67,82,66,89],k,x,y]) hb.sm (by simp only[List.length_cons,List.length_nil];omega) (by simp)
 rw[hr] at p1
 have p2:=C9 [72,73,78,67,82,66,89]
 rw[wv] at p2
 have p3:=Xn b k x y hb hk hx hy
 have re:Cp b [72,73,78,67,82,66,89] [k,x,y]=Mi b k x y:=rfl
 rw[re]
 generalize Mi b k x y=P at*
 simp only[Bf,List.map_cons,List.map_nil] at p1 p3
 simp(maxSteps:=1000000) [Ca,-List.getD_eq_getElem?_getD,-List.map_map,f82,p1,p2,p3,Bk]
theorem Box (b:Ba) (r:List Bm) (hb:BaG b) (ha: ∀x∈r,x.length≤40) (hr:Cc b ([68,69,76]::r)=[]):Be (ev R) 82 [.d (Cv b), .d (Bf ([68,69,76]::r))]=some (Bk (Cp b [68,69,76] r)):=Bb fun H=>by
 refine Bi (fn:=f82) rfl rfl ?_
 have hl:=Bs hr
 have wv:Bh [68,69,76]=(2,8,0):=rfl
 rw[wv] at hl
 dsimp only at hl
 have p1:=Dc b ([68,69,76]::r) hb.sm (by simp only[List.length_cons,List.length_nil];omega) (by simp)
 rw[hr] at p1
 have p2:=C9 [68,69,76]
 rw[wv] at p2
 have p3:=Bi2 b r hb (by omega)
 have re:Cp b [68,69,76] r=Bjb b r:=rfl
 rw[re]
 generalize Bjb b r=P at*
 simp only[Bf,List.map_cons,List.map_nil] at p1 p3
 simp(maxSteps:=1000000) [Ca,-List.getD_eq_getElem?_getD,-List.map_map,f82,p1,p2,p3,Bk]
theorem Bdb (b:Ba) (r:List Bm) (hb:BaG b) (ha: ∀x∈r,x.length≤40) (hr:Cc b ([69,88,73,83,84,83]::r)=[]):Be (ev R) 82 [.d (Cv b), .d (Bf ([69,88,73,83,84,83]::r))]=some (Bk (Cp b [69,88,73,83,84,83] r)):=Bb fun H=>by
 refine Bi (fn:=f82) rfl rfl ?_
 have hl:=Bs hr
 have wv:Bh [69,88,73,83,84,83]=(2,8,0):=rfl
 rw[wv] at hl
 dsimp only at hl
 have p1:=Dc b ([69,88,73,83,84,83]::r) hb.sm (by simp only[List.length_cons,List.length_nil];omega) (by simp)
 rw[hr] at p1
 have p2:=C9 [69,88,73,83,84,83]
 rw[wv] at p2
 have p3:=Z8 b r hb (by omega)
 have re:Cp b [69,88,73,83,84,83] r=Pn b r:=rfl
 rw[re]
 generalize Pn b r=P at*
 simp only[Bf,List.map_cons,List.map_nil] at p1 p3
 simp(maxSteps:=1000000) [Ca,-List.getD_eq_getElem?_getD,-List.map_map,f82,p1,p2,p3,Bk]
theorem Bkk (b:Ba) (r:List Bm) (hb:BaG b) (ha: ∀x∈r,x.length≤40) (hr:Cc b ([84,89,80,69]::r)=[]):Be (ev R) 82 [.d (Cv b), .d (Bf ([84,89,80,69]::r))]=some (Bk (Cp b [84,89,80,69] r)):=Bb fun H=>by
 refine Bi (fn:=f82) rfl rfl ?_
 have hl:=Bs hr
 have wv:Bh [84,89,80,69]=(2,2,0):=rfl
 rw[wv] at hl
 dsimp only at hl
 obtain⟨k,rfl⟩: ∃k,r=[k]:=by
  match r,hl with
  | [],hl=>exact absurd hl (by simp)
  | [k],_=>exact⟨k,rfl⟩
  |k::z::ts,hl=>exact absurd hl (by simp only[List.length_cons];omega)
 have hk:k.length≤40:=ha k (by simp)
 have p1:=Dc b ([[84,89,80,69],k]) hb.sm (by simp only[List.length_cons,List.length_nil];omega) (by simp)
 rw[hr] at p1
 have p2:=C9 [84,89,80,69]
 rw[wv] at p2
 have p3:=Bfb b k hb hk
 have re:Cp b [84,89,80,69] [k]=Bcj b k:=rfl
 rw[re]
 generalize Bcj b k=P at*
 simp only[Bf,List.map_cons,List.map_nil] at p1 p3
 simp(maxSteps:=1000000) [Ca,-List.getD_eq_getElem?_getD,-List.map_map,f82,p1,p2,p3,Bk]
theorem Bo0 (b:Ba) (r:List Bm) (hb:BaG b) (ha: ∀x∈r,x.length≤40) (hr:Cc b ([84,84,76]::r)=[]):Be (ev R) 82 [.d (Cv b), .d (Bf ([84,84,76]::r))]=some (Bk (Cp b [84,84,76] r)):=Bb fun H=>by
 refine Bi (fn:=f82) rfl rfl ?_
 have hl:=Bs hr
 have wv:Bh [84,84,76]=(2,2,0):=rfl
 rw[wv] at hl
 dsimp only at hl
 obtain⟨k,rfl⟩: ∃k,r=[k]:=by
  match r,hl with
  | [],hl=>exact absurd hl (by simp)
  | [k],_=>exact⟨k,rfl⟩
  |k::z::ts,hl=>exact absurd hl (by simp only[List.length_cons];omega)
 have hk:k.length≤40:=ha k (by simp)
 have p1:=Dc b ([[84,84,76],k]) hb.sm (by simp only[List.length_cons,List.length_nil];omega) (by simp)
 rw[hr] at p1
 have p2:=C9 [84,84,76]
 rw[wv] at p2
 have p3:=Bi3 b k hb hk
 have re:Cp b [84,84,76] [k]=Bmk b k:=rfl
 rw[re]
 generalize Bmk b k=P at*
 simp only[Bf,List.map_cons,List.map_nil] at p1 p3
 simp(maxSteps:=1000000) [Ca,-List.getD_eq_getElem?_getD,-List.map_map,f82,p1,p2,p3,Bk]
theorem Bar (b:Ba) (r:List Bm) (hb:BaG b) (ha: ∀x∈r,x.length≤40) (hr:Cc b ([80,69,82,83,73,83,84]::r)=[]):Be (ev R) 82 [.d (Cv b), .d (Bf ([80,69,82,83,73,83,84]::r))]=some (Bk (Cp b [80,69,82,83,73,83,84] r)):=Bb fun H=>by
 refine Bi (fn:=f82) rfl rfl ?_
 have hl:=Bs hr
 have wv:Bh [80,69,82,83,73,83,84]=(2,2,0):=rfl
 rw[wv] at hl
 dsimp only at hl
 obtain⟨k,rfl⟩: ∃k,r=[k]:=by
  match r,hl with
  | [],hl=>exact absurd hl (by simp)
  | [k],_=>exact⟨k,rfl⟩
  |k::z::ts,hl=>exact absurd hl (by simp only[List.length_cons];omega)
 have hk:k.length≤40:=ha k (by simp)
 have p1:=Dc b ([[80,69,82,83,73,83,84],k]) hb.sm (by simp only[List.length_cons,List.length_nil];omega) (by simp)
 rw[hr] at p1
 have p2:=C9 [80,69,82,83,73,83,84]
 rw[wv] at p2
 have p3:=Xo b k hb hk
 have re:Cp b [80,69,82,83,73,83,84] [k]=Mj b k:=rfl
 rw[re]
 generalize Mj b k=P at*
 simp only[Bf,List.map_cons,List.map_nil] at p1 p3
 simp(maxSteps:=1000000) [Ca,-List.getD_eq_getElem?_getD,-List.map_map,f82,p1,p2,p3,Bk]
theorem Bdc (b:Ba) (r:List Bm) (hb:BaG b) (ha: ∀x∈r,x.length≤40) (hr:Cc b ([69,88,80,73,82,69]::r)=[]):Be (ev R) 82 [.d (Cv b), .d (Bf ([69,88,80,73,82,69]::r))]=some (Bk (Cp b [69,88,80,73,82,69] r)):=Bb fun H=>by
 refine Bi (fn:=f82) rfl rfl ?_
 have hl:=Bs hr
 have wv:Bh [69,88,80,73,82,69]=(3,3,0):=rfl
 rw[wv] at hl
 dsimp only at hl
 obtain⟨k,x,rfl⟩: ∃k x,r=[k,x]:=by
  match r,hl with
  | [],hl=>exact absurd hl (by simp)
  | [a0],hl=>exact absurd hl (by simp)
  | [k,x],_=>exact⟨k,x,rfl⟩
  |k::x::z::ts,hl=>exact absurd hl (by simp only[List.length_cons];omega)
 have hk:k.length≤40:=ha k (by simp)
 have hx:x.length≤40:=ha x (by simp)
 have p1:=Dc b ([[69,88,80,73,82,69],k,x]) hb.sm (by simp only[List.length_cons,List.length_nil];omega) (by simp)
 rw[hr] at p1
 have p2:=C9 [69,88,80,73,82,69]
 rw[wv] at p2
 have p3:=Z9 b k x hb hk hx
 have re:Cp b [69,88,80,73,82,69] [k,x]=Po b k x:=rfl
 rw[re]
 generalize Po b k x=P at*
 simp only[Bf,List.map_cons,List.map_nil] at p1 p3
 simp(maxSteps:=1000000) [Ca,-List.getD_eq_getElem?_getD,-List.map_map,f82,p1,p2,p3,Bk]
theorem Xu (b:Ba) (r:List Bm) (hb:BaG b) (ha: ∀x∈r,x.length≤40) (hr:Cc b ([69,88,80,73,82,69,65,84]::r)=[]):Be (ev R) 82 [.d (Cv b), .d (Bf ([69,88,80,73,82,69,65,84]::r))]=some (Bk (Cp b [69,88,80,73,82,69,65,84] r)):=Bb fun H=>by
 refine Bi (fn:=f82) rfl rfl ?_
 have hl:=Bs hr
 have wv:Bh [69,88,80,73,82,69,65,84]=(3,3,0):=rfl
 rw[wv] at hl
 dsimp only at hl
 obtain⟨k,x,rfl⟩: ∃k x,r=[k,x]:=by
  match r,hl with
  | [],hl=>exact absurd hl (by simp)
  | [a0],hl=>exact absurd hl (by simp)
  | [k,x],_=>exact⟨k,x,rfl⟩
  |k::x::z::ts,hl=>exact absurd hl (by simp only[List.length_cons];omega)
 have hk:k.length≤40:=ha k (by simp)
 have hx:x.length≤40:=ha x (by simp)
 have p1:=Dc b ([[69,88,80,73,82,69,65,84],k,x]) hb.sm (by simp only[List.length_cons,List.length_nil];omega) (by simp)
 rw[hr] at p1
 have p2:=C9 [69,88,80,73,82,69,65,84]
 rw[wv] at p2
 have p3:=Wr b k x hb hk hx
 have re:Cp b [69,88,80,73,82,69,65,84] [k,x]=K4 b k x:=rfl
 rw[re]
 generalize K4 b k x=P at*
 simp only[Bf,List.map_cons,List.map_nil] at p1 p3
 simp(maxSteps:=1000000) [Ca,-List.getD_eq_getElem?_getD,-List.map_map,f82,p1,p2,p3,Bk]
theorem Bdf (b:Ba) (r:List Bm) (hb:BaG b) (ha: ∀x∈r,x.length≤40) (hr:Cc b ([82,69,78,65,77,69]::r)=[]):Be (ev R) 82 [.d (Cv b), .d (Bf ([82,69,78,65,77,69]::r))]=some (Bk (Cp b [82,69,78,65,77,69] r)):=Bb fun H=>by
 refine Bi (fn:=f82) rfl rfl ?_
 have hl:=Bs hr
 have wv:Bh [82,69,78,65,77,69]=(3,3,0):=rfl
 rw[wv] at hl
 dsimp only at hl
 obtain⟨k,x,rfl⟩: ∃k x,r=[k,x]:=by
  match r,hl with
  | [],hl=>exact absurd hl (by simp)
  | [a0],hl=>exact absurd hl (by simp)
  | [k,x],_=>exact⟨k,x,rfl⟩
  |k::x::z::ts,hl=>exact absurd hl (by simp only[List.length_cons];omega)
 have hk:k.length≤40:=ha k (by simp)
 have hx:x.length≤40:=ha x (by simp)
 have p1:=Dc b ([[82,69,78,65,77,69],k,x]) hb.sm (by simp only[List.length_cons,List.length_nil];omega) (by simp)
 rw[hr] at p1
 have p2:=C9 [82,69,78,65,77,69]
 rw[wv] at p2
 have p3:=Baa b k x hb hk hx
 have re:Cp b [82,69,78,65,77,69] [k,x]=Pq b k x:=rfl
 rw[re]
 generalize Pq b k x=P at*
 simp only[Bf,List.map_cons,List.map_nil] at p1 p3
 simp(maxSteps:=1000000) [Ca,-List.getD_eq_getElem?_getD,-List.map_map,f82,p1,p2,p3,Bk]
theorem Bkc (b:Ba) (r:List Bm) (hb:BaG b) (ha: ∀x∈r,x.length≤40) (hr:Cc b ([75,69,89,83]::r)=[]):Be (ev R) 82 [.d (Cv b), .d (Bf ([75,69,89,83]::r))]=some (Bk (Cp b [75,69,89,83] r)):=Bb fun H=>by
 refine Bi (fn:=f82) rfl rfl ?_
 have hl:=Bs hr
 have wv:Bh [75,69,89,83]=(2,2,0):=rfl
 rw[wv] at hl
 dsimp only at hl
 obtain⟨k,rfl⟩: ∃k,r=[k]:=by
  match r,hl with
  | [],hl=>exact absurd hl (by simp)
  | [k],_=>exact⟨k,rfl⟩
  |k::z::ts,hl=>exact absurd hl (by simp only[List.length_cons];omega)
 have hk:k.length≤40:=ha k (by simp)
 have p1:=Dc b ([[75,69,89,83],k]) hb.sm (by simp only[List.length_cons,List.length_nil];omega) (by simp)
 rw[hr] at p1
 have p2:=C9 [75,69,89,83]
 rw[wv] at p2
 have p3:=Bfa b k hb hk
 have re:Cp b [75,69,89,83] [k]=Bcg b k:=rfl
 rw[re]
 generalize Bcg b k=P at*
 simp only[Bf,List.map_cons,List.map_nil] at p1 p3
 simp(maxSteps:=1000000) [Ca,-List.getD_eq_getElem?_getD,-List.map_map,f82,p1,p2,p3,Bk]
theorem Bda (b:Ba) (r:List Bm) (hb:BaG b) (ha: ∀x∈r,x.length≤40) (hr:Cc b ([68,66,83,73,90,69]::r)=[]):Be (ev R) 82 [.d (Cv b), .d (Bf ([68,66,83,73,90,69]::r))]=some (Bk (Cp b [68,66,83,73,90,69] r)):=Bb fun H=>by
 refine Bi (fn:=f82) rfl rfl ?_
 have hl:=Bs hr
 have wv:Bh [68,66,83,73,90,69]=(1,1,0):=rfl
 rw[wv] at hl
 dsimp only at hl
 obtain rfl:r=[]:=by
  match r,hl with
  | [],_=>rfl
  |k::ts,hl=>simp only[List.length_cons] at hl;omega
 have p1:=Dc b ([[68,66,83,73,90,69]]) hb.sm (by simp only[List.length_cons,List.length_nil];omega) (by simp)
 rw[hr] at p1
 have p2:=C9 [68,66,83,73,90,69]
 rw[wv] at p2
 have p3:=Z7 b hb
 have re:Cp b [68,66,83,73,90,69] []=Ri b:=rfl
 rw[re]
 generalize Ri b=P at*
 simp only[Bf,List.map_cons,List.map_nil] at p1 p3
 simp(maxSteps:=1000000) [Ca,-List.getD_eq_getElem?_getD,-List.map_map,f82,p1,p2,p3,Bk]
theorem Bf5 (b:Ba) (r:List Bm) (hb:BaG b) (ha: ∀x∈r,x.length≤40) (hr:Cc b ([70,76,85,83,72]::r)=[]):Be (ev R) 82 [.d (Cv b), .d (Bf ([70,76,85,83,72]::r))]=some (Bk (Cp b [70,76,85,83,72] r)):=Bb fun H=>by
 refine Bi (fn:=f82) rfl rfl ?_
 have hl:=Bs hr
 have wv:Bh [70,76,85,83,72]=(1,1,0):=rfl
 rw[wv] at hl
 dsimp only at hl
 obtain rfl:r=[]:=by
  match r,hl with
  | [],_=>rfl
  |k::ts,hl=>simp only[List.length_cons] at hl;omega
 have p1:=Dc b ([[70,76,85,83,72]]) hb.sm (by simp only[List.length_cons,List.length_nil];omega) (by simp)
 rw[hr] at p1
 have p2:=C9 [70,76,85,83,72]
 rw[wv] at p2
 have p3:=Bb8 b hb
 have re:Cp b [70,76,85,83,72] []=Si b:=rfl
 rw[re]
 generalize Si b=P at*
 simp only[Bf,List.map_cons,List.map_nil] at p1 p3
 simp(maxSteps:=1000000) [Ca,-List.getD_eq_getElem?_getD,-List.map_map,f82,p1,p2,p3,Bk]
theorem B1g (b:Ba) (args:List Bm) (hb:BaG b) (ha:Le args=true):Be (ev R) 82 [.d (Cv b), .d (Bf args)]=some (Bk (rDo b args)):=by
 have hl:=Wj ha
 have hx:=Bbv ha
 obtain⟨w,r,rfl⟩: ∃w r,args=w::r:=by
  cases args with
  |nil=>simp at hl
  |cons w r=>exact⟨w,r,rfl⟩
 by_cases hr:Cc b (w::r)=[]
 ·have hd:rDo b (w::r)=Cp b w r:=by unfold rDo;rw[if_pos hr];rfl
  rw[hd]
  have hx': ∀x∈r,x.length≤40:=fun x h=>hx x (by simp[h])
  by_cases h0:w=[71,69,84]
  ·subst h0;exact Boy b r hb hx' hr
  by_cases h1:w=[83,84,82,76,69,78]
  ·subst h1;exact Bdh b r hb hx' hr
  by_cases h2:w=[73,78,67,82]
  ·subst h2;exact Bkb b r hb hx' hr
  by_cases h3:w=[83,69,84]
  ·subst h3;exact Boz b r hb hx' hr
  by_cases h4:w=[65,80,80,69,78,68]
  ·subst h4;exact Bc9 b r hb hx' hr
  by_cases h5:w=[73,78,67,82,66,89]
  ·subst h5;exact Bdd b r hb hx' hr
  by_cases h6:w=[71,69,84,82,65,78,71,69]
  ·subst h6;exact Xv b r hb hx' hr
  by_cases h7:w=[76,80,85,83,72]
  ·subst h7;exact Bf6 b r hb hx' hr
  by_cases h8:w=[82,80,85,83,72]
  ·subst h8;exact Bf8 b r hb hx' hr
  by_cases h9:w=[76,80,79,80]
  ·subst h9;exact Bke b r hb hx' hr
  by_cases h10:w=[82,80,79,80]
  ·subst h10;exact Bkh b r hb hx' hr
  by_cases h11:w=[76,76,69,78]
  ·subst h11;exact Bkd b r hb hx' hr
  by_cases h12:w=[76,82,65,78,71,69]
  ·subst h12;exact Bde b r hb hx' hr
  by_cases h13:w=[76,84,82,73,77]
  ·subst h13;exact Bf7 b r hb hx' hr
  by_cases h14:w=[76,83,69,84]
  ·subst h14;exact Bkg b r hb hx' hr
  by_cases h15:w=[76,82,69,77]
  ·subst h15;exact Bkf b r hb hx' hr
  by_cases h16:w=[83,65,68,68]
  ·subst h16;exact Bki b r hb hx' hr
  by_cases h17:w=[83,82,69,77]
  ·subst h17;exact Bkj b r hb hx' hr
  by_cases h18:w=[83,77,69,77,66,69,82,83]
  ·subst h18;exact Xw b r hb hx' hr
  by_cases h19:w=[83,67,65,82,68]
  ·subst h19;exact Bf9 b r hb hx' hr
  by_cases h20:w=[83,73,83,77,69,77,66,69,82]
  ·subst h20;exact Xh b r hb hx' hr
  by_cases h21:w=[83,73,78,84,69,82]
  ·subst h21;exact Bdg b r hb hx' hr
  by_cases h22:w=[83,85,78,73,79,78]
  ·subst h22;exact Bdi b r hb hx' hr
  by_cases h23:w=[83,68,73,70,70]
  ·subst h23;exact Bga b r hb hx' hr
  by_cases h24:w=[90,65,68,68]
  ·subst h24;exact Bkl b r hb hx' hr
  by_cases h25:w=[90,73,78,67,82,66,89]
  ·subst h25;exact Bas b r hb hx' hr
  by_cases h26:w=[90,82,65,78,71,69]
  ·subst h26;exact Bdj b r hb hx' hr
  by_cases h27:w=[90,82,65,78,71,69,66,89,83,67,79,82,69]
  ·subst h27;exact Qs b r hb hx' hr
  by_cases h28:w=[90,82,69,77]
  ·subst h28;exact Bkm b r hb hx' hr
  by_cases h29:w=[90,83,67,79,82,69]
  ·subst h29;exact Bdk b r hb hx' hr
  by_cases h30:w=[90,82,65,78,75]
  ·subst h30;exact Bgc b r hb hx' hr
  by_cases h31:w=[90,67,65,82,68]
  ·subst h31;exact Bgb b r hb hx' hr
  by_cases h32:w=[72,83,69,84]
  ·subst h32;exact Bka b r hb hx' hr
  by_cases h33:w=[72,71,69,84]
  ·subst h33;exact Bj8 b r hb hx' hr
  by_cases h34:w=[72,68,69,76]
  ·subst h34;exact Bj7 b r hb hx' hr
  by_cases h35:w=[72,71,69,84,65,76,76]
  ·subst h35;exact Bap b r hb hx' hr
  by_cases h36:w=[72,76,69,78]
  ·subst h36;exact Bj9 b r hb hx' hr
  by_cases h37:w=[72,73,78,67,82,66,89]
  ·subst h37;exact Baq b r hb hx' hr
  by_cases h38:w=[68,69,76]
  ·subst h38;exact Box b r hb hx' hr
  by_cases h39:w=[69,88,73,83,84,83]
  ·subst h39;exact Bdb b r hb hx' hr
  by_cases h40:w=[84,89,80,69]
  ·subst h40;exact Bkk b r hb hx' hr
  by_cases h41:w=[84,84,76]
  ·subst h41;exact Bo0 b r hb hx' hr
  by_cases h42:w=[80,69,82,83,73,83,84]
  ·subst h42;exact Bar b r hb hx' hr
  by_cases h43:w=[69,88,80,73,82,69]
  ·subst h43;exact Bdc b r hb hx' hr
  by_cases h44:w=[69,88,80,73,82,69,65,84]
  ·subst h44;exact Xu b r hb hx' hr
  by_cases h45:w=[82,69,78,65,77,69]
  ·subst h45;exact Bdf b r hb hx' hr
  by_cases h46:w=[75,69,89,83]
  ·subst h46;exact Bkc b r hb hx' hr
  by_cases h47:w=[68,66,83,73,90,69]
  ·subst h47;exact Bda b r hb hx' hr
  by_cases h48:w=[70,76,85,83,72]
  ·subst h48;exact Bf5 b r hb hx' hr
  exfalso
  have hw:=Bdl w (eq_false h0) (eq_false h1) (eq_false h2) (eq_false h3) (eq_false h4) (eq_false h5) (eq_false h6) (eq_false h7) (eq_false h8) (eq_false h9) (eq_false h10) (eq_false h11) (eq_false h12) (eq_false h13) (eq_false h14) (eq_false h15) (eq_false h16) (eq_false h17) (eq_false h18) (eq_false h19) (eq_false h20) (eq_false h21) (eq_false h22) (eq_false h23) (eq_false h24) (eq_false h25) (eq_false h26) (eq_false h27) (eq_false h28) (eq_false h29) (eq_false h30) (eq_false h31) (eq_false h32) (eq_false h33) (eq_false h34) (eq_false h35) (eq_false h36) (eq_false h37) (eq_false h38) (eq_false h39) (eq_false h40) (eq_false h41) (eq_false h42) (eq_false h43) (eq_false h44) (eq_false h45) (eq_false h46) (eq_false h47) (eq_false h48)
  unfold Cc at hr
  rw[show(w::r).getD 0 []=w from rfl,hw] at hr
  simp at hr
 ·have hd:rDo b (w::r)=(b,Cu (Cc b (w::r))):=by unfold rDo;rw[if_neg hr]
  rw[hd]
  refine Bb fun H=> ?_
  refine Bi (fn:=f82) rfl rfl ?_
  have p1:=Dc b (w::r) hb.sm (by omega) (by simp)
  have p2:=Br (Cc b (w::r))
  generalize Cc b (w::r)=t at*
  simp only[Bf,List.map_cons,List.map_nil] at p1
  simp(maxSteps:=1000000) [Ca,-List.getD_eq_getElem?_getD,-List.map_map,f82,p1,p2,eq_false hr,Bk,Cu]
end Go.Proofs.YtjdmiodinhlchaaGreat.Code

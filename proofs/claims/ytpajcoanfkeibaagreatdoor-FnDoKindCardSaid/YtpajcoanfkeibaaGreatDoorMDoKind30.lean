/- Lemmas (several texts in one). -/
import Derived.Test.YtpajcoanfkeibaaGreatDoorMDoKind6
import Derived.Test.YtpajcoanfkeibaaGreatDoorMDoKind29
set_option maxRecDepth 100000
set_option maxHeartbeats 2000000
set_option linter.unusedSimpArgs false
set_option linter.unusedVariables false
open List renaming length_cons → Cdc, length_nil → Cdf, map_cons → Cdd, map_nil → Cde, getD_eq_getElem?_getD → Cda, map_map → Cdb
namespace Go.Proofs.YtpajcoanfkeibaaGreatDoor.Code
open Go Go.Ev Go.Proofs
def Dc (b:Ba) (w:Br) (r:List Br):Ba×Re:=
 if w=[71,69,84] then Btj b (r.getD 0 []) else
 if w=[83,84,82,76,69,78] then X7 b (r.getD 0 []) else
 if w=[73,78,67,82] then Bcm b (r.getD 0 []) [49] else
 if w=[83,69,84] then Bp0 b (r.getD 0 []) (r.getD 1 []) else
 if w=[65,80,80,69,78,68] then Ug b (r.getD 0 []) (r.getD 1 []) else
 if w=[73,78,67,82,66,89] then Bcm b (r.getD 0 []) (r.getD 1 []) else
 if w=[71,69,84,82,65,78,71,69] then Ny b (r.getD 0 []) (r.getD 1 []) (r.getD 2 []) else
 if w=[76,80,85,83,72] then Ti b (r.getD 0 []) true (r.drop 1) else
 if w=[82,80,85,83,72] then Ti b (r.getD 0 []) false (r.drop 1) else
 if w=[76,80,79,80] then Bcp b (r.getD 0 []) true else
 if w=[82,80,79,80] then Bcp b (r.getD 0 []) false else
 if w=[76,76,69,78] then Uz b (r.getD 0 []) else
 if w=[76,82,65,78,71,69] then Uj b (r.getD 0 []) (r.getD 1 []) (r.getD 2 []) else
 if w=[76,84,82,73,77] then Y6 b (r.getD 0 []) (r.getD 1 []) (r.getD 2 []) else
 if w=[76,83,69,84] then Bew b (r.getD 0 []) (r.getD 1 []) (r.getD 2 []) else
 if w=[76,82,69,77] then Bev b (r.getD 0 []) (r.getD 1 []) (r.getD 2 []) else
 if w=[83,65,68,68] then Bex b (r.getD 0 []) (r.drop 1) else
 if w=[83,82,69,77] then Bey b (r.getD 0 []) (r.drop 1) else
 if w=[83,77,69,77,66,69,82,83] then Qw b (r.getD 0 []) else
 if w=[83,67,65,82,68] then Uz b (r.getD 0 []) else
 if w=[83,73,83,77,69,77,66,69,82] then Pp b (r.getD 0 []) (r.getD 1 []) else
 if w=[83,73,78,84,69,82] then X6 b (r.getD 0 []) (r.getD 1 []) else
 if w=[83,85,78,73,79,78] then X8 b (r.getD 0 []) (r.getD 1 []) else
 if w=[83,68,73,70,70] then Bcq b (r.getD 0 []) (r.getD 1 []) else
 if w=[90,65,68,68] then Bez b (r.getD 0 []) (r.getD 1 []) (r.getD 2 []) else
 if w=[90,73,78,67,82,66,89] then Qx b (r.getD 0 []) (r.getD 1 []) (r.getD 2 []) else
 if w=[90,82,65,78,71,69] then Ul b (r.getD 0 []) (r.getD 1 []) (r.getD 2 []) else
 if w=[90,82,65,78,71,69,66,89,83,67,79,82,69] then Jv b (r.getD 0 []) (r.getD 1 []) (r.getD 2 []) else
 if w=[90,82,69,77] then Be0 b (r.getD 0 []) (r.getD 1 []) else
 if w=[90,83,67,79,82,69] then X9 b (r.getD 0 []) (r.getD 1 []) else
 if w=[90,82,65,78,75] then Bct b (r.getD 0 []) (r.getD 1 []) else
 if w=[90,67,65,82,68] then Bcs b (r.getD 0 []) else
 if w=[72,83,69,84] then Beu b (r.getD 0 []) (r.getD 1 []) (r.getD 2 []) else
 if w=[72,71,69,84] then Bis b (r.getD 0 []) (r.getD 1 []) else
 if w=[72,68,69,76] then Bet b (r.getD 0 []) (r.getD 1 []) else
 if w=[72,71,69,84,65,76,76] then Tg b (r.getD 0 []) else
 if w=[72,76,69,78] then Bit b (r.getD 0 []) else
 if w=[72,73,78,67,82,66,89] then Qu b (r.getD 0 []) (r.getD 1 []) (r.getD 2 []) else
 if w=[68,69,76] then Bpw b r else
 if w=[69,88,73,83,84,83] then Uh b r else
 if w=[84,89,80,69] then Biw b (r.getD 0 []) else
 if w=[84,84,76] then Btn b (r.getD 0 []) else
 if w=[80,69,82,83,73,83,84] then Qv b (r.getD 0 []) else
 if w=[69,88,80,73,82,69] then Ui b (r.getD 0 []) (r.getD 1 []) else
 if w=[69,88,80,73,82,69,65,84] then Nw b (r.getD 0 []) (r.getD 1 []) else
 if w=[82,69,78,65,77,69] then Uk b (r.getD 0 []) (r.getD 1 []) else
 if w=[75,69,89,83] then Biu b (r.getD 0 []) else
 if w=[68,66,83,73,90,69] then X0 b else
 if w=[70,76,85,83,72] then Y4 b else
 (b,Di [117,110,107,110,111,119,110])
def rDo (b:Ba) (args:List Br):Ba×Re:=if Cq b args=[] then Dc b (args.getD 0 []) args.tail else(b,Di (Cq b args))
theorem Ca {b:Ba} {w:Br} {r:List Br} (h:Cq b (w::r)=[]): (Bj w).1≤(r.length:Int)+1∧(r.length:Int)+1≤(Bj w).2.1:=by
 unfold Cq at h
 have e0: (w::r).getD 0 []=w:=rfl
 have e2: ((w::r).length:Int)=(r.length:Int)+1:=by rw[Cdc];omega
 rw[e0,e2] at h
 split at h
 ·simp at h
 ·split at h
  ·simp at h
  ·rename_i h2;exact Decidable.not_not.1 h2
theorem Bv4 (b:Ba) (r:List Br) (hb:BaG b) (ha: ∀x∈r,x.length≤40) (hr:Cq b ([71,69,84]::r)=[]):Be (ev R) 65 [.d (Df b), .d (Bf ([71,69,84]::r))]=some (Bo (Dc b [71,69,84] r)):=Bb fun H=>by
 refine Bh (fn:=f65) rfl rfl ?_
 have hl:=Ca hr
 have wv:Bj [71,69,84]=(2,2,1):=rfl
 rw[wv] at hl
 dsimp only at hl
 obtain⟨k,rfl⟩: ∃k,r=[k]:=by
  match r,hl with
  | [],hl=>exact absurd hl (by simp)
  | [k],_=>exact⟨k,rfl⟩
  |k::z::ts,hl=>exact absurd hl (by simp only[Cdc];omega)
 have hk:k.length≤40:=ha k (by simp)
 have p1:=D5 b ([[71,69,84],k]) hb.sm (by simp only[Cdc,Cdf];omega) (by simp)
 rw[hr] at p1
 have p2:=Dz [71,69,84]
 rw[wv] at p2
 have p3:=Bpj b k hb hk
 have re:Dc b [71,69,84] [k]=Btj b k:=rfl
 rw[re]
 generalize Btj b k=P at*
 simp only[Bf,Cdd,Cde] at p1 p3
 simp(maxSteps:=1000000) [Ci,-Cda,-Cdb,f65,p1,p2,p3,Bo]
theorem Bjv (b:Ba) (r:List Br) (hb:BaG b) (ha: ∀x∈r,x.length≤40) (hr:Cq b ([83,84,82,76,69,78]::r)=[]):Be (ev R) 65 [.d (Df b), .d (Bf ([83,84,82,76,69,78]::r))]=some (Bo (Dc b [83,84,82,76,69,78] r)):=Bb fun H=>by
 refine Bh (fn:=f65) rfl rfl ?_
 have hl:=Ca hr
 have wv:Bj [83,84,82,76,69,78]=(2,2,1):=rfl
 rw[wv] at hl
 dsimp only at hl
 obtain⟨k,rfl⟩: ∃k,r=[k]:=by
  match r,hl with
  | [],hl=>exact absurd hl (by simp)
  | [k],_=>exact⟨k,rfl⟩
  |k::z::ts,hl=>exact absurd hl (by simp only[Cdc];omega)
 have hk:k.length≤40:=ha k (by simp)
 have p1:=D5 b ([[83,84,82,76,69,78],k]) hb.sm (by simp only[Cdc,Cdf];omega) (by simp)
 rw[hr] at p1
 have p2:=Dz [83,84,82,76,69,78]
 rw[wv] at p2
 have p3:=Bf8 b k hb hk
 have re:Dc b [83,84,82,76,69,78] [k]=X7 b k:=rfl
 rw[re]
 generalize X7 b k=P at*
 simp only[Bf,Cdd,Cde] at p1 p3
 simp(maxSteps:=1000000) [Ci,-Cda,-Cdb,f65,p1,p2,p3,Bo]
theorem Bq1 (b:Ba) (r:List Br) (hb:BaG b) (ha: ∀x∈r,x.length≤40) (hr:Cq b ([73,78,67,82]::r)=[]):Be (ev R) 65 [.d (Df b), .d (Bf ([73,78,67,82]::r))]=some (Bo (Dc b [73,78,67,82] r)):=Bb fun H=>by
 refine Bh (fn:=f65) rfl rfl ?_
 have hl:=Ca hr
 have wv:Bj [73,78,67,82]=(2,2,1):=rfl
 rw[wv] at hl
 dsimp only at hl
 obtain⟨k,rfl⟩: ∃k,r=[k]:=by
  match r,hl with
  | [],hl=>exact absurd hl (by simp)
  | [k],_=>exact⟨k,rfl⟩
  |k::z::ts,hl=>exact absurd hl (by simp only[Cdc];omega)
 have hk:k.length≤40:=ha k (by simp)
 have p1:=D5 b ([[73,78,67,82],k]) hb.sm (by simp only[Cdc,Cdf];omega) (by simp)
 rw[hr] at p1
 have p2:=Dz [73,78,67,82]
 rw[wv] at p2
 have p3:=Bla b k hb hk
 have re:Dc b [73,78,67,82] [k]=Bcm b k [49]:=rfl
 rw[re]
 generalize Bcm b k [49]=P at*
 simp only[Bf,Cdd,Cde] at p1 p3
 simp(maxSteps:=1000000) [Ci,-Cda,-Cdb,f65,p1,p2,p3,Bo]
theorem Bv5 (b:Ba) (r:List Br) (hb:BaG b) (ha: ∀x∈r,x.length≤40) (hr:Cq b ([83,69,84]::r)=[]):Be (ev R) 65 [.d (Df b), .d (Bf ([83,69,84]::r))]=some (Bo (Dc b [83,69,84] r)):=Bb fun H=>by
 refine Bh (fn:=f65) rfl rfl ?_
 have hl:=Ca hr
 have wv:Bj [83,69,84]=(3,3,0):=rfl
 rw[wv] at hl
 dsimp only at hl
 obtain⟨k,x,rfl⟩: ∃k x,r=[k,x]:=by
  match r,hl with
  | [],hl=>exact absurd hl (by simp)
  | [a0],hl=>exact absurd hl (by simp)
  | [k,x],_=>exact⟨k,x,rfl⟩
  |k::x::z::ts,hl=>exact absurd hl (by simp only[Cdc];omega)
 have hk:k.length≤40:=ha k (by simp)
 have hx:x.length≤40:=ha x (by simp)
 have p1:=D5 b ([[83,69,84],k,x]) hb.sm (by simp only[Cdc,Cdf];omega) (by simp)
 rw[hr] at p1
 have p2:=Dz [83,69,84]
 rw[wv] at p2
 have p3:=Bpk b k x hb hk hx
 have re:Dc b [83,69,84] [k,x]=Bp0 b k x:=rfl
 rw[re]
 generalize Bp0 b k x=P at*
 simp only[Bf,Cdd,Cde] at p1 p3
 simp(maxSteps:=1000000) [Ci,-Cda,-Cdb,f65,p1,p2,p3,Bo]
theorem Bjn (b:Ba) (r:List Br) (hb:BaG b) (ha: ∀x∈r,x.length≤40) (hr:Cq b ([65,80,80,69,78,68]::r)=[]):Be (ev R) 65 [.d (Df b), .d (Bf ([65,80,80,69,78,68]::r))]=some (Bo (Dc b [65,80,80,69,78,68] r)):=Bb fun H=>by
 refine Bh (fn:=f65) rfl rfl ?_
 have hl:=Ca hr
 have wv:Bj [65,80,80,69,78,68]=(3,3,1):=rfl
 rw[wv] at hl
 dsimp only at hl
 obtain⟨k,x,rfl⟩: ∃k x,r=[k,x]:=by
  match r,hl with
  | [],hl=>exact absurd hl (by simp)
  | [a0],hl=>exact absurd hl (by simp)
  | [k,x],_=>exact⟨k,x,rfl⟩
  |k::x::z::ts,hl=>exact absurd hl (by simp only[Cdc];omega)
 have hk:k.length≤40:=ha k (by simp)
 have hx:x.length≤40:=ha x (by simp)
 have p1:=D5 b ([[65,80,80,69,78,68],k,x]) hb.sm (by simp only[Cdc,Cdf];omega) (by simp)
 rw[hr] at p1
 have p2:=Dz [65,80,80,69,78,68]
 rw[wv] at p2
 have p3:=Bf6 b k x hb hk hx
 have re:Dc b [65,80,80,69,78,68] [k,x]=Ug b k x:=rfl
 rw[re]
 generalize Ug b k x=P at*
 simp only[Bf,Cdd,Cde] at p1 p3
 simp(maxSteps:=1000000) [Ci,-Cda,-Cdb,f65,p1,p2,p3,Bo]
theorem Bjr (b:Ba) (r:List Br) (hb:BaG b) (ha: ∀x∈r,x.length≤40) (hr:Cq b ([73,78,67,82,66,89]::r)=[]):Be (ev R) 65 [.d (Df b), .d (Bf ([73,78,67,82,66,89]::r))]=some (Bo (Dc b [73,78,67,82,66,89] r)):=Bb fun H=>by
 refine Bh (fn:=f65) rfl rfl ?_
 have hl:=Ca hr
 have wv:Bj [73,78,67,82,66,89]=(3,3,1):=rfl
 rw[wv] at hl
 dsimp only at hl
 obtain⟨k,x,rfl⟩: ∃k x,r=[k,x]:=by
  match r,hl with
  | [],hl=>exact absurd hl (by simp)
  | [a0],hl=>exact absurd hl (by simp)
  | [k,x],_=>exact⟨k,x,rfl⟩
  |k::x::z::ts,hl=>exact absurd hl (by simp only[Cdc];omega)
 have hk:k.length≤40:=ha k (by simp)
 have hx:x.length≤40:=ha x (by simp)
 have p1:=D5 b ([[73,78,67,82,66,89],k,x]) hb.sm (by simp only[Cdc,Cdf];omega) (by simp)
 rw[hr] at p1
 have p2:=Dz [73,78,67,82,66,89]
 rw[wv] at p2
 have p3:=Bf7 b k x hb hk hx
 have re:Dc b [73,78,67,82,66,89] [k,x]=Bcm b k x:=rfl
 rw[re]
 generalize Bcm b k x=P at*
 simp only[Bf,Cdd,Cde] at p1 p3
 simp(maxSteps:=1000000) [Ci,-Cda,-Cdb,f65,p1,p2,p3,Bo]
theorem Bdr (b:Ba) (r:List Br) (hb:BaG b) (ha: ∀x∈r,x.length≤40) (hr:Cq b ([71,69,84,82,65,78,71,69]::r)=[]):Be (ev R) 65 [.d (Df b), .d (Bf ([71,69,84,82,65,78,71,69]::r))]=some (Bo (Dc b [71,69,84,82,65,78,71,69] r)):=Bb fun H=>by
 refine Bh (fn:=f65) rfl rfl ?_
 have hl:=Ca hr
 have wv:Bj [71,69,84,82,65,78,71,69]=(4,4,1):=rfl
 rw[wv] at hl
 dsimp only at hl
 obtain⟨k,x,y,rfl⟩: ∃k x y,r=[k,x,y]:=by
  match r,hl with
  | [],hl=>exact absurd hl (by simp)
  | [a0],hl=>exact absurd hl (by simp)
  | [a0,a1],hl=>exact absurd hl (by simp)
  | [k,x,y],_=>exact⟨k,x,y,rfl⟩
  |k::x::y::z::ts,hl=>exact absurd hl (by simp only[Cdc];omega)
 have hk:k.length≤40:=ha k (by simp)
 have hx:x.length≤40:=ha x (by simp)
 have hy:y.length≤40:=ha y (by simp)
 have p1:=D5 b ([[71,69,84,82,65,78,71,69],k,x,y]) hb.sm (by simp only[Cdc,Cdf];omega) (by simp)
 rw[hr] at p1
 have p2:=Dz [71,69,84,82,65,78,71,69]
 rw[wv] at p2
 have p3:=Bcg b k x y hb hk hx hy
 have re:Dc b [71,69,84,82,65,78,71,69] [k,x,y]=Ny b k x y:=rfl
 rw[re]
 generalize Ny b k x y=P at*
 simp only[Bf,Cdd,Cde] at p1 p3
 simp(maxSteps:=1000000) [Ci,-Cda,-Cdb,f65,p1,p2,p3,Bo]
theorem Bmh (b:Ba) (r:List Br) (hb:BaG b) (ha: ∀x∈r,x.length≤40) (hr:Cq b ([76,80,85,83,72]::r)=[]):Be (ev R) 65 [.d (Df b), .d (Bf ([76,80,85,83,72]::r))]=some (Bo (Dc b [76,80,85,83,72] r)):=Bb fun H=>by
 refine Bh (fn:=f65) rfl rfl ?_
 have hl:=Ca hr
 have wv:Bj [76,80,85,83,72]=(3,8,2):=rfl
 rw[wv] at hl
 dsimp only at hl
 obtain⟨k,ts,rfl⟩: ∃k ts,r=k::ts:=by
  match r,hl with
  | [],hl=>simp at hl
  |k::ts,_=>exact⟨k,ts,rfl⟩
 simp only[Cdc] at hl
 have hk:k.length≤40:=ha k (by simp)
 have c00: (0:Int)< (ts.length:Int)+1+1:=by omega
 have p1:=D5 b ([76,80,85,83,72]::k::ts) hb.sm (by simp only[Cdc,Cdf];omega) (by simp)
 rw[hr] at p1
 have p2:=Dz [76,80,85,83,72]
 rw[wv] at p2
 have p3:=Bid b k ts hb hk (by omega)
 have re:Dc b [76,80,85,83,72] (k::ts)=Ti b k true ts:=rfl
 rw[re]
 generalize Ti b k true ts=P at*
 simp only[Bf,Cdd,Cde] at p1 p3
 simp(maxSteps:=1000000) [Ci,-Cda,-Cdb,f65,p1,p2,p3,Bo,c00]
theorem Bmj (b:Ba) (r:List Br) (hb:BaG b) (ha: ∀x∈r,x.length≤40) (hr:Cq b ([82,80,85,83,72]::r)=[]):Be (ev R) 65 [.d (Df b), .d (Bf ([82,80,85,83,72]::r))]=some (Bo (Dc b [82,80,85,83,72] r)):=Bb fun H=>by
 refine Bh (fn:=f65) rfl rfl ?_
 have hl:=Ca hr
 have wv:Bj [82,80,85,83,72]=(3,8,2):=rfl
 rw[wv] at hl
 dsimp only at hl
 obtain⟨k,ts,rfl⟩: ∃k ts,r=k::ts:=by
  match r,hl with
  | [],hl=>simp at hl
  |k::ts,_=>exact⟨k,ts,rfl⟩
 simp only[Cdc] at hl
 have hk:k.length≤40:=ha k (by simp)
 have c00: (0:Int)< (ts.length:Int)+1+1:=by omega
 have p1:=D5 b ([82,80,85,83,72]::k::ts) hb.sm (by simp only[Cdc,Cdf];omega) (by simp)
 rw[hr] at p1
 have p2:=Dz [82,80,85,83,72]
 rw[wv] at p2
 have p3:=Bif b k ts hb hk (by omega)
 have re:Dc b [82,80,85,83,72] (k::ts)=Ti b k false ts:=rfl
 rw[re]
 generalize Ti b k false ts=P at*
 simp only[Bf,Cdd,Cde] at p1 p3
 simp(maxSteps:=1000000) [Ci,-Cda,-Cdb,f65,p1,p2,p3,Bo,c00]
theorem Bq4 (b:Ba) (r:List Br) (hb:BaG b) (ha: ∀x∈r,x.length≤40) (hr:Cq b ([76,80,79,80]::r)=[]):Be (ev R) 65 [.d (Df b), .d (Bf ([76,80,79,80]::r))]=some (Bo (Dc b [76,80,79,80] r)):=Bb fun H=>by
 refine Bh (fn:=f65) rfl rfl ?_
 have hl:=Ca hr
 have wv:Bj [76,80,79,80]=(2,2,2):=rfl
 rw[wv] at hl
 dsimp only at hl
 obtain⟨k,rfl⟩: ∃k,r=[k]:=by
  match r,hl with
  | [],hl=>exact absurd hl (by simp)
  | [k],_=>exact⟨k,rfl⟩
  |k::z::ts,hl=>exact absurd hl (by simp only[Cdc];omega)
 have hk:k.length≤40:=ha k (by simp)
 have p1:=D5 b ([[76,80,79,80],k]) hb.sm (by simp only[Cdc,Cdf];omega) (by simp)
 rw[hr] at p1
 have p2:=Dz [76,80,79,80]
 rw[wv] at p2
 have p3:=Blc b k hb hk
 have re:Dc b [76,80,79,80] [k]=Bcp b k true:=rfl
 rw[re]
 generalize Bcp b k true=P at*
 simp only[Bf,Cdd,Cde] at p1 p3
 simp(maxSteps:=1000000) [Ci,-Cda,-Cdb,f65,p1,p2,p3,Bo]
theorem Bq7 (b:Ba) (r:List Br) (hb:BaG b) (ha: ∀x∈r,x.length≤40) (hr:Cq b ([82,80,79,80]::r)=[]):Be (ev R) 65 [.d (Df b), .d (Bf ([82,80,79,80]::r))]=some (Bo (Dc b [82,80,79,80] r)):=Bb fun H=>by
 refine Bh (fn:=f65) rfl rfl ?_
 have hl:=Ca hr
 have wv:Bj [82,80,79,80]=(2,2,2):=rfl
 rw[wv] at hl
 dsimp only at hl
 obtain⟨k,rfl⟩: ∃k,r=[k]:=by
  match r,hl with
  | [],hl=>exact absurd hl (by simp)
  | [k],_=>exact⟨k,rfl⟩
  |k::z::ts,hl=>exact absurd hl (by simp only[Cdc];omega)
 have hk:k.length≤40:=ha k (by simp)
 have p1:=D5 b ([[82,80,79,80],k]) hb.sm (by simp only[Cdc,Cdf];omega) (by simp)
 rw[hr] at p1
 have p2:=Dz [82,80,79,80]
 rw[wv] at p2
 have p3:=Blf b k hb hk
 have re:Dc b [82,80,79,80] [k]=Bcp b k false:=rfl
 rw[re]
 generalize Bcp b k false=P at*
 simp only[Bf,Cdd,Cde] at p1 p3
 simp(maxSteps:=1000000) [Ci,-Cda,-Cdb,f65,p1,p2,p3,Bo]
theorem Bq3 (b:Ba) (r:List Br) (hb:BaG b) (ha: ∀x∈r,x.length≤40) (hr:Cq b ([76,76,69,78]::r)=[]):Be (ev R) 65 [.d (Df b), .d (Bf ([76,76,69,78]::r))]=some (Bo (Dc b [76,76,69,78] r)):=Bb fun H=>by
 refine Bh (fn:=f65) rfl rfl ?_
 have hl:=Ca hr
 have wv:Bj [76,76,69,78]=(2,2,2):=rfl
 rw[wv] at hl
 dsimp only at hl
 obtain⟨k,rfl⟩: ∃k,r=[k]:=by
  match r,hl with
  | [],hl=>exact absurd hl (by simp)
  | [k],_=>exact⟨k,rfl⟩
  |k::z::ts,hl=>exact absurd hl (by simp only[Cdc];omega)
 have hk:k.length≤40:=ha k (by simp)
 have p1:=D5 b ([[76,76,69,78],k]) hb.sm (by simp only[Cdc,Cdf];omega) (by simp)
 rw[hr] at p1
 have p2:=Dz [76,76,69,78]
 rw[wv] at p2
 have p3:=Blb b k hb hk
 have re:Dc b [76,76,69,78] [k]=Uz b k:=rfl
 rw[re]
 generalize Uz b k=P at*
 simp only[Bf,Cdd,Cde] at p1 p3
 simp(maxSteps:=1000000) [Ci,-Cda,-Cdb,f65,p1,p2,p3,Bo]
theorem Bjs (b:Ba) (r:List Br) (hb:BaG b) (ha: ∀x∈r,x.length≤40) (hr:Cq b ([76,82,65,78,71,69]::r)=[]):Be (ev R) 65 [.d (Df b), .d (Bf ([76,82,65,78,71,69]::r))]=some (Bo (Dc b [76,82,65,78,71,69] r)):=Bb fun H=>by
 refine Bh (fn:=f65) rfl rfl ?_
 have hl:=Ca hr
 have wv:Bj [76,82,65,78,71,69]=(4,4,2):=rfl
 rw[wv] at hl
 dsimp only at hl
 obtain⟨k,x,y,rfl⟩: ∃k x y,r=[k,x,y]:=by
  match r,hl with
  | [],hl=>exact absurd hl (by simp)
  | [a0],hl=>exact absurd hl (by simp)
  | [a0,a1],hl=>exact absurd hl (by simp)
  | [k,x,y],_=>exact⟨k,x,y,rfl⟩
  |k::x::y::z::ts,hl=>exact absurd hl (by simp only[Cdc];omega)
 have hk:k.length≤40:=ha k (by simp)
 have hx:x.length≤40:=ha x (by simp)
 have hy:y.length≤40:=ha y (by simp)
 have p1:=D5 b ([[76,82,65,78,71,69],k,x,y]) hb.sm (by simp only[Cdc,Cdf];omega) (by simp)
 rw[hr] at p1
 have p2:=Dz [76,82,65,78,71,69]
 rw[wv] at p2
 have p3:=Bf9 b k x y hb hk hx hy
 have re:Dc b [76,82,65,78,71,69] [k,x,y]=Uj b k x y:=rfl
 rw[re]
 generalize Uj b k x y=P at*
 simp only[Bf,Cdd,Cde] at p1 p3
 simp(maxSteps:=1000000) [Ci,-Cda,-Cdb,f65,p1,p2,p3,Bo]
theorem Bmi (b:Ba) (r:List Br) (hb:BaG b) (ha: ∀x∈r,x.length≤40) (hr:Cq b ([76,84,82,73,77]::r)=[]):Be (ev R) 65 [.d (Df b), .d (Bf ([76,84,82,73,77]::r))]=some (Bo (Dc b [76,84,82,73,77] r)):=Bb fun H=>by
 refine Bh (fn:=f65) rfl rfl ?_
 have hl:=Ca hr
 have wv:Bj [76,84,82,73,77]=(4,4,2):=rfl
 rw[wv] at hl
 dsimp only at hl
 obtain⟨k,x,y,rfl⟩: ∃k x y,r=[k,x,y]:=by
  match r,hl with
  | [],hl=>exact absurd hl (by simp)
  | [a0],hl=>exact absurd hl (by simp)
  | [a0,a1],hl=>exact absurd hl (by simp)
  | [k,x,y],_=>exact⟨k,x,y,rfl⟩
  |k::x::y::z::ts,hl=>exact absurd hl (by simp only[Cdc];omega)
 have hk:k.length≤40:=ha k (by simp)
 have hx:x.length≤40:=ha x (by simp)
 have hy:y.length≤40:=ha y (by simp)
 have p1:=D5 b ([[76,84,82,73,77],k,x,y]) hb.sm (by simp only[Cdc,Cdf];omega) (by simp)
 rw[hr] at p1
 have p2:=Dz [76,84,82,73,77]
 rw[wv] at p2
 have p3:=Bie b k x y hb hk hx hy
 have re:Dc b [76,84,82,73,77] [k,x,y]=Y6 b k x y:=rfl
 rw[re]
 generalize Y6 b k x y=P at*
 simp only[Bf,Cdd,Cde] at p1 p3
 simp(maxSteps:=1000000) [Ci,-Cda,-Cdb,f65,p1,p2,p3,Bo]
theorem Bq6 (b:Ba) (r:List Br) (hb:BaG b) (ha: ∀x∈r,x.length≤40) (hr:Cq b ([76,83,69,84]::r)=[]):Be (ev R) 65 [.d (Df b), .d (Bf ([76,83,69,84]::r))]=some (Bo (Dc b [76,83,69,84] r)):=Bb fun H=>by
 refine Bh (fn:=f65) rfl rfl ?_
 have hl:=Ca hr
 have wv:Bj [76,83,69,84]=(4,4,2):=rfl
 rw[wv] at hl
 dsimp only at hl
 obtain⟨k,x,y,rfl⟩: ∃k x y,r=[k,x,y]:=by
  match r,hl with
  | [],hl=>exact absurd hl (by simp)
  | [a0],hl=>exact absurd hl (by simp)
  | [a0,a1],hl=>exact absurd hl (by simp)
  | [k,x,y],_=>exact⟨k,x,y,rfl⟩
  |k::x::y::z::ts,hl=>exact absurd hl (by simp only[Cdc];omega)
 have hk:k.length≤40:=ha k (by simp)
 have hx:x.length≤40:=ha x (by simp)
 have hy:y.length≤40:=ha y (by simp)
 have p1:=D5 b ([[76,83,69,84],k,x,y]) hb.sm (by simp only[Cdc,Cdf];omega) (by simp)
 rw[hr] at p1
 have p2:=Dz [76,83,69,84]
 rw[wv] at p2
 have p3:=Ble b k x y hb hk hx hy
 have re:Dc b [76,83,69,84] [k,x,y]=Bew b k x y:=rfl
 rw[re]
 generalize Bew b k x y=P at*
 simp only[Bf,Cdd,Cde] at p1 p3
 simp(maxSteps:=1000000) [Ci,-Cda,-Cdb,f65,p1,p2,p3,Bo]
theorem Bq5 (b:Ba) (r:List Br) (hb:BaG b) (ha: ∀x∈r,x.length≤40) (hr:Cq b ([76,82,69,77]::r)=[]):Be (ev R) 65 [.d (Df b), .d (Bf ([76,82,69,77]::r))]=some (Bo (Dc b [76,82,69,77] r)):=Bb fun H=>by
 refine Bh (fn:=f65) rfl rfl ?_
 have hl:=Ca hr
 have wv:Bj [76,82,69,77]=(4,4,2):=rfl
 rw[wv] at hl
 dsimp only at hl
 obtain⟨k,x,y,rfl⟩: ∃k x y,r=[k,x,y]:=by
  match r,hl with
  | [],hl=>exact absurd hl (by simp)
  | [a0],hl=>exact absurd hl (by simp)
  | [a0,a1],hl=>exact absurd hl (by simp)
  | [k,x,y],_=>exact⟨k,x,y,rfl⟩
  |k::x::y::z::ts,hl=>exact absurd hl (by simp only[Cdc];omega)
 have hk:k.length≤40:=ha k (by simp)
 have hx:x.length≤40:=ha x (by simp)
 have hy:y.length≤40:=ha y (by simp)
 have p1:=D5 b ([[76,82,69,77],k,x,y]) hb.sm (by simp only[Cdc,Cdf];omega) (by simp)
 rw[hr] at p1
 have p2:=Dz [76,82,69,77]
 rw[wv] at p2
 have p3:=Bld b k x y hb hk hx hy
 have re:Dc b [76,82,69,77] [k,x,y]=Bev b k x y:=rfl
 rw[re]
 generalize Bev b k x y=P at*
 simp only[Bf,Cdd,Cde] at p1 p3
 simp(maxSteps:=1000000) [Ci,-Cda,-Cdb,f65,p1,p2,p3,Bo]
theorem Bq8 (b:Ba) (r:List Br) (hb:BaG b) (ha: ∀x∈r,x.length≤40) (hr:Cq b ([83,65,68,68]::r)=[]):Be (ev R) 65 [.d (Df b), .d (Bf ([83,65,68,68]::r))]=some (Bo (Dc b [83,65,68,68] r)):=Bb fun H=>by
 refine Bh (fn:=f65) rfl rfl ?_
 have hl:=Ca hr
 have wv:Bj [83,65,68,68]=(3,8,3):=rfl
 rw[wv] at hl
 dsimp only at hl
 obtain⟨k,ts,rfl⟩: ∃k ts,r=k::ts:=by
  match r,hl with
  | [],hl=>simp at hl
  |k::ts,_=>exact⟨k,ts,rfl⟩
 simp only[Cdc] at hl
 have hk:k.length≤40:=ha k (by simp)
 have c00: (0:Int)< (ts.length:Int)+1+1:=by omega
 have p1:=D5 b ([83,65,68,68]::k::ts) hb.sm (by simp only[Cdc,Cdf];omega) (by simp)
 rw[hr] at p1
 have p2:=Dz [83,65,68,68]
 rw[wv] at p2
 have p3:=Blg b k ts hb hk (by omega)
 have re:Dc b [83,65,68,68] (k::ts)=Bex b k ts:=rfl
 rw[re]
 generalize Bex b k ts=P at*
 simp only[Bf,Cdd,Cde] at p1 p3
 simp(maxSteps:=1000000) [Ci,-Cda,-Cdb,f65,p1,p2,p3,Bo,c00]
theorem Bq9 (b:Ba) (r:List Br) (hb:BaG b) (ha: ∀x∈r,x.length≤40) (hr:Cq b ([83,82,69,77]::r)=[]):Be (ev R) 65 [.d (Df b), .d (Bf ([83,82,69,77]::r))]=some (Bo (Dc b [83,82,69,77] r)):=Bb fun H=>by
 refine Bh (fn:=f65) rfl rfl ?_
 have hl:=Ca hr
 have wv:Bj [83,82,69,77]=(3,8,3):=rfl
 rw[wv] at hl
 dsimp only at hl
 obtain⟨k,ts,rfl⟩: ∃k ts,r=k::ts:=by
  match r,hl with
  | [],hl=>simp at hl
  |k::ts,_=>exact⟨k,ts,rfl⟩
 simp only[Cdc] at hl
 have hk:k.length≤40:=ha k (by simp)
 have c00: (0:Int)< (ts.length:Int)+1+1:=by omega
 have p1:=D5 b ([83,82,69,77]::k::ts) hb.sm (by simp only[Cdc,Cdf];omega) (by simp)
 rw[hr] at p1
 have p2:=Dz [83,82,69,77]
 rw[wv] at p2
 have p3:=Blh b k ts hb hk (by omega)
 have re:Dc b [83,82,69,77] (k::ts)=Bey b k ts:=rfl
 rw[re]
 generalize Bey b k ts=P at*
 simp only[Bf,Cdd,Cde] at p1 p3
 simp(maxSteps:=1000000) [Ci,-Cda,-Cdb,f65,p1,p2,p3,Bo,c00]
theorem Bds (b:Ba) (r:List Br) (hb:BaG b) (ha: ∀x∈r,x.length≤40) (hr:Cq b ([83,77,69,77,66,69,82,83]::r)=[]):Be (ev R) 65 [.d (Df b), .d (Bf ([83,77,69,77,66,69,82,83]::r))]=some (Bo (Dc b [83,77,69,77,66,69,82,83] r)):=Bb fun H=>by
 refine Bh (fn:=f65) rfl rfl ?_
 have hl:=Ca hr
 have wv:Bj [83,77,69,77,66,69,82,83]=(2,2,3):=rfl
 rw[wv] at hl
 dsimp only at hl
 obtain⟨k,rfl⟩: ∃k,r=[k]:=by
  match r,hl with
  | [],hl=>exact absurd hl (by simp)
  | [k],_=>exact⟨k,rfl⟩
  |k::z::ts,hl=>exact absurd hl (by simp only[Cdc];omega)
 have hk:k.length≤40:=ha k (by simp)
 have p1:=D5 b ([[83,77,69,77,66,69,82,83],k]) hb.sm (by simp only[Cdc,Cdf];omega) (by simp)
 rw[hr] at p1
 have p2:=Dz [83,77,69,77,66,69,82,83]
 rw[wv] at p2
 have p3:=Bch b k hb hk
 have re:Dc b [83,77,69,77,66,69,82,83] [k]=Qw b k:=rfl
 rw[re]
 generalize Qw b k=P at*
 simp only[Bf,Cdd,Cde] at p1 p3
 simp(maxSteps:=1000000) [Ci,-Cda,-Cdb,f65,p1,p2,p3,Bo]
theorem Bmk (b:Ba) (r:List Br) (hb:BaG b) (ha: ∀x∈r,x.length≤40) (hr:Cq b ([83,67,65,82,68]::r)=[]):Be (ev R) 65 [.d (Df b), .d (Bf ([83,67,65,82,68]::r))]=some (Bo (Dc b [83,67,65,82,68] r)):=Bb fun H=>by
 refine Bh (fn:=f65) rfl rfl ?_
 have hl:=Ca hr
 have wv:Bj [83,67,65,82,68]=(2,2,3):=rfl
 rw[wv] at hl
 dsimp only at hl
 obtain⟨k,rfl⟩: ∃k,r=[k]:=by
  match r,hl with
  | [],hl=>exact absurd hl (by simp)
  | [k],_=>exact⟨k,rfl⟩
  |k::z::ts,hl=>exact absurd hl (by simp only[Cdc];omega)
 have hk:k.length≤40:=ha k (by simp)
 have p1:=D5 b ([[83,67,65,82,68],k]) hb.sm (by simp only[Cdc,Cdf];omega) (by simp)
 rw[hr] at p1
 have p2:=Dz [83,67,65,82,68]
 rw[wv] at p2
 have p3:=Bih b k hb hk
 have re:Dc b [83,67,65,82,68] [k]=Uz b k:=rfl
 rw[re]
 generalize Uz b k=P at*
 simp only[Bf,Cdd,Cde] at p1 p3
 simp(maxSteps:=1000000) [Ci,-Cda,-Cdb,f65,p1,p2,p3,Bo]
theorem Bdb (b:Ba) (r:List Br) (hb:BaG b) (ha: ∀x∈r,x.length≤40) (hr:Cq b ([83,73,83,77,69,77,66,69,82]::r)=[]):Be (ev R) 65 [.d (Df b), .d (Bf ([83,73,83,77,69,77,66,69,82]::r))]=some (Bo (Dc b [83,73,83,77,69,77,66,69,82] r)):=Bb fun H=>by
 refine Bh (fn:=f65) rfl rfl ?_
 have hl:=Ca hr
 have wv:Bj [83,73,83,77,69,77,66,69,82]=(3,3,3):=rfl
 rw[wv] at hl
 dsimp only at hl
 obtain⟨k,x,rfl⟩: ∃k x,r=[k,x]:=by
  match r,hl with
  | [],hl=>exact absurd hl (by simp)
  | [a0],hl=>exact absurd hl (by simp)
  | [k,x],_=>exact⟨k,x,rfl⟩
  |k::x::z::ts,hl=>exact absurd hl (by simp only[Cdc];omega)
 have hk:k.length≤40:=ha k (by simp)
 have hx:x.length≤40:=ha x (by simp)
 have p1:=D5 b ([[83,73,83,77,69,77,66,69,82],k,x]) hb.sm (by simp only[Cdc,Cdf];omega) (by simp)
 rw[hr] at p1
 have p2:=Dz [83,73,83,77,69,77,66,69,82]
 rw[wv] at p2
 have p3:=Bak b k x hb hk hx
 have re:Dc b [83,73,83,77,69,77,66,69,82] [k,x]=Pp b k x:=rfl
 rw[re]
 generalize Pp b k x=P at*
 simp only[Bf,Cdd,Cde] at p1 p3
 simp(maxSteps:=1000000) [Ci,-Cda,-Cdb,f65,p1,p2,p3,Bo]
theorem Bju (b:Ba) (r:List Br) (hb:BaG b) (ha: ∀x∈r,x.length≤40) (hr:Cq b ([83,73,78,84,69,82]::r)=[]):Be (ev R) 65 [.d (Df b), .d (Bf ([83,73,78,84,69,82]::r))]=some (Bo (Dc b [83,73,78,84,69,82] r)):=Bb fun H=>by
 refine Bh (fn:=f65) rfl rfl ?_
 have hl:=Ca hr
 have wv:Bj [83,73,78,84,69,82]=(3,3,3):=rfl
 rw[wv] at hl
 dsimp only at hl
 obtain⟨k,x,rfl⟩: ∃k x,r=[k,x]:=by
  match r,hl with
  | [],hl=>exact absurd hl (by simp)
  | [a0],hl=>exact absurd hl (by simp)
  | [k,x],_=>exact⟨k,x,rfl⟩
  |k::x::z::ts,hl=>exact absurd hl (by simp only[Cdc];omega)
 have hk:k.length≤40:=ha k (by simp)
 have hx:x.length≤40:=ha x (by simp)
 have p1:=D5 b ([[83,73,78,84,69,82],k,x]) hb.sm (by simp only[Cdc,Cdf];omega) (by simp)
 rw[hr] at p1
 have p2:=Dz [83,73,78,84,69,82]
 rw[wv] at p2
 have p3:=Bga b k x hb hk hx
 have re:Dc b [83,73,78,84,69,82] [k,x]=X6 b k x:=rfl
 rw[re]
 generalize X6 b k x=P at*
 simp only[Bf,Cdd,Cde] at p1 p3
 simp(maxSteps:=1000000) [Ci,-Cda,-Cdb,f65,p1,p2,p3,Bo]
theorem Bjw (b:Ba) (r:List Br) (hb:BaG b) (ha: ∀x∈r,x.length≤40) (hr:Cq b ([83,85,78,73,79,78]::r)=[]):Be (ev R) 65 [.d (Df b), .d (Bf ([83,85,78,73,79,78]::r))]=some (Bo (Dc b [83,85,78,73,79,78] r)):=Bb fun H=>by
 refine Bh (fn:=f65) rfl rfl ?_
 have hl:=Ca hr
 have wv:Bj [83,85,78,73,79,78]=(3,3,3):=rfl
 rw[wv] at hl
 dsimp only at hl
 obtain⟨k,x,rfl⟩: ∃k x,r=[k,x]:=by
  match r,hl with
  | [],hl=>exact absurd hl (by simp)
  | [a0],hl=>exact absurd hl (by simp)
  | [k,x],_=>exact⟨k,x,rfl⟩
  |k::x::z::ts,hl=>exact absurd hl (by simp only[Cdc];omega)
 have hk:k.length≤40:=ha k (by simp)
 have hx:x.length≤40:=ha x (by simp)
 have p1:=D5 b ([[83,85,78,73,79,78],k,x]) hb.sm (by simp only[Cdc,Cdf];omega) (by simp)
 rw[hr] at p1
 have p2:=Dz [83,85,78,73,79,78]
 rw[wv] at p2
 have p3:=Bgb b k x hb hk hx
 have re:Dc b [83,85,78,73,79,78] [k,x]=X8 b k x:=rfl
 rw[re]
 generalize X8 b k x=P at*
 simp only[Bf,Cdd,Cde] at p1 p3
 simp(maxSteps:=1000000) [Ci,-Cda,-Cdb,f65,p1,p2,p3,Bo]
theorem Bml (b:Ba) (r:List Br) (hb:BaG b) (ha: ∀x∈r,x.length≤40) (hr:Cq b ([83,68,73,70,70]::r)=[]):Be (ev R) 65 [.d (Df b), .d (Bf ([83,68,73,70,70]::r))]=some (Bo (Dc b [83,68,73,70,70] r)):=Bb fun H=>by
 refine Bh (fn:=f65) rfl rfl ?_
 have hl:=Ca hr
 have wv:Bj [83,68,73,70,70]=(3,3,3):=rfl
 rw[wv] at hl
 dsimp only at hl
 obtain⟨k,x,rfl⟩: ∃k x,r=[k,x]:=by
  match r,hl with
  | [],hl=>exact absurd hl (by simp)
  | [a0],hl=>exact absurd hl (by simp)
  | [k,x],_=>exact⟨k,x,rfl⟩
  |k::x::z::ts,hl=>exact absurd hl (by simp only[Cdc];omega)
 have hk:k.length≤40:=ha k (by simp)
 have hx:x.length≤40:=ha x (by simp)
 have p1:=D5 b ([[83,68,73,70,70],k,x]) hb.sm (by simp only[Cdc,Cdf];omega) (by simp)
 rw[hr] at p1
 have p2:=Dz [83,68,73,70,70]
 rw[wv] at p2
 have p3:=Bii b k x hb hk hx
 have re:Dc b [83,68,73,70,70] [k,x]=Bcq b k x:=rfl
 rw[re]
 generalize Bcq b k x=P at*
 simp only[Bf,Cdd,Cde] at p1 p3
 simp(maxSteps:=1000000) [Ci,-Cda,-Cdb,f65,p1,p2,p3,Bo]
theorem Brb (b:Ba) (r:List Br) (hb:BaG b) (ha: ∀x∈r,x.length≤40) (hr:Cq b ([90,65,68,68]::r)=[]):Be (ev R) 65 [.d (Df b), .d (Bf ([90,65,68,68]::r))]=some (Bo (Dc b [90,65,68,68] r)):=Bb fun H=>by
 refine Bh (fn:=f65) rfl rfl ?_
 have hl:=Ca hr
 have wv:Bj [90,65,68,68]=(4,4,4):=rfl
 rw[wv] at hl
 dsimp only at hl
 obtain⟨k,x,y,rfl⟩: ∃k x y,r=[k,x,y]:=by
  match r,hl with
  | [],hl=>exact absurd hl (by simp)
  | [a0],hl=>exact absurd hl (by simp)
  | [a0,a1],hl=>exact absurd hl (by simp)
  | [k,x,y],_=>exact⟨k,x,y,rfl⟩
  |k::x::y::z::ts,hl=>exact absurd hl (by simp only[Cdc];omega)
 have hk:k.length≤40:=ha k (by simp)
 have hx:x.length≤40:=ha x (by simp)
 have hy:y.length≤40:=ha y (by simp)
 have p1:=D5 b ([[90,65,68,68],k,x,y]) hb.sm (by simp only[Cdc,Cdf];omega) (by simp)
 rw[hr] at p1
 have p2:=Dz [90,65,68,68]
 rw[wv] at p2
 have p3:=Bli b k x y hb hk hx hy
 have re:Dc b [90,65,68,68] [k,x,y]=Bez b k x y:=rfl
 rw[re]
 generalize Bez b k x y=P at*
 simp only[Bf,Cdd,Cde] at p1 p3
 simp(maxSteps:=1000000) [Ci,-Cda,-Cdb,f65,p1,p2,p3,Bo]
theorem Bg0 (b:Ba) (r:List Br) (hb:BaG b) (ha: ∀x∈r,x.length≤40) (hr:Cq b ([90,73,78,67,82,66,89]::r)=[]):Be (ev R) 65 [.d (Df b), .d (Bf ([90,73,78,67,82,66,89]::r))]=some (Bo (Dc b [90,73,78,67,82,66,89] r)):=Bb fun H=>by
 refine Bh (fn:=f65) rfl rfl ?_
 have hl:=Ca hr
 have wv:Bj [90,73,78,67,82,66,89]=(4,4,4):=rfl
 rw[wv] at hl
 dsimp only at hl
 obtain⟨k,x,y,rfl⟩: ∃k x y,r=[k,x,y]:=by
  match r,hl with
  | [],hl=>exact absurd hl (by simp)
  | [a0],hl=>exact absurd hl (by simp)
  | [a0,a1],hl=>exact absurd hl (by simp)
  | [k,x,y],_=>exact⟨k,x,y,rfl⟩
  |k::x::y::z::ts,hl=>exact absurd hl (by simp only[Cdc];omega)
 have hk:k.length≤40:=ha k (by simp)
 have hx:x.length≤40:=ha x (by simp)
 have hy:y.length≤40:=ha y (by simp)
 have p1:=D5 b ([[90,73,78,67,82,66,89],k,x,y]) hb.sm (by simp only[Cdc,Cdf];omega) (by simp)
 rw[hr] at p1
 have p2:=Dz [90,73,78,67,82,66,89]
 rw[wv] at p2
 have p3:=Bdi b k x y hb hk hx hy
 have re:Dc b [90,73,78,67,82,66,89] [k,x,y]=Qx b k x y:=rfl
 rw[re]
 generalize Qx b k x y=P at*
 simp only[Bf,Cdd,Cde] at p1 p3
 simp(maxSteps:=1000000) [Ci,-Cda,-Cdb,f65,p1,p2,p3,Bo]
theorem Bjx (b:Ba) (r:List Br) (hb:BaG b) (ha: ∀x∈r,x.length≤40) (hr:Cq b ([90,82,65,78,71,69]::r)=[]):Be (ev R) 65 [.d (Df b), .d (Bf ([90,82,65,78,71,69]::r))]=some (Bo (Dc b [90,82,65,78,71,69] r)):=Bb fun H=>by
 refine Bh (fn:=f65) rfl rfl ?_
 have hl:=Ca hr
 have wv:Bj [90,82,65,78,71,69]=(4,4,4):=rfl
 rw[wv] at hl
 dsimp only at hl
 obtain⟨k,x,y,rfl⟩: ∃k x y,r=[k,x,y]:=by
  match r,hl with
  | [],hl=>exact absurd hl (by simp)
  | [a0],hl=>exact absurd hl (by simp)
  | [a0,a1],hl=>exact absurd hl (by simp)
  | [k,x,y],_=>exact⟨k,x,y,rfl⟩
  |k::x::y::z::ts,hl=>exact absurd hl (by simp only[Cdc];omega)
 have hk:k.length≤40:=ha k (by simp)
 have hx:x.length≤40:=ha x (by simp)
 have hy:y.length≤40:=ha y (by simp)
 have p1:=D5 b ([[90,82,65,78,71,69],k,x,y]) hb.sm (by simp only[Cdc,Cdf];omega) (by simp)
 rw[hr] at p1
 have p2:=Dz [90,82,65,78,71,69]
 rw[wv] at p2
 have p3:=Bgc b k x y hb hk hx hy
 have re:Dc b [90,82,65,78,71,69] [k,x,y]=Ul b k x y:=rfl
 rw[re]
 generalize Ul b k x y=P at*
 simp only[Bf,Cdd,Cde] at p1 p3
 simp(maxSteps:=1000000) [Ci,-Cda,-Cdb,f65,p1,p2,p3,Bo]
theorem Ww (b:Ba) (r:List Br) (hb:BaG b) (ha: ∀x∈r,x.length≤40) (hr:Cq b ([90,82,65,78,71,69,66,89,83,67,79,82,69]::r)=[]):Be (ev R) 65 [.d (Df b), .d (Bf ([90,82,65,78,71,69,66,89,83,67,79,82,69]::r))]=some (Bo (Dc b [90,82,65,78,71,69,66,89,83,67,79,82,69] r)):=Bb fun H=>by
 refine Bh (fn:=f65) rfl rfl ?_
 have hl:=Ca hr
 have wv:Bj [90,82,65,78,71,69,66,89,83,67,79,82,69]=(4,4,4):=rfl
 rw[wv] at hl
 dsimp only at hl
 obtain⟨k,x,y,rfl⟩: ∃k x y,r=[k,x,y]:=by
  match r,hl with
  | [],hl=>exact absurd hl (by simp)
  | [a0],hl=>exact absurd hl (by simp)
  | [a0,a1],hl=>exact absurd hl (by simp)
  | [k,x,y],_=>exact⟨k,x,y,rfl⟩
  |k::x::y::z::ts,hl=>exact absurd hl (by simp only[Cdc];omega)
 have hk:k.length≤40:=ha k (by simp)
 have hx:x.length≤40:=ha x (by simp)
 have hy:y.length≤40:=ha y (by simp)
 have p1:=D5 b ([[90,82,65,78,71,69,66,89,83,67,79,82,69],k,x,y]) hb.sm (by simp only[Cdc,Cdf];omega) (by simp)
 rw[hr] at p1
 have p2:=Dz [90,82,65,78,71,69,66,89,83,67,79,82,69]
 rw[wv] at p2
 have p3:=Ur b k x y hb hk hx hy
 have re:Dc b [90,82,65,78,71,69,66,89,83,67,79,82,69] [k,x,y]=Jv b k x y:=rfl
 rw[re]
 generalize Jv b k x y=P at*
 simp only[Bf,Cdd,Cde] at p1 p3
 simp(maxSteps:=1000000) [Ci,-Cda,-Cdb,f65,p1,p2,p3,Bo]
theorem Brc (b:Ba) (r:List Br) (hb:BaG b) (ha: ∀x∈r,x.length≤40) (hr:Cq b ([90,82,69,77]::r)=[]):Be (ev R) 65 [.d (Df b), .d (Bf ([90,82,69,77]::r))]=some (Bo (Dc b [90,82,69,77] r)):=Bb fun H=>by
 refine Bh (fn:=f65) rfl rfl ?_
 have hl:=Ca hr
 have wv:Bj [90,82,69,77]=(3,3,4):=rfl
 rw[wv] at hl
 dsimp only at hl
 obtain⟨k,x,rfl⟩: ∃k x,r=[k,x]:=by
  match r,hl with
  | [],hl=>exact absurd hl (by simp)
  | [a0],hl=>exact absurd hl (by simp)
  | [k,x],_=>exact⟨k,x,rfl⟩
  |k::x::z::ts,hl=>exact absurd hl (by simp only[Cdc];omega)
 have hk:k.length≤40:=ha k (by simp)
 have hx:x.length≤40:=ha x (by simp)
 have p1:=D5 b ([[90,82,69,77],k,x]) hb.sm (by simp only[Cdc,Cdf];omega) (by simp)
 rw[hr] at p1
 have p2:=Dz [90,82,69,77]
 rw[wv] at p2
 have p3:=Blj b k x hb hk hx
 have re:Dc b [90,82,69,77] [k,x]=Be0 b k x:=rfl
 rw[re]
 generalize Be0 b k x=P at*
 simp only[Bf,Cdd,Cde] at p1 p3
 simp(maxSteps:=1000000) [Ci,-Cda,-Cdb,f65,p1,p2,p3,Bo]
theorem Bjy (b:Ba) (r:List Br) (hb:BaG b) (ha: ∀x∈r,x.length≤40) (hr:Cq b ([90,83,67,79,82,69]::r)=[]):Be (ev R) 65 [.d (Df b), .d (Bf ([90,83,67,79,82,69]::r))]=some (Bo (Dc b [90,83,67,79,82,69] r)):=Bb fun H=>by
 refine Bh (fn:=f65) rfl rfl ?_
 have hl:=Ca hr
 have wv:Bj [90,83,67,79,82,69]=(3,3,4):=rfl
 rw[wv] at hl
 dsimp only at hl
 obtain⟨k,x,rfl⟩: ∃k x,r=[k,x]:=by
  match r,hl with
  | [],hl=>exact absurd hl (by simp)
  | [a0],hl=>exact absurd hl (by simp)
  | [k,x],_=>exact⟨k,x,rfl⟩
  |k::x::z::ts,hl=>exact absurd hl (by simp only[Cdc];omega)
 have hk:k.length≤40:=ha k (by simp)
 have hx:x.length≤40:=ha x (by simp)
 have p1:=D5 b ([[90,83,67,79,82,69],k,x]) hb.sm (by simp only[Cdc,Cdf];omega) (by simp)
 rw[hr] at p1
 have p2:=Dz [90,83,67,79,82,69]
 rw[wv] at p2
 have p3:=Bgd b k x hb hk hx
 have re:Dc b [90,83,67,79,82,69] [k,x]=X9 b k x:=rfl
 rw[re]
 generalize X9 b k x=P at*
 simp only[Bf,Cdd,Cde] at p1 p3
 simp(maxSteps:=1000000) [Ci,-Cda,-Cdb,f65,p1,p2,p3,Bo]
theorem Bmn (b:Ba) (r:List Br) (hb:BaG b) (ha: ∀x∈r,x.length≤40) (hr:Cq b ([90,82,65,78,75]::r)=[]):Be (ev R) 65 [.d (Df b), .d (Bf ([90,82,65,78,75]::r))]=some (Bo (Dc b [90,82,65,78,75] r)):=Bb fun H=>by
 refine Bh (fn:=f65) rfl rfl ?_
 have hl:=Ca hr
 have wv:Bj [90,82,65,78,75]=(3,3,4):=rfl
 rw[wv] at hl
 dsimp only at hl
 obtain⟨k,x,rfl⟩: ∃k x,r=[k,x]:=by
  match r,hl with
  | [],hl=>exact absurd hl (by simp)
  | [a0],hl=>exact absurd hl (by simp)
  | [k,x],_=>exact⟨k,x,rfl⟩
  |k::x::z::ts,hl=>exact absurd hl (by simp only[Cdc];omega)
 have hk:k.length≤40:=ha k (by simp)
 have hx:x.length≤40:=ha x (by simp)
 have p1:=D5 b ([[90,82,65,78,75],k,x]) hb.sm (by simp only[Cdc,Cdf];omega) (by simp)
 rw[hr] at p1
 have p2:=Dz [90,82,65,78,75]
 rw[wv] at p2
 have p3:=Bik b k x hb hk hx
 have re:Dc b [90,82,65,78,75] [k,x]=Bct b k x:=rfl
 rw[re]
 generalize Bct b k x=P at*
 simp only[Bf,Cdd,Cde] at p1 p3
 simp(maxSteps:=1000000) [Ci,-Cda,-Cdb,f65,p1,p2,p3,Bo]
theorem Bmm (b:Ba) (r:List Br) (hb:BaG b) (ha: ∀x∈r,x.length≤40) (hr:Cq b ([90,67,65,82,68]::r)=[]):Be (ev R) 65 [.d (Df b), .d (Bf ([90,67,65,82,68]::r))]=some (Bo (Dc b [90,67,65,82,68] r)):=Bb fun H=>by
 refine Bh (fn:=f65) rfl rfl ?_
 have hl:=Ca hr
 have wv:Bj [90,67,65,82,68]=(2,2,4):=rfl
 rw[wv] at hl
 dsimp only at hl
 obtain⟨k,rfl⟩: ∃k,r=[k]:=by
  match r,hl with
  | [],hl=>exact absurd hl (by simp)
  | [k],_=>exact⟨k,rfl⟩
  |k::z::ts,hl=>exact absurd hl (by simp only[Cdc];omega)
 have hk:k.length≤40:=ha k (by simp)
 have p1:=D5 b ([[90,67,65,82,68],k]) hb.sm (by simp only[Cdc,Cdf];omega) (by simp)
 rw[hr] at p1
 have p2:=Dz [90,67,65,82,68]
 rw[wv] at p2
 have p3:=Bij b k hb hk
 have re:Dc b [90,67,65,82,68] [k]=Bcs b k:=rfl
 rw[re]
 generalize Bcs b k=P at*
 simp only[Bf,Cdd,Cde] at p1 p3
 simp(maxSteps:=1000000) [Ci,-Cda,-Cdb,f65,p1,p2,p3,Bo]
theorem Bq0 (b:Ba) (r:List Br) (hb:BaG b) (ha: ∀x∈r,x.length≤40) (hr:Cq b ([72,83,69,84]::r)=[]):Be (ev R) 65 [.d (Df b), .d (Bf ([72,83,69,84]::r))]=some (Bo (Dc b [72,83,69,84] r)):=Bb fun H=>by
 refine Bh (fn:=f65) rfl rfl ?_
 have hl:=Ca hr
 have wv:Bj [72,83,69,84]=(4,4,5):=rfl
 rw[wv] at hl
 dsimp only at hl
 obtain⟨k,x,y,rfl⟩: ∃k x y,r=[k,x,y]:=by
  match r,hl with
  | [],hl=>exact absurd hl (by simp)
  | [a0],hl=>exact absurd hl (by simp)
  | [a0,a1],hl=>exact absurd hl (by simp)
  | [k,x,y],_=>exact⟨k,x,y,rfl⟩
  |k::x::y::z::ts,hl=>exact absurd hl (by simp only[Cdc];omega)
 have hk:k.length≤40:=ha k (by simp)
 have hx:x.length≤40:=ha x (by simp)
 have hy:y.length≤40:=ha y (by simp)
 have p1:=D5 b ([[72,83,69,84],k,x,y]) hb.sm (by simp only[Cdc,Cdf];omega) (by simp)
 rw[hr] at p1
 have p2:=Dz [72,83,69,84]
 rw[wv] at p2
 have p3:=Bln b k x y hb hk hx hy
 have re:Dc b [72,83,69,84] [k,x,y]=Beu b k x y:=rfl
 rw[re]
 generalize Beu b k x y=P at*
 simp only[Bf,Cdd,Cde] at p1 p3
 simp(maxSteps:=1000000) [Ci,-Cda,-Cdb,f65,p1,p2,p3,Bo]
theorem Bqy (b:Ba) (r:List Br) (hb:BaG b) (ha: ∀x∈r,x.length≤40) (hr:Cq b ([72,71,69,84]::r)=[]):Be (ev R) 65 [.d (Df b), .d (Bf ([72,71,69,84]::r))]=some (Bo (Dc b [72,71,69,84] r)):=Bb fun H=>by
 refine Bh (fn:=f65) rfl rfl ?_
 have hl:=Ca hr
 have wv:Bj [72,71,69,84]=(3,3,5):=rfl
 rw[wv] at hl
 dsimp only at hl
 obtain⟨k,x,rfl⟩: ∃k x,r=[k,x]:=by
  match r,hl with
  | [],hl=>exact absurd hl (by simp)
  | [a0],hl=>exact absurd hl (by simp)
  | [k,x],_=>exact⟨k,x,rfl⟩
  |k::x::z::ts,hl=>exact absurd hl (by simp only[Cdc];omega)
 have hk:k.length≤40:=ha k (by simp)
 have hx:x.length≤40:=ha x (by simp)
 have p1:=D5 b ([[72,71,69,84],k,x]) hb.sm (by simp only[Cdc,Cdf];omega) (by simp)
 rw[hr] at p1
 have p2:=Dz [72,71,69,84]
 rw[wv] at p2
 have p3:=Bll b k x hb hk hx
 have re:Dc b [72,71,69,84] [k,x]=Bis b k x:=rfl
 rw[re]
 generalize Bis b k x=P at*
 simp only[Bf,Cdd,Cde] at p1 p3
 simp(maxSteps:=1000000) [Ci,-Cda,-Cdb,f65,p1,p2,p3,Bo]
theorem Bqx (b:Ba) (r:List Br) (hb:BaG b) (ha: ∀x∈r,x.length≤40) (hr:Cq b ([72,68,69,76]::r)=[]):Be (ev R) 65 [.d (Df b), .d (Bf ([72,68,69,76]::r))]=some (Bo (Dc b [72,68,69,76] r)):=Bb fun H=>by
 refine Bh (fn:=f65) rfl rfl ?_
 have hl:=Ca hr
 have wv:Bj [72,68,69,76]=(3,3,5):=rfl
 rw[wv] at hl
 dsimp only at hl
 obtain⟨k,x,rfl⟩: ∃k x,r=[k,x]:=by
  match r,hl with
  | [],hl=>exact absurd hl (by simp)
  | [a0],hl=>exact absurd hl (by simp)
  | [k,x],_=>exact⟨k,x,rfl⟩
  |k::x::z::ts,hl=>exact absurd hl (by simp only[Cdc];omega)
 have hk:k.length≤40:=ha k (by simp)
 have hx:x.length≤40:=ha x (by simp)
 have p1:=D5 b ([[72,68,69,76],k,x]) hb.sm (by simp only[Cdc,Cdf];omega) (by simp)
 rw[hr] at p1
 have p2:=Dz [72,68,69,76]
 rw[wv] at p2
 have p3:=Blk b k x hb hk hx
 have re:Dc b [72,68,69,76] [k,x]=Bet b k x:=rfl
 rw[re]
 generalize Bet b k x=P at*
 simp only[Bf,Cdd,Cde] at p1 p3
 simp(maxSteps:=1000000) [Ci,-Cda,-Cdb,f65,p1,p2,p3,Bo]
theorem Bgx (b:Ba) (r:List Br) (hb:BaG b) (ha: ∀x∈r,x.length≤40) (hr:Cq b ([72,71,69,84,65,76,76]::r)=[]):Be (ev R) 65 [.d (Df b), .d (Bf ([72,71,69,84,65,76,76]::r))]=some (Bo (Dc b [72,71,69,84,65,76,76] r)):=Bb fun H=>by
 refine Bh (fn:=f65) rfl rfl ?_
 have hl:=Ca hr
 have wv:Bj [72,71,69,84,65,76,76]=(2,2,5):=rfl
 rw[wv] at hl
 dsimp only at hl
 obtain⟨k,rfl⟩: ∃k,r=[k]:=by
  match r,hl with
  | [],hl=>exact absurd hl (by simp)
  | [k],_=>exact⟨k,rfl⟩
  |k::z::ts,hl=>exact absurd hl (by simp only[Cdc];omega)
 have hk:k.length≤40:=ha k (by simp)
 have p1:=D5 b ([[72,71,69,84,65,76,76],k]) hb.sm (by simp only[Cdc,Cdf];omega) (by simp)
 rw[hr] at p1
 have p2:=Dz [72,71,69,84,65,76,76]
 rw[wv] at p2
 have p3:=Bdj b k hb hk
 have re:Dc b [72,71,69,84,65,76,76] [k]=Tg b k:=rfl
 rw[re]
 generalize Tg b k=P at*
 simp only[Bf,Cdd,Cde] at p1 p3
 simp(maxSteps:=1000000) [Ci,-Cda,-Cdb,f65,p1,p2,p3,Bo]
theorem Bqz (b:Ba) (r:List Br) (hb:BaG b) (ha: ∀x∈r,x.length≤40) (hr:Cq b ([72,76,69,78]::r)=[]):Be (ev R) 65 [.d (Df b), .d (Bf ([72,76,69,78]::r))]=some (Bo (Dc b [72,76,69,78] r)):=Bb fun H=>by
 refine Bh (fn:=f65) rfl rfl ?_
 have hl:=Ca hr
 have wv:Bj [72,76,69,78]=(2,2,5):=rfl
 rw[wv] at hl
 dsimp only at hl
 obtain⟨k,rfl⟩: ∃k,r=[k]:=by
  match r,hl with
  | [],hl=>exact absurd hl (by simp)
  | [k],_=>exact⟨k,rfl⟩
  |k::z::ts,hl=>exact absurd hl (by simp only[Cdc];omega)
 have hk:k.length≤40:=ha k (by simp)
 have p1:=D5 b ([[72,76,69,78],k]) hb.sm (by simp only[Cdc,Cdf];omega) (by simp)
 rw[hr] at p1
 have p2:=Dz [72,76,69,78]
 rw[wv] at p2
 have p3:=Blm b k hb hk
 have re:Dc b [72,76,69,78] [k]=Bit b k:=rfl
 rw[re]
 generalize Bit b k=P at*
 simp only[Bf,Cdd,Cde] at p1 p3
 simp(maxSteps:=1000000) [Ci,-Cda,-Cdb,f65,p1,p2,p3,Bo]
theorem Bgy (b:Ba) (r:List Br) (hb:BaG b) (ha: ∀x∈r,x.length≤40) (hr:Cq b ([72,73,78,67,82,66,89]::r)=[]):Be (ev R) 65 [.d (Df b), .d (Bf ([72,73,78,67,82,66,89]::r))]=some (Bo (Dc b [72,73,78,67,82,66,89] r)):=Bb fun H=>by
 refine Bh (fn:=f65) rfl rfl ?_
 have hl:=Ca hr
 have wv:Bj [72,73,78,67,82,66,89]=(4,4,5):=rfl
 rw[wv] at hl
 dsimp only at hl
 obtain⟨k,x,y,rfl⟩: ∃k x y,r=[k,x,y]:=by
  match r,hl with
  | [],hl=>exact absurd hl (by simp)
  | [a0],hl=>exact absurd hl (by simp)
  | [a0,a1],hl=>exact absurd hl (by simp)
  | [k,x,y],_=>exact⟨k,x,y,rfl⟩
  |k::x::y::z::ts,hl=>exact absurd hl (by simp only[Cdc];omega)
 have hk:k.length≤40:=ha k (by simp)
 have hx:x.length≤40:=ha x (by simp)
 have hy:y.length≤40:=ha y (by simp)
 have p1:=D5 b ([[72,73,78,67,82,66,89],k,x,y]) hb.sm (by simp only[Cdc,Cdf];omega) (by simp)
 rw[hr] at p1
 have p2:=Dz [72,73,78,67,82,66,89]
 rw[wv] at p2
 have p3:=Bdk b k x y hb hk hx hy
 have re:Dc b [72,73,78,67,82,66,89] [k,x,y]=Qu b k x y:=rfl
 rw[re]
 generalize Qu b k x y=P at*
 simp only[Bf,Cdd,Cde] at p1 p3
 simp(maxSteps:=1000000) [Ci,-Cda,-Cdb,f65,p1,p2,p3,Bo]
theorem Bv3 (b:Ba) (r:List Br) (hb:BaG b) (ha: ∀x∈r,x.length≤40) (hr:Cq b ([68,69,76]::r)=[]):Be (ev R) 65 [.d (Df b), .d (Bf ([68,69,76]::r))]=some (Bo (Dc b [68,69,76] r)):=Bb fun H=>by
 refine Bh (fn:=f65) rfl rfl ?_
 have hl:=Ca hr
 have wv:Bj [68,69,76]=(2,8,0):=rfl
 rw[wv] at hl
 dsimp only at hl
 have p1:=D5 b ([68,69,76]::r) hb.sm (by simp only[Cdc,Cdf];omega) (by simp)
 rw[hr] at p1
 have p2:=Dz [68,69,76]
 rw[wv] at p2
 have p3:=Bpl b r hb (by omega)
 have re:Dc b [68,69,76] r=Bpw b r:=rfl
 rw[re]
 generalize Bpw b r=P at*
 simp only[Bf,Cdd,Cde] at p1 p3
 simp(maxSteps:=1000000) [Ci,-Cda,-Cdb,f65,p1,p2,p3,Bo]
theorem Bjp (b:Ba) (r:List Br) (hb:BaG b) (ha: ∀x∈r,x.length≤40) (hr:Cq b ([69,88,73,83,84,83]::r)=[]):Be (ev R) 65 [.d (Df b), .d (Bf ([69,88,73,83,84,83]::r))]=some (Bo (Dc b [69,88,73,83,84,83] r)):=Bb fun H=>by
 refine Bh (fn:=f65) rfl rfl ?_
 have hl:=Ca hr
 have wv:Bj [69,88,73,83,84,83]=(2,8,0):=rfl
 rw[wv] at hl
 dsimp only at hl
 have p1:=D5 b ([69,88,73,83,84,83]::r) hb.sm (by simp only[Cdc,Cdf];omega) (by simp)
 rw[hr] at p1
 have p2:=Dz [69,88,73,83,84,83]
 rw[wv] at p2
 have p3:=Bgf b r hb (by omega)
 have re:Dc b [69,88,73,83,84,83] r=Uh b r:=rfl
 rw[re]
 generalize Uh b r=P at*
 simp only[Bf,Cdd,Cde] at p1 p3
 simp(maxSteps:=1000000) [Ci,-Cda,-Cdb,f65,p1,p2,p3,Bo]
theorem Bra (b:Ba) (r:List Br) (hb:BaG b) (ha: ∀x∈r,x.length≤40) (hr:Cq b ([84,89,80,69]::r)=[]):Be (ev R) 65 [.d (Df b), .d (Bf ([84,89,80,69]::r))]=some (Bo (Dc b [84,89,80,69] r)):=Bb fun H=>by
 refine Bh (fn:=f65) rfl rfl ?_
 have hl:=Ca hr
 have wv:Bj [84,89,80,69]=(2,2,0):=rfl
 rw[wv] at hl
 dsimp only at hl
 obtain⟨k,rfl⟩: ∃k,r=[k]:=by
  match r,hl with
  | [],hl=>exact absurd hl (by simp)
  | [k],_=>exact⟨k,rfl⟩
  |k::z::ts,hl=>exact absurd hl (by simp only[Cdc];omega)
 have hk:k.length≤40:=ha k (by simp)
 have p1:=D5 b ([[84,89,80,69],k]) hb.sm (by simp only[Cdc,Cdf];omega) (by simp)
 rw[hr] at p1
 have p2:=Dz [84,89,80,69]
 rw[wv] at p2
 have p3:=Blp b k hb hk
 have re:Dc b [84,89,80,69] [k]=Biw b k:=rfl
 rw[re]
 generalize Biw b k=P at*
 simp only[Bf,Cdd,Cde] at p1 p3
 simp(maxSteps:=1000000) [Ci,-Cda,-Cdb,f65,p1,p2,p3,Bo]
theorem Bv6 (b:Ba) (r:List Br) (hb:BaG b) (ha: ∀x∈r,x.length≤40) (hr:Cq b ([84,84,76]::r)=[]):Be (ev R) 65 [.d (Df b), .d (Bf ([84,84,76]::r))]=some (Bo (Dc b [84,84,76] r)):=Bb fun H=>by
 refine Bh (fn:=f65) rfl rfl ?_
 have hl:=Ca hr
 have wv:Bj [84,84,76]=(2,2,0):=rfl
 rw[wv] at hl
 dsimp only at hl
 obtain⟨k,rfl⟩: ∃k,r=[k]:=by
  match r,hl with
  | [],hl=>exact absurd hl (by simp)
  | [k],_=>exact⟨k,rfl⟩
  |k::z::ts,hl=>exact absurd hl (by simp only[Cdc];omega)
 have hk:k.length≤40:=ha k (by simp)
 have p1:=D5 b ([[84,84,76],k]) hb.sm (by simp only[Cdc,Cdf];omega) (by simp)
 rw[hr] at p1
 have p2:=Dz [84,84,76]
 rw[wv] at p2
 have p3:=Bpm b k hb hk
 have re:Dc b [84,84,76] [k]=Btn b k:=rfl
 rw[re]
 generalize Btn b k=P at*
 simp only[Bf,Cdd,Cde] at p1 p3
 simp(maxSteps:=1000000) [Ci,-Cda,-Cdb,f65,p1,p2,p3,Bo]
theorem Bgz (b:Ba) (r:List Br) (hb:BaG b) (ha: ∀x∈r,x.length≤40) (hr:Cq b ([80,69,82,83,73,83,84]::r)=[]):Be (ev R) 65 [.d (Df b), .d (Bf ([80,69,82,83,73,83,84]::r))]=some (Bo (Dc b [80,69,82,83,73,83,84] r)):=Bb fun H=>by
 refine Bh (fn:=f65) rfl rfl ?_
 have hl:=Ca hr
 have wv:Bj [80,69,82,83,73,83,84]=(2,2,0):=rfl
 rw[wv] at hl
 dsimp only at hl
 obtain⟨k,rfl⟩: ∃k,r=[k]:=by
  match r,hl with
  | [],hl=>exact absurd hl (by simp)
  | [k],_=>exact⟨k,rfl⟩
  |k::z::ts,hl=>exact absurd hl (by simp only[Cdc];omega)
 have hk:k.length≤40:=ha k (by simp)
 have p1:=D5 b ([[80,69,82,83,73,83,84],k]) hb.sm (by simp only[Cdc,Cdf];omega) (by simp)
 rw[hr] at p1
 have p2:=Dz [80,69,82,83,73,83,84]
 rw[wv] at p2
 have p3:=Bdl b k hb hk
 have re:Dc b [80,69,82,83,73,83,84] [k]=Qv b k:=rfl
 rw[re]
 generalize Qv b k=P at*
 simp only[Bf,Cdd,Cde] at p1 p3
 simp(maxSteps:=1000000) [Ci,-Cda,-Cdb,f65,p1,p2,p3,Bo]
theorem Bjq (b:Ba) (r:List Br) (hb:BaG b) (ha: ∀x∈r,x.length≤40) (hr:Cq b ([69,88,80,73,82,69]::r)=[]):Be (ev R) 65 [.d (Df b), .d (Bf ([69,88,80,73,82,69]::r))]=some (Bo (Dc b [69,88,80,73,82,69] r)):=Bb fun H=>by
 refine Bh (fn:=f65) rfl rfl ?_
 have hl:=Ca hr
 have wv:Bj [69,88,80,73,82,69]=(3,3,0):=rfl
 rw[wv] at hl
 dsimp only at hl
 obtain⟨k,x,rfl⟩: ∃k x,r=[k,x]:=by
  match r,hl with
  | [],hl=>exact absurd hl (by simp)
  | [a0],hl=>exact absurd hl (by simp)
  | [k,x],_=>exact⟨k,x,rfl⟩
  |k::x::z::ts,hl=>exact absurd hl (by simp only[Cdc];omega)
 have hk:k.length≤40:=ha k (by simp)
 have hx:x.length≤40:=ha x (by simp)
 have p1:=D5 b ([[69,88,80,73,82,69],k,x]) hb.sm (by simp only[Cdc,Cdf];omega) (by simp)
 rw[hr] at p1
 have p2:=Dz [69,88,80,73,82,69]
 rw[wv] at p2
 have p3:=Bgg b k x hb hk hx
 have re:Dc b [69,88,80,73,82,69] [k,x]=Ui b k x:=rfl
 rw[re]
 generalize Ui b k x=P at*
 simp only[Bf,Cdd,Cde] at p1 p3
 simp(maxSteps:=1000000) [Ci,-Cda,-Cdb,f65,p1,p2,p3,Bo]
theorem Bdq (b:Ba) (r:List Br) (hb:BaG b) (ha: ∀x∈r,x.length≤40) (hr:Cq b ([69,88,80,73,82,69,65,84]::r)=[]):Be (ev R) 65 [.d (Df b), .d (Bf ([69,88,80,73,82,69,65,84]::r))]=some (Bo (Dc b [69,88,80,73,82,69,65,84] r)):=Bb fun H=>by
 refine Bh (fn:=f65) rfl rfl ?_
 have hl:=Ca hr
 have wv:Bj [69,88,80,73,82,69,65,84]=(3,3,0):=rfl
 rw[wv] at hl
 dsimp only at hl
 obtain⟨k,x,rfl⟩: ∃k x,r=[k,x]:=by
  match r,hl with
  | [],hl=>exact absurd hl (by simp)
  | [a0],hl=>exact absurd hl (by simp)
  | [k,x],_=>exact⟨k,x,rfl⟩
  |k::x::z::ts,hl=>exact absurd hl (by simp only[Cdc];omega)
 have hk:k.length≤40:=ha k (by simp)
 have hx:x.length≤40:=ha x (by simp)
 have p1:=D5 b ([[69,88,80,73,82,69,65,84],k,x]) hb.sm (by simp only[Cdc,Cdf];omega) (by simp)
 rw[hr] at p1
 have p2:=Dz [69,88,80,73,82,69,65,84]
 rw[wv] at p2
 have p3:=Bci b k x hb hk hx
 have re:Dc b [69,88,80,73,82,69,65,84] [k,x]=Nw b k x:=rfl
 rw[re]
 generalize Nw b k x=P at*
 simp only[Bf,Cdd,Cde] at p1 p3
 simp(maxSteps:=1000000) [Ci,-Cda,-Cdb,f65,p1,p2,p3,Bo]
theorem Bjt (b:Ba) (r:List Br) (hb:BaG b) (ha: ∀x∈r,x.length≤40) (hr:Cq b ([82,69,78,65,77,69]::r)=[]):Be (ev R) 65 [.d (Df b), .d (Bf ([82,69,78,65,77,69]::r))]=some (Bo (Dc b [82,69,78,65,77,69] r)):=Bb fun H=>by
 refine Bh (fn:=f65) rfl rfl ?_
 have hl:=Ca hr
 have wv:Bj [82,69,78,65,77,69]=(3,3,0):=rfl
 rw[wv] at hl
 dsimp only at hl
 obtain⟨k,x,rfl⟩: ∃k x,r=[k,x]:=by
  match r,hl with
  | [],hl=>exact absurd hl (by simp)
  | [a0],hl=>exact absurd hl (by simp)
  | [k,x],_=>exact⟨k,x,rfl⟩
  |k::x::z::ts,hl=>exact absurd hl (by simp only[Cdc];omega)
 have hk:k.length≤40:=ha k (by simp)
 have hx:x.length≤40:=ha x (by simp)
 have p1:=D5 b ([[82,69,78,65,77,69],k,x]) hb.sm (by simp only[Cdc,Cdf];omega) (by simp)
 rw[hr] at p1
 have p2:=Dz [82,69,78,65,77,69]
 rw[wv] at p2
 have p3:=Bgh b k x hb hk hx
 have re:Dc b [82,69,78,65,77,69] [k,x]=Uk b k x:=rfl
 rw[re]
 generalize Uk b k x=P at*
 simp only[Bf,Cdd,Cde] at p1 p3
 simp(maxSteps:=1000000) [Ci,-Cda,-Cdb,f65,p1,p2,p3,Bo]
theorem Bq2 (b:Ba) (r:List Br) (hb:BaG b) (ha: ∀x∈r,x.length≤40) (hr:Cq b ([75,69,89,83]::r)=[]):Be (ev R) 65 [.d (Df b), .d (Bf ([75,69,89,83]::r))]=some (Bo (Dc b [75,69,89,83] r)):=Bb fun H=>by
 refine Bh (fn:=f65) rfl rfl ?_
 have hl:=Ca hr
 have wv:Bj [75,69,89,83]=(2,2,0):=rfl
 rw[wv] at hl
 dsimp only at hl
 obtain⟨k,rfl⟩: ∃k,r=[k]:=by
  match r,hl with
  | [],hl=>exact absurd hl (by simp)
  | [k],_=>exact⟨k,rfl⟩
  |k::z::ts,hl=>exact absurd hl (by simp only[Cdc];omega)
 have hk:k.length≤40:=ha k (by simp)
 have p1:=D5 b ([[75,69,89,83],k]) hb.sm (by simp only[Cdc,Cdf];omega) (by simp)
 rw[hr] at p1
 have p2:=Dz [75,69,89,83]
 rw[wv] at p2
 have p3:=Blo b k hb hk
 have re:Dc b [75,69,89,83] [k]=Biu b k:=rfl
 rw[re]
 generalize Biu b k=P at*
 simp only[Bf,Cdd,Cde] at p1 p3
 simp(maxSteps:=1000000) [Ci,-Cda,-Cdb,f65,p1,p2,p3,Bo]
theorem Bjo (b:Ba) (r:List Br) (hb:BaG b) (ha: ∀x∈r,x.length≤40) (hr:Cq b ([68,66,83,73,90,69]::r)=[]):Be (ev R) 65 [.d (Df b), .d (Bf ([68,66,83,73,90,69]::r))]=some (Bo (Dc b [68,66,83,73,90,69] r)):=Bb fun H=>by
 refine Bh (fn:=f65) rfl rfl ?_
 have hl:=Ca hr
 have wv:Bj [68,66,83,73,90,69]=(1,1,0):=rfl
 rw[wv] at hl
 dsimp only at hl
 obtain rfl:r=[]:=by
  match r,hl with
  | [],_=>rfl
  |k::ts,hl=>simp only[Cdc] at hl;omega
 have p1:=D5 b ([[68,66,83,73,90,69]]) hb.sm (by simp only[Cdc,Cdf];omega) (by simp)
 rw[hr] at p1
 have p2:=Dz [68,66,83,73,90,69]
 rw[wv] at p2
 have p3:=Bge b hb
 have re:Dc b [68,66,83,73,90,69] []=X0 b:=rfl
 rw[re]
 generalize X0 b=P at*
 simp only[Bf,Cdd,Cde] at p1 p3
 simp(maxSteps:=1000000) [Ci,-Cda,-Cdb,f65,p1,p2,p3,Bo]
theorem Bmg (b:Ba) (r:List Br) (hb:BaG b) (ha: ∀x∈r,x.length≤40) (hr:Cq b ([70,76,85,83,72]::r)=[]):Be (ev R) 65 [.d (Df b), .d (Bf ([70,76,85,83,72]::r))]=some (Bo (Dc b [70,76,85,83,72] r)):=Bb fun H=>by
 refine Bh (fn:=f65) rfl rfl ?_
 have hl:=Ca hr
 have wv:Bj [70,76,85,83,72]=(1,1,0):=rfl
 rw[wv] at hl
 dsimp only at hl
 obtain rfl:r=[]:=by
  match r,hl with
  | [],_=>rfl
  |k::ts,hl=>simp only[Cdc] at hl;omega
 have p1:=D5 b ([[70,76,85,83,72]]) hb.sm (by simp only[Cdc,Cdf];omega) (by simp)
 rw[hr] at p1
 have p2:=Dz [70,76,85,83,72]
 rw[wv] at p2
 have p3:=Bil b hb
 have re:Dc b [70,76,85,83,72] []=Y4 b:=rfl
 rw[re]
 generalize Y4 b=P at*
 simp only[Bf,Cdd,Cde] at p1 p3
 simp(maxSteps:=1000000) [Ci,-Cda,-Cdb,f65,p1,p2,p3,Bo]
theorem Car (b:Ba) (args:List Br) (hb:BaG b) (ha:Pk args=true):Be (ev R) 65 [.d (Df b), .d (Bf args)]=some (Bo (rDo b args)):=by
 have hl:=Bb9 ha
 have hx:=Bh6 ha
 obtain⟨w,r,rfl⟩: ∃w r,args=w::r:=by
  cases args with
  |nil=>simp at hl
  |cons w r=>exact⟨w,r,rfl⟩
 by_cases hr:Cq b (w::r)=[]
 ·have hd:rDo b (w::r)=Dc b w r:=by unfold rDo;rw[if_pos hr];rfl
  rw[hd]
  have hx': ∀x∈r,x.length≤40:=fun x h=>hx x (by simp[h])
  by_cases h0:w=[71,69,84]
  ·subst h0;exact Bv4 b r hb hx' hr
  by_cases h1:w=[83,84,82,76,69,78]
  ·subst h1;exact Bjv b r hb hx' hr
  by_cases h2:w=[73,78,67,82]
  ·subst h2;exact Bq1 b r hb hx' hr
  by_cases h3:w=[83,69,84]
  ·subst h3;exact Bv5 b r hb hx' hr
  by_cases h4:w=[65,80,80,69,78,68]
  ·subst h4;exact Bjn b r hb hx' hr
  by_cases h5:w=[73,78,67,82,66,89]
  ·subst h5;exact Bjr b r hb hx' hr
  by_cases h6:w=[71,69,84,82,65,78,71,69]
  ·subst h6;exact Bdr b r hb hx' hr
  by_cases h7:w=[76,80,85,83,72]
  ·subst h7;exact Bmh b r hb hx' hr
  by_cases h8:w=[82,80,85,83,72]
  ·subst h8;exact Bmj b r hb hx' hr
  by_cases h9:w=[76,80,79,80]
  ·subst h9;exact Bq4 b r hb hx' hr
  by_cases h10:w=[82,80,79,80]
  ·subst h10;exact Bq7 b r hb hx' hr
  by_cases h11:w=[76,76,69,78]
  ·subst h11;exact Bq3 b r hb hx' hr
  by_cases h12:w=[76,82,65,78,71,69]
  ·subst h12;exact Bjs b r hb hx' hr
  by_cases h13:w=[76,84,82,73,77]
  ·subst h13;exact Bmi b r hb hx' hr
  by_cases h14:w=[76,83,69,84]
  ·subst h14;exact Bq6 b r hb hx' hr
  by_cases h15:w=[76,82,69,77]
  ·subst h15;exact Bq5 b r hb hx' hr
  by_cases h16:w=[83,65,68,68]
  ·subst h16;exact Bq8 b r hb hx' hr
  by_cases h17:w=[83,82,69,77]
  ·subst h17;exact Bq9 b r hb hx' hr
  by_cases h18:w=[83,77,69,77,66,69,82,83]
  ·subst h18;exact Bds b r hb hx' hr
  by_cases h19:w=[83,67,65,82,68]
  ·subst h19;exact Bmk b r hb hx' hr
  by_cases h20:w=[83,73,83,77,69,77,66,69,82]
  ·subst h20;exact Bdb b r hb hx' hr
  by_cases h21:w=[83,73,78,84,69,82]
  ·subst h21;exact Bju b r hb hx' hr
  by_cases h22:w=[83,85,78,73,79,78]
  ·subst h22;exact Bjw b r hb hx' hr
  by_cases h23:w=[83,68,73,70,70]
  ·subst h23;exact Bml b r hb hx' hr
  by_cases h24:w=[90,65,68,68]
  ·subst h24;exact Brb b r hb hx' hr
  by_cases h25:w=[90,73,78,67,82,66,89]
  ·subst h25;exact Bg0 b r hb hx' hr
  by_cases h26:w=[90,82,65,78,71,69]
  ·subst h26;exact Bjx b r hb hx' hr
  by_cases h27:w=[90,82,65,78,71,69,66,89,83,67,79,82,69]
  ·subst h27;exact Ww b r hb hx' hr
  by_cases h28:w=[90,82,69,77]
  ·subst h28;exact Brc b r hb hx' hr
  by_cases h29:w=[90,83,67,79,82,69]
  ·subst h29;exact Bjy b r hb hx' hr
  by_cases h30:w=[90,82,65,78,75]
  ·subst h30;exact Bmn b r hb hx' hr
  by_cases h31:w=[90,67,65,82,68]
  ·subst h31;exact Bmm b r hb hx' hr
  by_cases h32:w=[72,83,69,84]
  ·subst h32;exact Bq0 b r hb hx' hr
  by_cases h33:w=[72,71,69,84]
  ·subst h33;exact Bqy b r hb hx' hr
  by_cases h34:w=[72,68,69,76]
  ·subst h34;exact Bqx b r hb hx' hr
  by_cases h35:w=[72,71,69,84,65,76,76]
  ·subst h35;exact Bgx b r hb hx' hr
  by_cases h36:w=[72,76,69,78]
  ·subst h36;exact Bqz b r hb hx' hr
  by_cases h37:w=[72,73,78,67,82,66,89]
  ·subst h37;exact Bgy b r hb hx' hr
  by_cases h38:w=[68,69,76]
  ·subst h38;exact Bv3 b r hb hx' hr
  by_cases h39:w=[69,88,73,83,84,83]
  ·subst h39;exact Bjp b r hb hx' hr
  by_cases h40:w=[84,89,80,69]
  ·subst h40;exact Bra b r hb hx' hr
  by_cases h41:w=[84,84,76]
  ·subst h41;exact Bv6 b r hb hx' hr
  by_cases h42:w=[80,69,82,83,73,83,84]
  ·subst h42;exact Bgz b r hb hx' hr
  by_cases h43:w=[69,88,80,73,82,69]
  ·subst h43;exact Bjq b r hb hx' hr
  by_cases h44:w=[69,88,80,73,82,69,65,84]
  ·subst h44;exact Bdq b r hb hx' hr
  by_cases h45:w=[82,69,78,65,77,69]
  ·subst h45;exact Bjt b r hb hx' hr
  by_cases h46:w=[75,69,89,83]
  ·subst h46;exact Bq2 b r hb hx' hr
  by_cases h47:w=[68,66,83,73,90,69]
  ·subst h47;exact Bjo b r hb hx' hr
  by_cases h48:w=[70,76,85,83,72]
  ·subst h48;exact Bmg b r hb hx' hr
  exfalso
  have hw:=Bjz w (eq_false h0) (eq_false h1) (eq_false h2) (eq_false h3) (eq_false h4) (eq_false h5) (eq_false h6) (eq_false h7) (eq_false h8) (eq_false h9) (eq_false h10) (eq_false h11) (eq_false h12) (eq_false h13) (eq_false h14) (eq_false h15) (eq_false h16) (eq_false h17) (eq_false h18) (eq_false h19) (eq_false h20) (eq_false h21) (eq_false h22) (eq_false h23) (eq_false h24) (eq_false h25) (eq_false h26) (eq_false h27) (eq_false h28) (eq_false h29) (eq_false h30) (eq_false h31) (eq_false h32) (eq_false h33) (eq_false h34) (eq_false h35) (eq_false h36) (eq_false h37) (eq_false h38) (eq_false h39) (eq_false h40) (eq_false h41) (eq_false h42) (eq_false h43) (eq_false h44) (eq_false h45) (eq_false h46) (eq_false h47) (eq_false h48)
  unfold Cq at hr
  rw[show(w::r).getD 0 []=w from rfl,hw] at hr
  simp at hr
 ·have hd:rDo b (w::r)=(b,Di (Cq b (w::r))):=by unfold rDo;rw[if_neg hr]
  rw[hd]
  refine Bb fun H=> ?_
  refine Bh (fn:=f65) rfl rfl ?_
  have p1:=D5 b (w::r) hb.sm (by omega) (by simp)
  have p2:=Bu (Cq b (w::r))
  generalize Cq b (w::r)=t at*
  simp only[Bf,Cdd,Cde] at p1
  simp(maxSteps:=1000000) [Ci,-Cda,-Cdb,f65,p1,p2,eq_false hr,Bo,Di]
end Go.Proofs.YtpajcoanfkeibaaGreatDoor.Code

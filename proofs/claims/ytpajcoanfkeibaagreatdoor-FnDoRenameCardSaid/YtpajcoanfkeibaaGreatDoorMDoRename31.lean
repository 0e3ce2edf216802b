/- Lemmas (several texts in one). -/
import Derived.Test.YtpajcoanfkeibaaGreatDoorMDoRename6
import Derived.Test.YtpajcoanfkeibaaGreatDoorMDoRename30
set_option maxRecDepth 100000
set_option maxHeartbeats 2000000
set_option linter.unusedSimpArgs false
set_option linter.unusedVariables false
namespace Go.Proofs.YtpajcoanfkeibaaGreatDoor.Code
open Go Go.Ev Go.Proofs
def Db (b:Ba) (w:Bq) (r:List Bq):Ba×Re:=
 if w=[71,69,84] then Bsg b (r.getD 0 []) else
 if w=[83,84,82,76,69,78] then Xv b (r.getD 0 []) else
 if w=[73,78,67,82] then Bb8 b (r.getD 0 []) [49] else
 if w=[83,69,84] then Bpb b (r.getD 0 []) (r.getD 1 []) else
 if w=[65,80,80,69,78,68] then T9 b (r.getD 0 []) (r.getD 1 []) else
 if w=[73,78,67,82,66,89] then Bb8 b (r.getD 0 []) (r.getD 1 []) else
 if w=[71,69,84,82,65,78,71,69] then N9 b (r.getD 0 []) (r.getD 1 []) (r.getD 2 []) else
 if w=[76,80,85,83,72] then Tc b (r.getD 0 []) true (r.drop 1) else
 if w=[82,80,85,83,72] then Tc b (r.getD 0 []) false (r.drop 1) else
 if w=[76,80,79,80] then Bcb b (r.getD 0 []) true else
 if w=[82,80,79,80] then Bcb b (r.getD 0 []) false else
 if w=[76,76,69,78] then Uw b (r.getD 0 []) else
 if w=[76,82,65,78,71,69] then Uc b (r.getD 0 []) (r.getD 1 []) (r.getD 2 []) else
 if w=[76,84,82,73,77] then Yz b (r.getD 0 []) (r.getD 1 []) (r.getD 2 []) else
 if w=[76,83,69,84] then Bd9 b (r.getD 0 []) (r.getD 1 []) (r.getD 2 []) else
 if w=[76,82,69,77] then Bd8 b (r.getD 0 []) (r.getD 1 []) (r.getD 2 []) else
 if w=[83,65,68,68] then Bea b (r.getD 0 []) (r.drop 1) else
 if w=[83,82,69,77] then Beb b (r.getD 0 []) (r.drop 1) else
 if w=[83,77,69,77,66,69,82,83] then Q4 b (r.getD 0 []) else
 if w=[83,67,65,82,68] then Uw b (r.getD 0 []) else
 if w=[83,73,83,77,69,77,66,69,82] then Pp b (r.getD 0 []) (r.getD 1 []) else
 if w=[83,73,78,84,69,82] then Xu b (r.getD 0 []) (r.getD 1 []) else
 if w=[83,85,78,73,79,78] then Xw b (r.getD 0 []) (r.getD 1 []) else
 if w=[83,68,73,70,70] then Bcd b (r.getD 0 []) (r.getD 1 []) else
 if w=[90,65,68,68] then Bec b (r.getD 0 []) (r.getD 1 []) (r.getD 2 []) else
 if w=[90,73,78,67,82,66,89] then Q5 b (r.getD 0 []) (r.getD 1 []) (r.getD 2 []) else
 if w=[90,82,65,78,71,69] then Ue b (r.getD 0 []) (r.getD 1 []) (r.getD 2 []) else
 if w=[90,82,65,78,71,69,66,89,83,67,79,82,69] then Jz b (r.getD 0 []) (r.getD 1 []) (r.getD 2 []) else
 if w=[90,82,69,77] then Bed b (r.getD 0 []) (r.getD 1 []) else
 if w=[90,83,67,79,82,69] then Xx b (r.getD 0 []) (r.getD 1 []) else
 if w=[90,82,65,78,75] then Bcg b (r.getD 0 []) (r.getD 1 []) else
 if w=[90,67,65,82,68] then Bcf b (r.getD 0 []) else
 if w=[72,83,69,84] then Bd7 b (r.getD 0 []) (r.getD 1 []) (r.getD 2 []) else
 if w=[72,71,69,84] then Bhz b (r.getD 0 []) (r.getD 1 []) else
 if w=[72,68,69,76] then Bd6 b (r.getD 0 []) (r.getD 1 []) else
 if w=[72,71,69,84,65,76,76] then Ta b (r.getD 0 []) else
 if w=[72,76,69,78] then Bh0 b (r.getD 0 []) else
 if w=[72,73,78,67,82,66,89] then Q0 b (r.getD 0 []) (r.getD 1 []) (r.getD 2 []) else
 if w=[68,69,76] then Bo6 b r else
 if w=[69,88,73,83,84,83] then Ua b r else
 if w=[84,89,80,69] then Bh3 b (r.getD 0 []) else
 if w=[84,84,76] then Bsk b (r.getD 0 []) else
 if w=[80,69,82,83,73,83,84] then Q3 b (r.getD 0 []) else
 if w=[69,88,80,73,82,69] then Ub b (r.getD 0 []) (r.getD 1 []) else
 if w=[69,88,80,73,82,69,65,84] then N8 b (r.getD 0 []) (r.getD 1 []) else
 if w=[82,69,78,65,77,69] then Ud b (r.getD 0 []) (r.getD 1 []) else
 if w=[75,69,89,83] then Bh1 b (r.getD 0 []) else
 if w=[68,66,83,73,90,69] then Xr b else
 if w=[70,76,85,83,72] then Yx b else
 (b,Dh [117,110,107,110,111,119,110])
def rDo (b:Ba) (args:List Bq):Ba×Re:=if Cr b args=[] then Db b (args.getD 0 []) args.tail else(b,Dh (Cr b args))
theorem Ca {b:Ba} {w:Bq} {r:List Bq} (h:Cr b (w::r)=[]): (Bi w).1≤(r.length:Int)+1∧(r.length:Int)+1≤(Bi w).2.1:=by
 unfold Cr at h
 have e0: (w::r).getD 0 []=w:=rfl
 have e2: ((w::r).length:Int)=(r.length:Int)+1:=by rw[List.length_cons];omega
 rw[e0,e2] at h
 split at h
 ·simp at h
 ·split at h
  ·simp at h
  ·rename_i h2;exact Decidable.not_not.1 h2
theorem Bu1 (b:Ba) (r:List Bq) (hb:BaG b) (ha: ∀x∈r,x.length≤40) (hr:Cr b ([71,69,84]::r)=[]):Be (ev R) 65 [.d (Df b), .d (Bf ([71,69,84]::r))]=some (Bl (Db b [71,69,84] r)):=Bb fun H=>by
 refine Bh (fn:=f65) rfl rfl ?_
 have hl:=Ca hr
 have wv:Bi [71,69,84]=(2,2,1):=rfl
 rw[wv] at hl
 dsimp only at hl
 obtain⟨k,rfl⟩: ∃k,r=[k]:=by
  match r,hl with
  | [],hl=>exact absurd hl (by simp)
  | [k],_=>exact⟨k,rfl⟩
  |k::z::ts,hl=>exact absurd hl (by simp only[List.length_cons];omega)
 have hk:k.length≤40:=ha k (by simp)
 have p1:=D5 b ([[71,69,84],k]) hb.sm (by simp only[List.length_cons,List.length_nil];omega) (by simp)
 rw[hr] at p1
 have p2:=Dy [71,69,84]
 rw[wv] at p2
 have p3:=Bor b k hb hk
 have re:Db b [71,69,84] [k]=Bsg b k:=rfl
 rw[re]
 generalize Bsg b k=P at*
 simp only[Bf,List.map_cons,List.map_nil] at p1 p3
 simp(maxSteps:=1000000) [Ce,-List.getD_eq_getElem?_getD,-List.map_map,f65,p1,p2,p3,Bl]
theorem Bi3 (b:Ba) (r:List Bq) (hb:BaG b) (ha: ∀x∈r,x.length≤40) (hr:Cr b ([83,84,82,76,69,78]::r)=[]):Be (ev R) 65 [.d (Df b), .d (Bf ([83,84,82,76,69,78]::r))]=some (Bl (Db b [83,84,82,76,69,78] r)):=Bb fun H=>by
 refine Bh (fn:=f65) rfl rfl ?_
 have hl:=Ca hr
 have wv:Bi [83,84,82,76,69,78]=(2,2,1):=rfl
 rw[wv] at hl
 dsimp only at hl
 obtain⟨k,rfl⟩: ∃k,r=[k]:=by
  match r,hl with
  | [],hl=>exact absurd hl (by simp)
  | [k],_=>exact⟨k,rfl⟩
  |k::z::ts,hl=>exact absurd hl (by simp only[List.length_cons];omega)
 have hk:k.length≤40:=ha k (by simp)
 have p1:=D5 b ([[83,84,82,76,69,78],k]) hb.sm (by simp only[List.length_cons,List.length_nil];omega) (by simp)
 rw[hr] at p1
 have p2:=Dy [83,84,82,76,69,78]
 rw[wv] at p2
 have p3:=Bfk b k hb hk
 have re:Db b [83,84,82,76,69,78] [k]=Xv b k:=rfl
 rw[re]
 generalize Xv b k=P at*
 simp only[Bf,List.map_cons,List.map_nil] at p1 p3
 simp(maxSteps:=1000000) [Ce,-List.getD_eq_getElem?_getD,-List.map_map,f65,p1,p2,p3,Bl]
theorem Bp8 (b:Ba) (r:List Bq) (hb:BaG b) (ha: ∀x∈r,x.length≤40) (hr:Cr b ([73,78,67,82]::r)=[]):Be (ev R) 65 [.d (Df b), .d (Bf ([73,78,67,82]::r))]=some (Bl (Db b [73,78,67,82] r)):=Bb fun H=>by
 refine Bh (fn:=f65) rfl rfl ?_
 have hl:=Ca hr
 have wv:Bi [73,78,67,82]=(2,2,1):=rfl
 rw[wv] at hl
 dsimp only at hl
 obtain⟨k,rfl⟩: ∃k,r=[k]:=by
  match r,hl with
  | [],hl=>exact absurd hl (by simp)
  | [k],_=>exact⟨k,rfl⟩
  |k::z::ts,hl=>exact absurd hl (by simp only[List.length_cons];omega)
 have hk:k.length≤40:=ha k (by simp)
 have p1:=D5 b ([[73,78,67,82],k]) hb.sm (by simp only[List.length_cons,List.length_nil];omega) (by simp)
 rw[hr] at p1
 have p2:=Dy [73,78,67,82]
 rw[wv] at p2
 have p3:=Bkg b k hb hk
 have re:Db b [73,78,67,82] [k]=Bb8 b k [49]:=rfl
 rw[re]
 generalize Bb8 b k [49]=P at*
 simp only[Bf,List.map_cons,List.map_nil] at p1 p3
 simp(maxSteps:=1000000) [Ce,-List.getD_eq_getElem?_getD,-List.map_map,f65,p1,p2,p3,Bl]
theorem Bu2 (b:Ba) (r:List Bq) (hb:BaG b) (ha: ∀x∈r,x.length≤40) (hr:Cr b ([83,69,84]::r)=[]):Be (ev R) 65 [.d (Df b), .d (Bf ([83,69,84]::r))]=some (Bl (Db b [83,69,84] r)):=Bb fun H=>by
 refine Bh (fn:=f65) rfl rfl ?_
 have hl:=Ca hr
 have wv:Bi [83,69,84]=(3,3,0):=rfl
 rw[wv] at hl
 dsimp only at hl
 obtain⟨k,x,rfl⟩: ∃k x,r=[k,x]:=by
  match r,hl with
  | [],hl=>exact absurd hl (by simp)
  | [a0],hl=>exact absurd hl (by simp)
  | [k,x],_=>exact⟨k,x,rfl⟩
  |k::x::z::ts,hl=>exact absurd hl (by simp only[List.length_cons];omega)
 have hk:k.length≤40:=ha k (by simp)
 have hx:x.length≤40:=ha x (by simp)
 have p1:=D5 b ([[83,69,84],k,x]) hb.sm (by simp only[List.length_cons,List.length_nil];omega) (by simp)
 rw[hr] at p1
 have p2:=Dy [83,69,84]
 rw[wv] at p2
 have p3:=Bos b k x hb hk hx
 have re:Db b [83,69,84] [k,x]=Bpb b k x:=rfl
 rw[re]
 generalize Bpb b k x=P at*
 simp only[Bf,List.map_cons,List.map_nil] at p1 p3
 simp(maxSteps:=1000000) [Ce,-List.getD_eq_getElem?_getD,-List.map_map,f65,p1,p2,p3,Bl]
theorem Biv (b:Ba) (r:List Bq) (hb:BaG b) (ha: ∀x∈r,x.length≤40) (hr:Cr b ([65,80,80,69,78,68]::r)=[]):Be (ev R) 65 [.d (Df b), .d (Bf ([65,80,80,69,78,68]::r))]=some (Bl (Db b [65,80,80,69,78,68] r)):=Bb fun H=>by
 refine Bh (fn:=f65) rfl rfl ?_
 have hl:=Ca hr
 have wv:Bi [65,80,80,69,78,68]=(3,3,1):=rfl
 rw[wv] at hl
 dsimp only at hl
 obtain⟨k,x,rfl⟩: ∃k x,r=[k,x]:=by
  match r,hl with
  | [],hl=>exact absurd hl (by simp)
  | [a0],hl=>exact absurd hl (by simp)
  | [k,x],_=>exact⟨k,x,rfl⟩
  |k::x::z::ts,hl=>exact absurd hl (by simp only[List.length_cons];omega)
 have hk:k.length≤40:=ha k (by simp)
 have hx:x.length≤40:=ha x (by simp)
 have p1:=D5 b ([[65,80,80,69,78,68],k,x]) hb.sm (by simp only[List.length_cons,List.length_nil];omega) (by simp)
 rw[hr] at p1
 have p2:=Dy [65,80,80,69,78,68]
 rw[wv] at p2
 have p3:=Bfi b k x hb hk hx
 have re:Db b [65,80,80,69,78,68] [k,x]=T9 b k x:=rfl
 rw[re]
 generalize T9 b k x=P at*
 simp only[Bf,List.map_cons,List.map_nil] at p1 p3
 simp(maxSteps:=1000000) [Ce,-List.getD_eq_getElem?_getD,-List.map_map,f65,p1,p2,p3,Bl]
theorem Biz (b:Ba) (r:List Bq) (hb:BaG b) (ha: ∀x∈r,x.length≤40) (hr:Cr b ([73,78,67,82,66,89]::r)=[]):Be (ev R) 65 [.d (Df b), .d (Bf ([73,78,67,82,66,89]::r))]=some (Bl (Db b [73,78,67,82,66,89] r)):=Bb fun H=>by
 refine Bh (fn:=f65) rfl rfl ?_
 have hl:=Ca hr
 have wv:Bi [73,78,67,82,66,89]=(3,3,1):=rfl
 rw[wv] at hl
 dsimp only at hl
 obtain⟨k,x,rfl⟩: ∃k x,r=[k,x]:=by
  match r,hl with
  | [],hl=>exact absurd hl (by simp)
  | [a0],hl=>exact absurd hl (by simp)
  | [k,x],_=>exact⟨k,x,rfl⟩
  |k::x::z::ts,hl=>exact absurd hl (by simp only[List.length_cons];omega)
 have hk:k.length≤40:=ha k (by simp)
 have hx:x.length≤40:=ha x (by simp)
 have p1:=D5 b ([[73,78,67,82,66,89],k,x]) hb.sm (by simp only[List.length_cons,List.length_nil];omega) (by simp)
 rw[hr] at p1
 have p2:=Dy [73,78,67,82,66,89]
 rw[wv] at p2
 have p3:=Bfj b k x hb hk hx
 have re:Db b [73,78,67,82,66,89] [k,x]=Bb8 b k x:=rfl
 rw[re]
 generalize Bb8 b k x=P at*
 simp only[Bf,List.map_cons,List.map_nil] at p1 p3
 simp(maxSteps:=1000000) [Ce,-List.getD_eq_getElem?_getD,-List.map_map,f65,p1,p2,p3,Bl]
theorem Bc9 (b:Ba) (r:List Bq) (hb:BaG b) (ha: ∀x∈r,x.length≤40) (hr:Cr b ([71,69,84,82,65,78,71,69]::r)=[]):Be (ev R) 65 [.d (Df b), .d (Bf ([71,69,84,82,65,78,71,69]::r))]=some (Bl (Db b [71,69,84,82,65,78,71,69] r)):=Bb fun H=>by
 refine Bh (fn:=f65) rfl rfl ?_
 have hl:=Ca hr
 have wv:Bi [71,69,84,82,65,78,71,69]=(4,4,1):=rfl
 rw[wv] at hl
 dsimp only at hl
 obtain⟨k,x,y,rfl⟩: ∃k x y,r=[k,x,y]:=by
  match r,hl with
  | [],hl=>exact absurd hl (by simp)
  | [a0],hl=>exact absurd hl (by simp)
  | [a0,a1],hl=>exact absurd hl (by simp)
  | [k,x,y],_=>exact⟨k,x,y,rfl⟩
  |k::x::y::z::ts,hl=>exact absurd hl (by simp only[List.length_cons];omega)
 have hk:k.length≤40:=ha k (by simp)
 have hx:x.length≤40:=ha x (by simp)
 have hy:y.length≤40:=ha y (by simp)
 have p1:=D5 b ([[71,69,84,82,65,78,71,69],k,x,y]) hb.sm (by simp only[List.length_cons,List.length_nil];omega) (by simp)
 rw[hr] at p1
 have p2:=Dy [71,69,84,82,65,78,71,69]
 rw[wv] at p2
 have p3:=Bb2 b k x y hb hk hx hy
 have re:Db b [71,69,84,82,65,78,71,69] [k,x,y]=N9 b k x y:=rfl
 rw[re]
 generalize N9 b k x y=P at*
 simp only[Bf,List.map_cons,List.map_nil] at p1 p3
 simp(maxSteps:=1000000) [Ce,-List.getD_eq_getElem?_getD,-List.map_map,f65,p1,p2,p3,Bl]
theorem Blp (b:Ba) (r:List Bq) (hb:BaG b) (ha: ∀x∈r,x.length≤40) (hr:Cr b ([76,80,85,83,72]::r)=[]):Be (ev R) 65 [.d (Df b), .d (Bf ([76,80,85,83,72]::r))]=some (Bl (Db b [76,80,85,83,72] r)):=Bb fun H=>by
 refine Bh (fn:=f65) rfl rfl ?_
 have hl:=Ca hr
 have wv:Bi [76,80,85,83,72]=(3,8,2):=rfl
 rw[wv] at hl
 dsimp only at hl
 obtain⟨k,ts,rfl⟩: ∃k ts,r=k::ts:=by
  match r,hl with
  | [],hl=>simp at hl
  |k::ts,_=>exact⟨k,ts,rfl⟩
 simp only[List.length_cons] at hl
 have hk:k.length≤40:=ha k (by simp)
 have c00: (0:Int)< (ts.length:Int)+1+1:=by omega
 have p1:=D5 b ([76,80,85,83,72]::k::ts) hb.sm (by simp only[List.length_cons,List.length_nil];omega) (by simp)
 rw[hr] at p1
 have p2:=Dy [76,80,85,83,72]
 rw[wv] at p2
 have p3:=Bhm b k ts hb hk (by omega)
 have re:Db b [76,80,85,83,72] (k::ts)=Tc b k true ts:=rfl
 rw[re]
 generalize Tc b k true ts=P at*
 simp only[Bf,List.map_cons,List.map_nil] at p1 p3
 simp(maxSteps:=1000000) [Ce,-List.getD_eq_getElem?_getD,-List.map_map,f65,p1,p2,p3,Bl,c00]
theorem Blr (b:Ba) (r:List Bq) (hb:BaG b) (ha: ∀x∈r,x.length≤40) (hr:Cr b ([82,80,85,83,72]::r)=[]):Be (ev R) 65 [.d (Df b), .d (Bf ([82,80,85,83,72]::r))]=some (Bl (Db b [82,80,85,83,72] r)):=Bb fun H=>by
 refine Bh (fn:=f65) rfl rfl ?_
 have hl:=Ca hr
 have wv:Bi [82,80,85,83,72]=(3,8,2):=rfl
 rw[wv] at hl
 dsimp only at hl
 obtain⟨k,ts,rfl⟩: ∃k ts,r=k::ts:=by
  match r,hl with
  | [],hl=>simp at hl
  |k::ts,_=>exact⟨k,ts,rfl⟩
 simp only[List.length_cons] at hl
 have hk:k.length≤40:=ha k (by simp)
 have c00: (0:Int)< (ts.length:Int)+1+1:=by omega
 have p1:=D5 b ([82,80,85,83,72]::k::ts) hb.sm (by simp only[List.length_cons,List.length_nil];omega) (by simp)
 rw[hr] at p1
 have p2:=Dy [82,80,85,83,72]
 rw[wv] at p2
 have p3:=Bho b k ts hb hk (by omega)
 have re:Db b [82,80,85,83,72] (k::ts)=Tc b k false ts:=rfl
 rw[re]
 generalize Tc b k false ts=P at*
 simp only[Bf,List.map_cons,List.map_nil] at p1 p3
 simp(maxSteps:=1000000) [Ce,-List.getD_eq_getElem?_getD,-List.map_map,f65,p1,p2,p3,Bl,c00]
theorem Bqb (b:Ba) (r:List Bq) (hb:BaG b) (ha: ∀x∈r,x.length≤40) (hr:Cr b ([76,80,79,80]::r)=[]):Be (ev R) 65 [.d (Df b), .d (Bf ([76,80,79,80]::r))]=some (Bl (Db b [76,80,79,80] r)):=Bb fun H=>by
 refine Bh (fn:=f65) rfl rfl ?_
 have hl:=Ca hr
 have wv:Bi [76,80,79,80]=(2,2,2):=rfl
 rw[wv] at hl
 dsimp only at hl
 obtain⟨k,rfl⟩: ∃k,r=[k]:=by
  match r,hl with
  | [],hl=>exact absurd hl (by simp)
  | [k],_=>exact⟨k,rfl⟩
  |k::z::ts,hl=>exact absurd hl (by simp only[List.length_cons];omega)
 have hk:k.length≤40:=ha k (by simp)
 have p1:=D5 b ([[76,80,79,80],k]) hb.sm (by simp only[List.length_cons,List.length_nil];omega) (by simp)
 rw[hr] at p1
 have p2:=Dy [76,80,79,80]
 rw[wv] at p2
 have p3:=Bki b k hb hk
 have re:Db b [76,80,79,80] [k]=Bcb b k true:=rfl
 rw[re]
 generalize Bcb b k true=P at*
 simp only[Bf,List.map_cons,List.map_nil] at p1 p3
 simp(maxSteps:=1000000) [Ce,-List.getD_eq_getElem?_getD,-List.map_map,f65,p1,p2,p3,Bl]
theorem Bqe (b:Ba) (r:List Bq) (hb:BaG b) (ha: ∀x∈r,x.length≤40) (hr:Cr b ([82,80,79,80]::r)=[]):Be (ev R) 65 [.d (Df b), .d (Bf ([82,80,79,80]::r))]=some (Bl (Db b [82,80,79,80] r)):=Bb fun H=>by
 refine Bh (fn:=f65) rfl rfl ?_
 have hl:=Ca hr
 have wv:Bi [82,80,79,80]=(2,2,2):=rfl
 rw[wv] at hl
 dsimp only at hl
 obtain⟨k,rfl⟩: ∃k,r=[k]:=by
  match r,hl with
  | [],hl=>exact absurd hl (by simp)
  | [k],_=>exact⟨k,rfl⟩
  |k::z::ts,hl=>exact absurd hl (by simp only[List.length_cons];omega)
 have hk:k.length≤40:=ha k (by simp)
 have p1:=D5 b ([[82,80,79,80],k]) hb.sm (by simp only[List.length_cons,List.length_nil];omega) (by simp)
 rw[hr] at p1
 have p2:=Dy [82,80,79,80]
 rw[wv] at p2
 have p3:=Bkl b k hb hk
 have re:Db b [82,80,79,80] [k]=Bcb b k false:=rfl
 rw[re]
 generalize Bcb b k false=P at*
 simp only[Bf,List.map_cons,List.map_nil] at p1 p3
 simp(maxSteps:=1000000) [Ce,-List.getD_eq_getElem?_getD,-List.map_map,f65,p1,p2,p3,Bl]
theorem Bqa (b:Ba) (r:List Bq) (hb:BaG b) (ha: ∀x∈r,x.length≤40) (hr:Cr b ([76,76,69,78]::r)=[]):Be (ev R) 65 [.d (Df b), .d (Bf ([76,76,69,78]::r))]=some (Bl (Db b [76,76,69,78] r)):=Bb fun H=>by
 refine Bh (fn:=f65) rfl rfl ?_
 have hl:=Ca hr
 have wv:Bi [76,76,69,78]=(2,2,2):=rfl
 rw[wv] at hl
 dsimp only at hl
 obtain⟨k,rfl⟩: ∃k,r=[k]:=by
  match r,hl with
  | [],hl=>exact absurd hl (by simp)
  | [k],_=>exact⟨k,rfl⟩
  |k::z::ts,hl=>exact absurd hl (by simp only[List.length_cons];omega)
 have hk:k.length≤40:=ha k (by simp)
 have p1:=D5 b ([[76,76,69,78],k]) hb.sm (by simp only[List.length_cons,List.length_nil];omega) (by simp)
 rw[hr] at p1
 have p2:=Dy [76,76,69,78]
 rw[wv] at p2
 have p3:=Bkh b k hb hk
 have re:Db b [76,76,69,78] [k]=Uw b k:=rfl
 rw[re]
 generalize Uw b k=P at*
 simp only[Bf,List.map_cons,List.map_nil] at p1 p3
 simp(maxSteps:=1000000) [Ce,-List.getD_eq_getElem?_getD,-List.map_map,f65,p1,p2,p3,Bl]
theorem Bi0 (b:Ba) (r:List Bq) (hb:BaG b) (ha: ∀x∈r,x.length≤40) (hr:Cr b ([76,82,65,78,71,69]::r)=[]):Be (ev R) 65 [.d (Df b), .d (Bf ([76,82,65,78,71,69]::r))]=some (Bl (Db b [76,82,65,78,71,69] r)):=Bb fun H=>by
 refine Bh (fn:=f65) rfl rfl ?_
 have hl:=Ca hr
 have wv:Bi [76,82,65,78,71,69]=(4,4,2):=rfl
 rw[wv] at hl
 dsimp only at hl
 obtain⟨k,x,y,rfl⟩: ∃k x y,r=[k,x,y]:=by
  match r,hl with
  | [],hl=>exact absurd hl (by simp)
  | [a0],hl=>exact absurd hl (by simp)
  | [a0,a1],hl=>exact absurd hl (by simp)
  | [k,x,y],_=>exact⟨k,x,y,rfl⟩
  |k::x::y::z::ts,hl=>exact absurd hl (by simp only[List.length_cons];omega)
 have hk:k.length≤40:=ha k (by simp)
 have hx:x.length≤40:=ha x (by simp)
 have hy:y.length≤40:=ha y (by simp)
 have p1:=D5 b ([[76,82,65,78,71,69],k,x,y]) hb.sm (by simp only[List.length_cons,List.length_nil];omega) (by simp)
 rw[hr] at p1
 have p2:=Dy [76,82,65,78,71,69]
 rw[wv] at p2
 have p3:=Bfl b k x y hb hk hx hy
 have re:Db b [76,82,65,78,71,69] [k,x,y]=Uc b k x y:=rfl
 rw[re]
 generalize Uc b k x y=P at*
 simp only[Bf,List.map_cons,List.map_nil] at p1 p3
 simp(maxSteps:=1000000) [Ce,-List.getD_eq_getElem?_getD,-List.map_map,f65,p1,p2,p3,Bl]
theorem Blq (b:Ba) (r:List Bq) (hb:BaG b) (ha: ∀x∈r,x.length≤40) (hr:Cr b ([76,84,82,73,77]::r)=[]):Be (ev R) 65 [.d (Df b), .d (Bf ([76,84,82,73,77]::r))]=some (Bl (Db b [76,84,82,73,77] r)):=Bb fun H=>by
 refine Bh (fn:=f65) rfl rfl ?_
 have hl:=Ca hr
 have wv:Bi [76,84,82,73,77]=(4,4,2):=rfl
 rw[wv] at hl
 dsimp only at hl
 obtain⟨k,x,y,rfl⟩: ∃k x y,r=[k,x,y]:=by
  match r,hl with
  | [],hl=>exact absurd hl (by simp)
  | [a0],hl=>exact absurd hl (by simp)
  | [a0,a1],hl=>exact absurd hl (by simp)
  | [k,x,y],_=>exact⟨k,x,y,rfl⟩
  |k::x::y::z::ts,hl=>exact absurd hl (by simp only[List.length_cons];omega)
 have hk:k.length≤40:=ha k (by simp)
 have hx:x.length≤40:=ha x (by simp)
 have hy:y.length≤40:=ha y (by simp)
 have p1:=D5 b ([[76,84,82,73,77],k,x,y]) hb.sm (by simp only[List.length_cons,List.length_nil];omega) (by simp)
 rw[hr] at p1
 have p2:=Dy [76,84,82,73,77]
 rw[wv] at p2
 have p3:=Bhn b k x y hb hk hx hy
 have re:Db b [76,84,82,73,77] [k,x,y]=Yz b k x y:=rfl
 rw[re]
 generalize Yz b k x y=P at*
 simp only[Bf,List.map_cons,List.map_nil] at p1 p3
 simp(maxSteps:=1000000) [Ce,-List.getD_eq_getElem?_getD,-List.map_map,f65,p1,p2,p3,Bl]
theorem Bqd (b:Ba) (r:List Bq) (hb:BaG b) (ha: ∀x∈r,x.length≤40) (hr:Cr b ([76,83,69,84]::r)=[]):Be (ev R) 65 [.d (Df b), .d (Bf ([76,83,69,84]::r))]=some (Bl (Db b [76,83,69,84] r)):=Bb fun H=>by
 refine Bh (fn:=f65) rfl rfl ?_
 have hl:=Ca hr
 have wv:Bi [76,83,69,84]=(4,4,2):=rfl
 rw[wv] at hl
 dsimp only at hl
 obtain⟨k,x,y,rfl⟩: ∃k x y,r=[k,x,y]:=by
  match r,hl with
  | [],hl=>exact absurd hl (by simp)
  | [a0],hl=>exact absurd hl (by simp)
  | [a0,a1],hl=>exact absurd hl (by simp)
  | [k,x,y],_=>exact⟨k,x,y,rfl⟩
  |k::x::y::z::ts,hl=>exact absurd hl (by simp only[List.length_cons];omega)
 have hk:k.length≤40:=ha k (by simp)
 have hx:x.length≤40:=ha x (by simp)
 have hy:y.length≤40:=ha y (by simp)
 have p1:=D5 b ([[76,83,69,84],k,x,y]) hb.sm (by simp only[List.length_cons,List.length_nil];omega) (by simp)
 rw[hr] at p1
 have p2:=Dy [76,83,69,84]
 rw[wv] at p2
 have p3:=Bkk b k x y hb hk hx hy
 have re:Db b [76,83,69,84] [k,x,y]=Bd9 b k x y:=rfl
 rw[re]
 generalize Bd9 b k x y=P at*
 simp only[Bf,List.map_cons,List.map_nil] at p1 p3
 simp(maxSteps:=1000000) [Ce,-List.getD_eq_getElem?_getD,-List.map_map,f65,p1,p2,p3,Bl]
theorem Bqc (b:Ba) (r:List Bq) (hb:BaG b) (ha: ∀x∈r,x.length≤40) (hr:Cr b ([76,82,69,77]::r)=[]):Be (ev R) 65 [.d (Df b), .d (Bf ([76,82,69,77]::r))]=some (Bl (Db b [76,82,69,77] r)):=Bb fun H=>by
 refine Bh (fn:=f65) rfl rfl ?_
 have hl:=Ca hr
 have wv:Bi [76,82,69,77]=(4,4,2):=rfl
 rw[wv] at hl
 dsimp only at hl
 obtain⟨k,x,y,rfl⟩: ∃k x y,r=[k,x,y]:=by
  match r,hl with
  | [],hl=>exact absurd hl (by simp)
  | [a0],hl=>exact absurd hl (by simp)
  | [a0,a1],hl=>exact absurd hl (by simp)
  | [k,x,y],_=>exact⟨k,x,y,rfl⟩
  |k::x::y::z::ts,hl=>exact absurd hl (by simp only[List.length_cons];omega)
 have hk:k.length≤40:=ha k (by simp)
 have hx:x.length≤40:=ha x (by simp)
 have hy:y.length≤40:=ha y (by simp)
 have p1:=D5 b ([[76,82,69,77],k,x,y]) hb.sm (by simp only[List.length_cons,List.length_nil];omega) (by simp)
 rw[hr] at p1
 have p2:=Dy [76,82,69,77]
 rw[wv] at p2
 have p3:=Bkj b k x y hb hk hx hy
 have re:Db b [76,82,69,77] [k,x,y]=Bd8 b k x y:=rfl
 rw[re]
 generalize Bd8 b k x y=P at*
 simp only[Bf,List.map_cons,List.map_nil] at p1 p3
 simp(maxSteps:=1000000) [Ce,-List.getD_eq_getElem?_getD,-List.map_map,f65,p1,p2,p3,Bl]
theorem Bqf (b:Ba) (r:List Bq) (hb:BaG b) (ha: ∀x∈r,x.length≤40) (hr:Cr b ([83,65,68,68]::r)=[]):Be (ev R) 65 [.d (Df b), .d (Bf ([83,65,68,68]::r))]=some (Bl (Db b [83,65,68,68] r)):=Bb fun H=>by
 refine Bh (fn:=f65) rfl rfl ?_
 have hl:=Ca hr
 have wv:Bi [83,65,68,68]=(3,8,3):=rfl
 rw[wv] at hl
 dsimp only at hl
 obtain⟨k,ts,rfl⟩: ∃k ts,r=k::ts:=by
  match r,hl with
  | [],hl=>simp at hl
  |k::ts,_=>exact⟨k,ts,rfl⟩
 simp only[List.length_cons] at hl
 have hk:k.length≤40:=ha k (by simp)
 have c00: (0:Int)< (ts.length:Int)+1+1:=by omega
 have p1:=D5 b ([83,65,68,68]::k::ts) hb.sm (by simp only[List.length_cons,List.length_nil];omega) (by simp)
 rw[hr] at p1
 have p2:=Dy [83,65,68,68]
 rw[wv] at p2
 have p3:=Bkm b k ts hb hk (by omega)
 have re:Db b [83,65,68,68] (k::ts)=Bea b k ts:=rfl
 rw[re]
 generalize Bea b k ts=P at*
 simp only[Bf,List.map_cons,List.map_nil] at p1 p3
 simp(maxSteps:=1000000) [Ce,-List.getD_eq_getElem?_getD,-List.map_map,f65,p1,p2,p3,Bl,c00]
theorem Bqg (b:Ba) (r:List Bq) (hb:BaG b) (ha: ∀x∈r,x.length≤40) (hr:Cr b ([83,82,69,77]::r)=[]):Be (ev R) 65 [.d (Df b), .d (Bf ([83,82,69,77]::r))]=some (Bl (Db b [83,82,69,77] r)):=Bb fun H=>by
 refine Bh (fn:=f65) rfl rfl ?_
 have hl:=Ca hr
 have wv:Bi [83,82,69,77]=(3,8,3):=rfl
 rw[wv] at hl
 dsimp only at hl
 obtain⟨k,ts,rfl⟩: ∃k ts,r=k::ts:=by
  match r,hl with
  | [],hl=>simp at hl
  |k::ts,_=>exact⟨k,ts,rfl⟩
 simp only[List.length_cons] at hl
 have hk:k.length≤40:=ha k (by simp)
 have c00: (0:Int)< (ts.length:Int)+1+1:=by omega
 have p1:=D5 b ([83,82,69,77]::k::ts) hb.sm (by simp only[List.length_cons,List.length_nil];omega) (by simp)
 rw[hr] at p1
 have p2:=Dy [83,82,69,77]
 rw[wv] at p2
 have p3:=Bkn b k ts hb hk (by omega)
 have re:Db b [83,82,69,77] (k::ts)=Beb b k ts:=rfl
 rw[re]
 generalize Beb b k ts=P at*
 simp only[Bf,List.map_cons,List.map_nil] at p1 p3
 simp(maxSteps:=1000000) [Ce,-List.getD_eq_getElem?_getD,-List.map_map,f65,p1,p2,p3,Bl,c00]
theorem Bda (b:Ba) (r:List Bq) (hb:BaG b) (ha: ∀x∈r,x.length≤40) (hr:Cr b ([83,77,69,77,66,69,82,83]::r)=[]):Be (ev R) 65 [.d (Df b), .d (Bf ([83,77,69,77,66,69,82,83]::r))]=some (Bl (Db b [83,77,69,77,66,69,82,83] r)):=Bb fun H=>by
 refine Bh (fn:=f65) rfl rfl ?_
 have hl:=Ca hr
 have wv:Bi [83,77,69,77,66,69,82,83]=(2,2,3):=rfl
 rw[wv] at hl
 dsimp only at hl
 obtain⟨k,rfl⟩: ∃k,r=[k]:=by
  match r,hl with
  | [],hl=>exact absurd hl (by simp)
  | [k],_=>exact⟨k,rfl⟩
  |k::z::ts,hl=>exact absurd hl (by simp only[List.length_cons];omega)
 have hk:k.length≤40:=ha k (by simp)
 have p1:=D5 b ([[83,77,69,77,66,69,82,83],k]) hb.sm (by simp only[List.length_cons,List.length_nil];omega) (by simp)
 rw[hr] at p1
 have p2:=Dy [83,77,69,77,66,69,82,83]
 rw[wv] at p2
 have p3:=Bb3 b k hb hk
 have re:Db b [83,77,69,77,66,69,82,83] [k]=Q4 b k:=rfl
 rw[re]
 generalize Q4 b k=P at*
 simp only[Bf,List.map_cons,List.map_nil] at p1 p3
 simp(maxSteps:=1000000) [Ce,-List.getD_eq_getElem?_getD,-List.map_map,f65,p1,p2,p3,Bl]
theorem Bls (b:Ba) (r:List Bq) (hb:BaG b) (ha: ∀x∈r,x.length≤40) (hr:Cr b ([83,67,65,82,68]::r)=[]):Be (ev R) 65 [.d (Df b), .d (Bf ([83,67,65,82,68]::r))]=some (Bl (Db b [83,67,65,82,68] r)):=Bb fun H=>by
 refine Bh (fn:=f65) rfl rfl ?_
 have hl:=Ca hr
 have wv:Bi [83,67,65,82,68]=(2,2,3):=rfl
 rw[wv] at hl
 dsimp only at hl
 obtain⟨k,rfl⟩: ∃k,r=[k]:=by
  match r,hl with
  | [],hl=>exact absurd hl (by simp)
  | [k],_=>exact⟨k,rfl⟩
  |k::z::ts,hl=>exact absurd hl (by simp only[List.length_cons];omega)
 have hk:k.length≤40:=ha k (by simp)
 have p1:=D5 b ([[83,67,65,82,68],k]) hb.sm (by simp only[List.length_cons,List.length_nil];omega) (by simp)
 rw[hr] at p1
 have p2:=Dy [83,67,65,82,68]
 rw[wv] at p2
 have p3:=Bhp b k hb hk
 have re:Db b [83,67,65,82,68] [k]=Uw b k:=rfl
 rw[re]
 generalize Uw b k=P at*
 simp only[Bf,List.map_cons,List.map_nil] at p1 p3
 simp(maxSteps:=1000000) [Ce,-List.getD_eq_getElem?_getD,-List.map_map,f65,p1,p2,p3,Bl]
theorem Bcw (b:Ba) (r:List Bq) (hb:BaG b) (ha: ∀x∈r,x.length≤40) (hr:Cr b ([83,73,83,77,69,77,66,69,82]::r)=[]):Be (ev R) 65 [.d (Df b), .d (Bf ([83,73,83,77,69,77,66,69,82]::r))]=some (Bl (Db b [83,73,83,77,69,77,66,69,82] r)):=Bb fun H=>by
 refine Bh (fn:=f65) rfl rfl ?_
 have hl:=Ca hr
 have wv:Bi [83,73,83,77,69,77,66,69,82]=(3,3,3):=rfl
 rw[wv] at hl
 dsimp only at hl
 obtain⟨k,x,rfl⟩: ∃k x,r=[k,x]:=by
  match r,hl with
  | [],hl=>exact absurd hl (by simp)
  | [a0],hl=>exact absurd hl (by simp)
  | [k,x],_=>exact⟨k,x,rfl⟩
  |k::x::z::ts,hl=>exact absurd hl (by simp only[List.length_cons];omega)
 have hk:k.length≤40:=ha k (by simp)
 have hx:x.length≤40:=ha x (by simp)
 have p1:=D5 b ([[83,73,83,77,69,77,66,69,82],k,x]) hb.sm (by simp only[List.length_cons,List.length_nil];omega) (by simp)
 rw[hr] at p1
 have p2:=Dy [83,73,83,77,69,77,66,69,82]
 rw[wv] at p2
 have p3:=Z9 b k x hb hk hx
 have re:Db b [83,73,83,77,69,77,66,69,82] [k,x]=Pp b k x:=rfl
 rw[re]
 generalize Pp b k x=P at*
 simp only[Bf,List.map_cons,List.map_nil] at p1 p3
 simp(maxSteps:=1000000) [Ce,-List.getD_eq_getElem?_getD,-List.map_map,f65,p1,p2,p3,Bl]
theorem Bi2 (b:Ba) (r:List Bq) (hb:BaG b) (ha: ∀x∈r,x.length≤40) (hr:Cr b ([83,73,78,84,69,82]::r)=[]):Be (ev R) 65 [.d (Df b), .d (Bf ([83,73,78,84,69,82]::r))]=some (Bl (Db b [83,73,78,84,69,82] r)):=Bb fun H=>by
 refine Bh (fn:=f65) rfl rfl ?_
 have hl:=Ca hr
 have wv:Bi [83,73,78,84,69,82]=(3,3,3):=rfl
 rw[wv] at hl
 dsimp only at hl
 obtain⟨k,x,rfl⟩: ∃k x,r=[k,x]:=by
  match r,hl with
  | [],hl=>exact absurd hl (by simp)
  | [a0],hl=>exact absurd hl (by simp)
  | [k,x],_=>exact⟨k,x,rfl⟩
  |k::x::z::ts,hl=>exact absurd hl (by simp only[List.length_cons];omega)
 have hk:k.length≤40:=ha k (by simp)
 have hx:x.length≤40:=ha x (by simp)
 have p1:=D5 b ([[83,73,78,84,69,82],k,x]) hb.sm (by simp only[List.length_cons,List.length_nil];omega) (by simp)
 rw[hr] at p1
 have p2:=Dy [83,73,78,84,69,82]
 rw[wv] at p2
 have p3:=Bfm b k x hb hk hx
 have re:Db b [83,73,78,84,69,82] [k,x]=Xu b k x:=rfl
 rw[re]
 generalize Xu b k x=P at*
 simp only[Bf,List.map_cons,List.map_nil] at p1 p3
 simp(maxSteps:=1000000) [Ce,-List.getD_eq_getElem?_getD,-List.map_map,f65,p1,p2,p3,Bl]
theorem Bi4 (b:Ba) (r:List Bq) (hb:BaG b) (ha: ∀x∈r,x.length≤40) (hr:Cr b ([83,85,78,73,79,78]::r)=[]):Be (ev R) 65 [.d (Df b), .d (Bf ([83,85,78,73,79,78]::r))]=some (Bl (Db b [83,85,78,73,79,78] r)):=Bb fun H=>by
 refine Bh (fn:=f65) rfl rfl ?_
 have hl:=Ca hr
 have wv:Bi [83,85,78,73,79,78]=(3,3,3):=rfl
 rw[wv] at hl
 dsimp only at hl
 obtain⟨k,x,rfl⟩: ∃k x,r=[k,x]:=by
  match r,hl with
  | [],hl=>exact absurd hl (by simp)
  | [a0],hl=>exact absurd hl (by simp)
  | [k,x],_=>exact⟨k,x,rfl⟩
  |k::x::z::ts,hl=>exact absurd hl (by simp only[List.length_cons];omega)
 have hk:k.length≤40:=ha k (by simp)
 have hx:x.length≤40:=ha x (by simp)
 have p1:=D5 b ([[83,85,78,73,79,78],k,x]) hb.sm (by simp only[List.length_cons,List.length_nil];omega) (by simp)
 rw[hr] at p1
 have p2:=Dy [83,85,78,73,79,78]
 rw[wv] at p2
 have p3:=Bfn b k x hb hk hx
 have re:Db b [83,85,78,73,79,78] [k,x]=Xw b k x:=rfl
 rw[re]
 generalize Xw b k x=P at*
 simp only[Bf,List.map_cons,List.map_nil] at p1 p3
 simp(maxSteps:=1000000) [Ce,-List.getD_eq_getElem?_getD,-List.map_map,f65,p1,p2,p3,Bl]
theorem Blt (b:Ba) (r:List Bq) (hb:BaG b) (ha: ∀x∈r,x.length≤40) (hr:Cr b ([83,68,73,70,70]::r)=[]):Be (ev R) 65 [.d (Df b), .d (Bf ([83,68,73,70,70]::r))]=some (Bl (Db b [83,68,73,70,70] r)):=Bb fun H=>by
 refine Bh (fn:=f65) rfl rfl ?_
 have hl:=Ca hr
 have wv:Bi [83,68,73,70,70]=(3,3,3):=rfl
 rw[wv] at hl
 dsimp only at hl
 obtain⟨k,x,rfl⟩: ∃k x,r=[k,x]:=by
  match r,hl with
  | [],hl=>exact absurd hl (by simp)
  | [a0],hl=>exact absurd hl (by simp)
  | [k,x],_=>exact⟨k,x,rfl⟩
  |k::x::z::ts,hl=>exact absurd hl (by simp only[List.length_cons];omega)
 have hk:k.length≤40:=ha k (by simp)
 have hx:x.length≤40:=ha x (by simp)
 have p1:=D5 b ([[83,68,73,70,70],k,x]) hb.sm (by simp only[List.length_cons,List.length_nil];omega) (by simp)
 rw[hr] at p1
 have p2:=Dy [83,68,73,70,70]
 rw[wv] at p2
 have p3:=Bhq b k x hb hk hx
 have re:Db b [83,68,73,70,70] [k,x]=Bcd b k x:=rfl
 rw[re]
 generalize Bcd b k x=P at*
 simp only[Bf,List.map_cons,List.map_nil] at p1 p3
 simp(maxSteps:=1000000) [Ce,-List.getD_eq_getElem?_getD,-List.map_map,f65,p1,p2,p3,Bl]
theorem Bqi (b:Ba) (r:List Bq) (hb:BaG b) (ha: ∀x∈r,x.length≤40) (hr:Cr b ([90,65,68,68]::r)=[]):Be (ev R) 65 [.d (Df b), .d (Bf ([90,65,68,68]::r))]=some (Bl (Db b [90,65,68,68] r)):=Bb fun H=>by
 refine Bh (fn:=f65) rfl rfl ?_
 have hl:=Ca hr
 have wv:Bi [90,65,68,68]=(4,4,4):=rfl
 rw[wv] at hl
 dsimp only at hl
 obtain⟨k,x,y,rfl⟩: ∃k x y,r=[k,x,y]:=by
  match r,hl with
  | [],hl=>exact absurd hl (by simp)
  | [a0],hl=>exact absurd hl (by simp)
  | [a0,a1],hl=>exact absurd hl (by simp)
  | [k,x,y],_=>exact⟨k,x,y,rfl⟩
  |k::x::y::z::ts,hl=>exact absurd hl (by simp only[List.length_cons];omega)
 have hk:k.length≤40:=ha k (by simp)
 have hx:x.length≤40:=ha x (by simp)
 have hy:y.length≤40:=ha y (by simp)
 have p1:=D5 b ([[90,65,68,68],k,x,y]) hb.sm (by simp only[List.length_cons,List.length_nil];omega) (by simp)
 rw[hr] at p1
 have p2:=Dy [90,65,68,68]
 rw[wv] at p2
 have p3:=Bko b k x y hb hk hx hy
 have re:Db b [90,65,68,68] [k,x,y]=Bec b k x y:=rfl
 rw[re]
 generalize Bec b k x y=P at*
 simp only[Bf,List.map_cons,List.map_nil] at p1 p3
 simp(maxSteps:=1000000) [Ce,-List.getD_eq_getElem?_getD,-List.map_map,f65,p1,p2,p3,Bl]
theorem Bf9 (b:Ba) (r:List Bq) (hb:BaG b) (ha: ∀x∈r,x.length≤40) (hr:Cr b ([90,73,78,67,82,66,89]::r)=[]):Be (ev R) 65 [.d (Df b), .d (Bf ([90,73,78,67,82,66,89]::r))]=some (Bl (Db b [90,73,78,67,82,66,89] r)):=Bb fun H=>by
 refine Bh (fn:=f65) rfl rfl ?_
 have hl:=Ca hr
 have wv:Bi [90,73,78,67,82,66,89]=(4,4,4):=rfl
 rw[wv] at hl
 dsimp only at hl
 obtain⟨k,x,y,rfl⟩: ∃k x y,r=[k,x,y]:=by
  match r,hl with
  | [],hl=>exact absurd hl (by simp)
  | [a0],hl=>exact absurd hl (by simp)
  | [a0,a1],hl=>exact absurd hl (by simp)
  | [k,x,y],_=>exact⟨k,x,y,rfl⟩
  |k::x::y::z::ts,hl=>exact absurd hl (by simp only[List.length_cons];omega)
 have hk:k.length≤40:=ha k (by simp)
 have hx:x.length≤40:=ha x (by simp)
 have hy:y.length≤40:=ha y (by simp)
 have p1:=D5 b ([[90,73,78,67,82,66,89],k,x,y]) hb.sm (by simp only[List.length_cons,List.length_nil];omega) (by simp)
 rw[hr] at p1
 have p2:=Dy [90,73,78,67,82,66,89]
 rw[wv] at p2
 have p3:=Bc0 b k x y hb hk hx hy
 have re:Db b [90,73,78,67,82,66,89] [k,x,y]=Q5 b k x y:=rfl
 rw[re]
 generalize Q5 b k x y=P at*
 simp only[Bf,List.map_cons,List.map_nil] at p1 p3
 simp(maxSteps:=1000000) [Ce,-List.getD_eq_getElem?_getD,-List.map_map,f65,p1,p2,p3,Bl]
theorem Bi5 (b:Ba) (r:List Bq) (hb:BaG b) (ha: ∀x∈r,x.length≤40) (hr:Cr b ([90,82,65,78,71,69]::r)=[]):Be (ev R) 65 [.d (Df b), .d (Bf ([90,82,65,78,71,69]::r))]=some (Bl (Db b [90,82,65,78,71,69] r)):=Bb fun H=>by
 refine Bh (fn:=f65) rfl rfl ?_
 have hl:=Ca hr
 have wv:Bi [90,82,65,78,71,69]=(4,4,4):=rfl
 rw[wv] at hl
 dsimp only at hl
 obtain⟨k,x,y,rfl⟩: ∃k x y,r=[k,x,y]:=by
  match r,hl with
  | [],hl=>exact absurd hl (by simp)
  | [a0],hl=>exact absurd hl (by simp)
  | [a0,a1],hl=>exact absurd hl (by simp)
  | [k,x,y],_=>exact⟨k,x,y,rfl⟩
  |k::x::y::z::ts,hl=>exact absurd hl (by simp only[List.length_cons];omega)
 have hk:k.length≤40:=ha k (by simp)
 have hx:x.length≤40:=ha x (by simp)
 have hy:y.length≤40:=ha y (by simp)
 have p1:=D5 b ([[90,82,65,78,71,69],k,x,y]) hb.sm (by simp only[List.length_cons,List.length_nil];omega) (by simp)
 rw[hr] at p1
 have p2:=Dy [90,82,65,78,71,69]
 rw[wv] at p2
 have p3:=Bfo b k x y hb hk hx hy
 have re:Db b [90,82,65,78,71,69] [k,x,y]=Ue b k x y:=rfl
 rw[re]
 generalize Ue b k x y=P at*
 simp only[Bf,List.map_cons,List.map_nil] at p1 p3
 simp(maxSteps:=1000000) [Ce,-List.getD_eq_getElem?_getD,-List.map_map,f65,p1,p2,p3,Bl]
theorem Wq (b:Ba) (r:List Bq) (hb:BaG b) (ha: ∀x∈r,x.length≤40) (hr:Cr b ([90,82,65,78,71,69,66,89,83,67,79,82,69]::r)=[]):Be (ev R) 65 [.d (Df b), .d (Bf ([90,82,65,78,71,69,66,89,83,67,79,82,69]::r))]=some (Bl (Db b [90,82,65,78,71,69,66,89,83,67,79,82,69] r)):=Bb fun H=>by
 refine Bh (fn:=f65) rfl rfl ?_
 have hl:=Ca hr
 have wv:Bi [90,82,65,78,71,69,66,89,83,67,79,82,69]=(4,4,4):=rfl
 rw[wv] at hl
 dsimp only at hl
 obtain⟨k,x,y,rfl⟩: ∃k x y,r=[k,x,y]:=by
  match r,hl with
  | [],hl=>exact absurd hl (by simp)
  | [a0],hl=>exact absurd hl (by simp)
  | [a0,a1],hl=>exact absurd hl (by simp)
  | [k,x,y],_=>exact⟨k,x,y,rfl⟩
  |k::x::y::z::ts,hl=>exact absurd hl (by simp only[List.length_cons];omega)
 have hk:k.length≤40:=ha k (by simp)
 have hx:x.length≤40:=ha x (by simp)
 have hy:y.length≤40:=ha y (by simp)
 have p1:=D5 b ([[90,82,65,78,71,69,66,89,83,67,79,82,69],k,x,y]) hb.sm (by simp only[List.length_cons,List.length_nil];omega) (by simp)
 rw[hr] at p1
 have p2:=Dy [90,82,65,78,71,69,66,89,83,67,79,82,69]
 rw[wv] at p2
 have p3:=Un b k x y hb hk hx hy
 have re:Db b [90,82,65,78,71,69,66,89,83,67,79,82,69] [k,x,y]=Jz b k x y:=rfl
 rw[re]
 generalize Jz b k x y=P at*
 simp only[Bf,List.map_cons,List.map_nil] at p1 p3
 simp(maxSteps:=1000000) [Ce,-List.getD_eq_getElem?_getD,-List.map_map,f65,p1,p2,p3,Bl]
theorem Bqj (b:Ba) (r:List Bq) (hb:BaG b) (ha: ∀x∈r,x.length≤40) (hr:Cr b ([90,82,69,77]::r)=[]):Be (ev R) 65 [.d (Df b), .d (Bf ([90,82,69,77]::r))]=some (Bl (Db b [90,82,69,77] r)):=Bb fun H=>by
 refine Bh (fn:=f65) rfl rfl ?_
 have hl:=Ca hr
 have wv:Bi [90,82,69,77]=(3,3,4):=rfl
 rw[wv] at hl
 dsimp only at hl
 obtain⟨k,x,rfl⟩: ∃k x,r=[k,x]:=by
  match r,hl with
  | [],hl=>exact absurd hl (by simp)
  | [a0],hl=>exact absurd hl (by simp)
  | [k,x],_=>exact⟨k,x,rfl⟩
  |k::x::z::ts,hl=>exact absurd hl (by simp only[List.length_cons];omega)
 have hk:k.length≤40:=ha k (by simp)
 have hx:x.length≤40:=ha x (by simp)
 have p1:=D5 b ([[90,82,69,77],k,x]) hb.sm (by simp only[List.length_cons,List.length_nil];omega) (by simp)
 rw[hr] at p1
 have p2:=Dy [90,82,69,77]
 rw[wv] at p2
 have p3:=Bkp b k x hb hk hx
 have re:Db b [90,82,69,77] [k,x]=Bed b k x:=rfl
 rw[re]
 generalize Bed b k x=P at*
 simp only[Bf,List.map_cons,List.map_nil] at p1 p3
 simp(maxSteps:=1000000) [Ce,-List.getD_eq_getElem?_getD,-List.map_map,f65,p1,p2,p3,Bl]
theorem Bi6 (b:Ba) (r:List Bq) (hb:BaG b) (ha: ∀x∈r,x.length≤40) (hr:Cr b ([90,83,67,79,82,69]::r)=[]):Be (ev R) 65 [.d (Df b), .d (Bf ([90,83,67,79,82,69]::r))]=some (Bl (Db b [90,83,67,79,82,69] r)):=Bb fun H=>by
 refine Bh (fn:=f65) rfl rfl ?_
 have hl:=Ca hr
 have wv:Bi [90,83,67,79,82,69]=(3,3,4):=rfl
 rw[wv] at hl
 dsimp only at hl
 obtain⟨k,x,rfl⟩: ∃k x,r=[k,x]:=by
  match r,hl with
  | [],hl=>exact absurd hl (by simp)
  | [a0],hl=>exact absurd hl (by simp)
  | [k,x],_=>exact⟨k,x,rfl⟩
  |k::x::z::ts,hl=>exact absurd hl (by simp only[List.length_cons];omega)
 have hk:k.length≤40:=ha k (by simp)
 have hx:x.length≤40:=ha x (by simp)
 have p1:=D5 b ([[90,83,67,79,82,69],k,x]) hb.sm (by simp only[List.length_cons,List.length_nil];omega) (by simp)
 rw[hr] at p1
 have p2:=Dy [90,83,67,79,82,69]
 rw[wv] at p2
 have p3:=Bfp b k x hb hk hx
 have re:Db b [90,83,67,79,82,69] [k,x]=Xx b k x:=rfl
 rw[re]
 generalize Xx b k x=P at*
 simp only[Bf,List.map_cons,List.map_nil] at p1 p3
 simp(maxSteps:=1000000) [Ce,-List.getD_eq_getElem?_getD,-List.map_map,f65,p1,p2,p3,Bl]
theorem Blv (b:Ba) (r:List Bq) (hb:BaG b) (ha: ∀x∈r,x.length≤40) (hr:Cr b ([90,82,65,78,75]::r)=[]):Be (ev R) 65 [.d (Df b), .d (Bf ([90,82,65,78,75]::r))]=some (Bl (Db b [90,82,65,78,75] r)):=Bb fun H=>by
 refine Bh (fn:=f65) rfl rfl ?_
 have hl:=Ca hr
 have wv:Bi [90,82,65,78,75]=(3,3,4):=rfl
 rw[wv] at hl
 dsimp only at hl
 obtain⟨k,x,rfl⟩: ∃k x,r=[k,x]:=by
  match r,hl with
  | [],hl=>exact absurd hl (by simp)
  | [a0],hl=>exact absurd hl (by simp)
  | [k,x],_=>exact⟨k,x,rfl⟩
  |k::x::z::ts,hl=>exact absurd hl (by simp only[List.length_cons];omega)
 have hk:k.length≤40:=ha k (by simp)
 have hx:x.length≤40:=ha x (by simp)
 have p1:=D5 b ([[90,82,65,78,75],k,x]) hb.sm (by simp only[List.length_cons,List.length_nil];omega) (by simp)
 rw[hr] at p1
 have p2:=Dy [90,82,65,78,75]
 rw[wv] at p2
 have p3:=Bhs b k x hb hk hx
 have re:Db b [90,82,65,78,75] [k,x]=Bcg b k x:=rfl
 rw[re]
 generalize Bcg b k x=P at*
 simp only[Bf,List.map_cons,List.map_nil] at p1 p3
 simp(maxSteps:=1000000) [Ce,-List.getD_eq_getElem?_getD,-List.map_map,f65,p1,p2,p3,Bl]
theorem Blu (b:Ba) (r:List Bq) (hb:BaG b) (ha: ∀x∈r,x.length≤40) (hr:Cr b ([90,67,65,82,68]::r)=[]):Be (ev R) 65 [.d (Df b), .d (Bf ([90,67,65,82,68]::r))]=some (Bl (Db b [90,67,65,82,68] r)):=Bb fun H=>by
 refine Bh (fn:=f65) rfl rfl ?_
 have hl:=Ca hr
 have wv:Bi [90,67,65,82,68]=(2,2,4):=rfl
 rw[wv] at hl
 dsimp only at hl
 obtain⟨k,rfl⟩: ∃k,r=[k]:=by
  match r,hl with
  | [],hl=>exact absurd hl (by simp)
  | [k],_=>exact⟨k,rfl⟩
  |k::z::ts,hl=>exact absurd hl (by simp only[List.length_cons];omega)
 have hk:k.length≤40:=ha k (by simp)
 have p1:=D5 b ([[90,67,65,82,68],k]) hb.sm (by simp only[List.length_cons,List.length_nil];omega) (by simp)
 rw[hr] at p1
 have p2:=Dy [90,67,65,82,68]
 rw[wv] at p2
 have p3:=Bhr b k hb hk
 have re:Db b [90,67,65,82,68] [k]=Bcf b k:=rfl
 rw[re]
 generalize Bcf b k=P at*
 simp only[Bf,List.map_cons,List.map_nil] at p1 p3
 simp(maxSteps:=1000000) [Ce,-List.getD_eq_getElem?_getD,-List.map_map,f65,p1,p2,p3,Bl]
theorem Bp7 (b:Ba) (r:List Bq) (hb:BaG b) (ha: ∀x∈r,x.length≤40) (hr:Cr b ([72,83,69,84]::r)=[]):Be (ev R) 65 [.d (Df b), .d (Bf ([72,83,69,84]::r))]=some (Bl (Db b [72,83,69,84] r)):=Bb fun H=>by
 refine Bh (fn:=f65) rfl rfl ?_
 have hl:=Ca hr
 have wv:Bi [72,83,69,84]=(4,4,5):=rfl
 rw[wv] at hl
 dsimp only at hl
 obtain⟨k,x,y,rfl⟩: ∃k x y,r=[k,x,y]:=by
  match r,hl with
  | [],hl=>exact absurd hl (by simp)
  | [a0],hl=>exact absurd hl (by simp)
  | [a0,a1],hl=>exact absurd hl (by simp)
  | [k,x,y],_=>exact⟨k,x,y,rfl⟩
  |k::x::y::z::ts,hl=>exact absurd hl (by simp only[List.length_cons];omega)
 have hk:k.length≤40:=ha k (by simp)
 have hx:x.length≤40:=ha x (by simp)
 have hy:y.length≤40:=ha y (by simp)
 have p1:=D5 b ([[72,83,69,84],k,x,y]) hb.sm (by simp only[List.length_cons,List.length_nil];omega) (by simp)
 rw[hr] at p1
 have p2:=Dy [72,83,69,84]
 rw[wv] at p2
 have p3:=Bkt b k x y hb hk hx hy
 have re:Db b [72,83,69,84] [k,x,y]=Bd7 b k x y:=rfl
 rw[re]
 generalize Bd7 b k x y=P at*
 simp only[Bf,List.map_cons,List.map_nil] at p1 p3
 simp(maxSteps:=1000000) [Ce,-List.getD_eq_getElem?_getD,-List.map_map,f65,p1,p2,p3,Bl]
theorem Bp5 (b:Ba) (r:List Bq) (hb:BaG b) (ha: ∀x∈r,x.length≤40) (hr:Cr b ([72,71,69,84]::r)=[]):Be (ev R) 65 [.d (Df b), .d (Bf ([72,71,69,84]::r))]=some (Bl (Db b [72,71,69,84] r)):=Bb fun H=>by
 refine Bh (fn:=f65) rfl rfl ?_
 have hl:=Ca hr
 have wv:Bi [72,71,69,84]=(3,3,5):=rfl
 rw[wv] at hl
 dsimp only at hl
 obtain⟨k,x,rfl⟩: ∃k x,r=[k,x]:=by
  match r,hl with
  | [],hl=>exact absurd hl (by simp)
  | [a0],hl=>exact absurd hl (by simp)
  | [k,x],_=>exact⟨k,x,rfl⟩
  |k::x::z::ts,hl=>exact absurd hl (by simp only[List.length_cons];omega)
 have hk:k.length≤40:=ha k (by simp)
 have hx:x.length≤40:=ha x (by simp)
 have p1:=D5 b ([[72,71,69,84],k,x]) hb.sm (by simp only[List.length_cons,List.length_nil];omega) (by simp)
 rw[hr] at p1
 have p2:=Dy [72,71,69,84]
 rw[wv] at p2
 have p3:=Bkr b k x hb hk hx
 have re:Db b [72,71,69,84] [k,x]=Bhz b k x:=rfl
 rw[re]
 generalize Bhz b k x=P at*
 simp only[Bf,List.map_cons,List.map_nil] at p1 p3
 simp(maxSteps:=1000000) [Ce,-List.getD_eq_getElem?_getD,-List.map_map,f65,p1,p2,p3,Bl]
theorem Bp4 (b:Ba) (r:List Bq) (hb:BaG b) (ha: ∀x∈r,x.length≤40) (hr:Cr b ([72,68,69,76]::r)=[]):Be (ev R) 65 [.d (Df b), .d (Bf ([72,68,69,76]::r))]=some (Bl (Db b [72,68,69,76] r)):=Bb fun H=>by
 refine Bh (fn:=f65) rfl rfl ?_
 have hl:=Ca hr
 have wv:Bi [72,68,69,76]=(3,3,5):=rfl
 rw[wv] at hl
 dsimp only at hl
 obtain⟨k,x,rfl⟩: ∃k x,r=[k,x]:=by
  match r,hl with
  | [],hl=>exact absurd hl (by simp)
  | [a0],hl=>exact absurd hl (by simp)
  | [k,x],_=>exact⟨k,x,rfl⟩
  |k::x::z::ts,hl=>exact absurd hl (by simp only[List.length_cons];omega)
 have hk:k.length≤40:=ha k (by simp)
 have hx:x.length≤40:=ha x (by simp)
 have p1:=D5 b ([[72,68,69,76],k,x]) hb.sm (by simp only[List.length_cons,List.length_nil];omega) (by simp)
 rw[hr] at p1
 have p2:=Dy [72,68,69,76]
 rw[wv] at p2
 have p3:=Bkq b k x hb hk hx
 have re:Db b [72,68,69,76] [k,x]=Bd6 b k x:=rfl
 rw[re]
 generalize Bd6 b k x=P at*
 simp only[Bf,List.map_cons,List.map_nil] at p1 p3
 simp(maxSteps:=1000000) [Ce,-List.getD_eq_getElem?_getD,-List.map_map,f65,p1,p2,p3,Bl]
theorem Bf6 (b:Ba) (r:List Bq) (hb:BaG b) (ha: ∀x∈r,x.length≤40) (hr:Cr b ([72,71,69,84,65,76,76]::r)=[]):Be (ev R) 65 [.d (Df b), .d (Bf ([72,71,69,84,65,76,76]::r))]=some (Bl (Db b [72,71,69,84,65,76,76] r)):=Bb fun H=>by
 refine Bh (fn:=f65) rfl rfl ?_
 have hl:=Ca hr
 have wv:Bi [72,71,69,84,65,76,76]=(2,2,5):=rfl
 rw[wv] at hl
 dsimp only at hl
 obtain⟨k,rfl⟩: ∃k,r=[k]:=by
  match r,hl with
  | [],hl=>exact absurd hl (by simp)
  | [k],_=>exact⟨k,rfl⟩
  |k::z::ts,hl=>exact absurd hl (by simp only[List.length_cons];omega)
 have hk:k.length≤40:=ha k (by simp)
 have p1:=D5 b ([[72,71,69,84,65,76,76],k]) hb.sm (by simp only[List.length_cons,List.length_nil];omega) (by simp)
 rw[hr] at p1
 have p2:=Dy [72,71,69,84,65,76,76]
 rw[wv] at p2
 have p3:=Bc1 b k hb hk
 have re:Db b [72,71,69,84,65,76,76] [k]=Ta b k:=rfl
 rw[re]
 generalize Ta b k=P at*
 simp only[Bf,List.map_cons,List.map_nil] at p1 p3
 simp(maxSteps:=1000000) [Ce,-List.getD_eq_getElem?_getD,-List.map_map,f65,p1,p2,p3,Bl]
theorem Bp6 (b:Ba) (r:List Bq) (hb:BaG b) (ha: ∀x∈r,x.length≤40) (hr:Cr b ([72,76,69,78]::r)=[]):Be (ev R) 65 [.d (Df b), .d (Bf ([72,76,69,78]::r))]=some (Bl (Db b [72,76,69,78] r)):=Bb fun H=>by
 refine Bh (fn:=f65) rfl rfl ?_
 have hl:=Ca hr
 have wv:Bi [72,76,69,78]=(2,2,5):=rfl
 rw[wv] at hl
 dsimp only at hl
 obtain⟨k,rfl⟩: ∃k,r=[k]:=by
  match r,hl with
  | [],hl=>exact absurd hl (by simp)
  | [k],_=>exact⟨k,rfl⟩
  |k::z::ts,hl=>exact absurd hl (by simp only[List.length_cons];omega)
 have hk:k.length≤40:=ha k (by simp)
 have p1:=D5 b ([[72,76,69,78],k]) hb.sm (by simp only[List.length_cons,List.length_nil];omega) (by simp)
 rw[hr] at p1
 have p2:=Dy [72,76,69,78]
 rw[wv] at p2
 have p3:=Bks b k hb hk
 have re:Db b [72,76,69,78] [k]=Bh0 b k:=rfl
 rw[re]
 generalize Bh0 b k=P at*
 simp only[Bf,List.map_cons,List.map_nil] at p1 p3
 simp(maxSteps:=1000000) [Ce,-List.getD_eq_getElem?_getD,-List.map_map,f65,p1,p2,p3,Bl]
theorem Bf7 (b:Ba) (r:List Bq) (hb:BaG b) (ha: ∀x∈r,x.length≤40) (hr:Cr b ([72,73,78,67,82,66,89]::r)=[]):Be (ev R) 65 [.d (Df b), .d (Bf ([72,73,78,67,82,66,89]::r))]=some (Bl (Db b [72,73,78,67,82,66,89] r)):=Bb fun H=>by
 refine Bh (fn:=f65) rfl rfl ?_
 have hl:=Ca hr
 have wv:Bi [72,73,78,67,82,66,89]=(4,4,5):=rfl
 rw[wv] at hl
 dsimp only at hl
 obtain⟨k,x,y,rfl⟩: ∃k x y,r=[k,x,y]:=by
  match r,hl with
  | [],hl=>exact absurd hl (by simp)
  | [a0],hl=>exact absurd hl (by simp)
  | [a0,a1],hl=>exact absurd hl (by simp)
  | [k,x,y],_=>exact⟨k,x,y,rfl⟩
  |k::x::y::z::ts,hl=>exact absurd hl (by simp only[List.length_cons];omega)
 have hk:k.length≤40:=ha k (by simp)
 have hx:x.length≤40:=ha x (by simp)
 have hy:y.length≤40:=ha y (by simp)
 have p1:=D5 b ([[72,73,78,67,82,66,89],k,x,y]) hb.sm (by simp only[List.length_cons,List.length_nil];omega) (by simp)
 rw[hr] at p1
 have p2:=Dy [72,73,78,67,82,66,89]
 rw[wv] at p2
 have p3:=Bc2 b k x y hb hk hx hy
 have re:Db b [72,73,78,67,82,66,89] [k,x,y]=Q0 b k x y:=rfl
 rw[re]
 generalize Q0 b k x y=P at*
 simp only[Bf,List.map_cons,List.map_nil] at p1 p3
 simp(maxSteps:=1000000) [Ce,-List.getD_eq_getElem?_getD,-List.map_map,f65,p1,p2,p3,Bl]
theorem Bu0 (b:Ba) (r:List Bq) (hb:BaG b) (ha: ∀x∈r,x.length≤40) (hr:Cr b ([68,69,76]::r)=[]):Be (ev R) 65 [.d (Df b), .d (Bf ([68,69,76]::r))]=some (Bl (Db b [68,69,76] r)):=Bb fun H=>by
 refine Bh (fn:=f65) rfl rfl ?_
 have hl:=Ca hr
 have wv:Bi [68,69,76]=(2,8,0):=rfl
 rw[wv] at hl
 dsimp only at hl
 have p1:=D5 b ([68,69,76]::r) hb.sm (by simp only[List.length_cons,List.length_nil];omega) (by simp)
 rw[hr] at p1
 have p2:=Dy [68,69,76]
 rw[wv] at p2
 have p3:=Bot b r hb (by omega)
 have re:Db b [68,69,76] r=Bo6 b r:=rfl
 rw[re]
 generalize Bo6 b r=P at*
 simp only[Bf,List.map_cons,List.map_nil] at p1 p3
 simp(maxSteps:=1000000) [Ce,-List.getD_eq_getElem?_getD,-List.map_map,f65,p1,p2,p3,Bl]
theorem Bix (b:Ba) (r:List Bq) (hb:BaG b) (ha: ∀x∈r,x.length≤40) (hr:Cr b ([69,88,73,83,84,83]::r)=[]):Be (ev R) 65 [.d (Df b), .d (Bf ([69,88,73,83,84,83]::r))]=some (Bl (Db b [69,88,73,83,84,83] r)):=Bb fun H=>by
 refine Bh (fn:=f65) rfl rfl ?_
 have hl:=Ca hr
 have wv:Bi [69,88,73,83,84,83]=(2,8,0):=rfl
 rw[wv] at hl
 dsimp only at hl
 have p1:=D5 b ([69,88,73,83,84,83]::r) hb.sm (by simp only[List.length_cons,List.length_nil];omega) (by simp)
 rw[hr] at p1
 have p2:=Dy [69,88,73,83,84,83]
 rw[wv] at p2
 have p3:=Bfr b r hb (by omega)
 have re:Db b [69,88,73,83,84,83] r=Ua b r:=rfl
 rw[re]
 generalize Ua b r=P at*
 simp only[Bf,List.map_cons,List.map_nil] at p1 p3
 simp(maxSteps:=1000000) [Ce,-List.getD_eq_getElem?_getD,-List.map_map,f65,p1,p2,p3,Bl]
theorem Bqh (b:Ba) (r:List Bq) (hb:BaG b) (ha: ∀x∈r,x.length≤40) (hr:Cr b ([84,89,80,69]::r)=[]):Be (ev R) 65 [.d (Df b), .d (Bf ([84,89,80,69]::r))]=some (Bl (Db b [84,89,80,69] r)):=Bb fun H=>by
 refine Bh (fn:=f65) rfl rfl ?_
 have hl:=Ca hr
 have wv:Bi [84,89,80,69]=(2,2,0):=rfl
 rw[wv] at hl
 dsimp only at hl
 obtain⟨k,rfl⟩: ∃k,r=[k]:=by
  match r,hl with
  | [],hl=>exact absurd hl (by simp)
  | [k],_=>exact⟨k,rfl⟩
  |k::z::ts,hl=>exact absurd hl (by simp only[List.length_cons];omega)
 have hk:k.length≤40:=ha k (by simp)
 have p1:=D5 b ([[84,89,80,69],k]) hb.sm (by simp only[List.length_cons,List.length_nil];omega) (by simp)
 rw[hr] at p1
 have p2:=Dy [84,89,80,69]
 rw[wv] at p2
 have p3:=Bkv b k hb hk
 have re:Db b [84,89,80,69] [k]=Bh3 b k:=rfl
 rw[re]
 generalize Bh3 b k=P at*
 simp only[Bf,List.map_cons,List.map_nil] at p1 p3
 simp(maxSteps:=1000000) [Ce,-List.getD_eq_getElem?_getD,-List.map_map,f65,p1,p2,p3,Bl]
theorem Bu3 (b:Ba) (r:List Bq) (hb:BaG b) (ha: ∀x∈r,x.length≤40) (hr:Cr b ([84,84,76]::r)=[]):Be (ev R) 65 [.d (Df b), .d (Bf ([84,84,76]::r))]=some (Bl (Db b [84,84,76] r)):=Bb fun H=>by
 refine Bh (fn:=f65) rfl rfl ?_
 have hl:=Ca hr
 have wv:Bi [84,84,76]=(2,2,0):=rfl
 rw[wv] at hl
 dsimp only at hl
 obtain⟨k,rfl⟩: ∃k,r=[k]:=by
  match r,hl with
  | [],hl=>exact absurd hl (by simp)
  | [k],_=>exact⟨k,rfl⟩
  |k::z::ts,hl=>exact absurd hl (by simp only[List.length_cons];omega)
 have hk:k.length≤40:=ha k (by simp)
 have p1:=D5 b ([[84,84,76],k]) hb.sm (by simp only[List.length_cons,List.length_nil];omega) (by simp)
 rw[hr] at p1
 have p2:=Dy [84,84,76]
 rw[wv] at p2
 have p3:=Bou b k hb hk
 have re:Db b [84,84,76] [k]=Bsk b k:=rfl
 rw[re]
 generalize Bsk b k=P at*
 simp only[Bf,List.map_cons,List.map_nil] at p1 p3
 simp(maxSteps:=1000000) [Ce,-List.getD_eq_getElem?_getD,-List.map_map,f65,p1,p2,p3,Bl]
theorem Bf8 (b:Ba) (r:List Bq) (hb:BaG b) (ha: ∀x∈r,x.length≤40) (hr:Cr b ([80,69,82,83,73,83,84]::r)=[]):Be (ev R) 65 [.d (Df b), .d (Bf ([80,69,82,83,73,83,84]::r))]=some (Bl (Db b [80,69,82,83,73,83,84] r)):=Bb fun H=>by
 refine Bh (fn:=f65) rfl rfl ?_
 have hl:=Ca hr
 have wv:Bi [80,69,82,83,73,83,84]=(2,2,0):=rfl
 rw[wv] at hl
 dsimp only at hl
 obtain⟨k,rfl⟩: ∃k,r=[k]:=by
  match r,hl with
  | [],hl=>exact absurd hl (by simp)
  | [k],_=>exact⟨k,rfl⟩
  |k::z::ts,hl=>exact absurd hl (by simp only[List.length_cons];omega)
 have hk:k.length≤40:=ha k (by simp)
 have p1:=D5 b ([[80,69,82,83,73,83,84],k]) hb.sm (by simp only[List.length_cons,List.length_nil];omega) (by simp)
 rw[hr] at p1
 have p2:=Dy [80,69,82,83,73,83,84]
 rw[wv] at p2
 have p3:=Bc3 b k hb hk
 have re:Db b [80,69,82,83,73,83,84] [k]=Q3 b k:=rfl
 rw[re]
 generalize Q3 b k=P at*
 simp only[Bf,List.map_cons,List.map_nil] at p1 p3
 simp(maxSteps:=1000000) [Ce,-List.getD_eq_getElem?_getD,-List.map_map,f65,p1,p2,p3,Bl]
theorem Biy (b:Ba) (r:List Bq) (hb:BaG b) (ha: ∀x∈r,x.length≤40) (hr:Cr b ([69,88,80,73,82,69]::r)=[]):Be (ev R) 65 [.d (Df b), .d (Bf ([69,88,80,73,82,69]::r))]=some (Bl (Db b [69,88,80,73,82,69] r)):=Bb fun H=>by
 refine Bh (fn:=f65) rfl rfl ?_
 have hl:=Ca hr
 have wv:Bi [69,88,80,73,82,69]=(3,3,0):=rfl
 rw[wv] at hl
 dsimp only at hl
 obtain⟨k,x,rfl⟩: ∃k x,r=[k,x]:=by
  match r,hl with
  | [],hl=>exact absurd hl (by simp)
  | [a0],hl=>exact absurd hl (by simp)
  | [k,x],_=>exact⟨k,x,rfl⟩
  |k::x::z::ts,hl=>exact absurd hl (by simp only[List.length_cons];omega)
 have hk:k.length≤40:=ha k (by simp)
 have hx:x.length≤40:=ha x (by simp)
 have p1:=D5 b ([[69,88,80,73,82,69],k,x]) hb.sm (by simp only[List.length_cons,List.length_nil];omega) (by simp)
 rw[hr] at p1
 have p2:=Dy [69,88,80,73,82,69]
 rw[wv] at p2
 have p3:=Bfs b k x hb hk hx
 have re:Db b [69,88,80,73,82,69] [k,x]=Ub b k x:=rfl
 rw[re]
 generalize Ub b k x=P at*
 simp only[Bf,List.map_cons,List.map_nil] at p1 p3
 simp(maxSteps:=1000000) [Ce,-List.getD_eq_getElem?_getD,-List.map_map,f65,p1,p2,p3,Bl]
theorem Bc8 (b:Ba) (r:List Bq) (hb:BaG b) (ha: ∀x∈r,x.length≤40) (hr:Cr b ([69,88,80,73,82,69,65,84]::r)=[]):Be (ev R) 65 [.d (Df b), .d (Bf ([69,88,80,73,82,69,65,84]::r))]=some (Bl (Db b [69,88,80,73,82,69,65,84] r)):=Bb fun H=>by
 refine Bh (fn:=f65) rfl rfl ?_
 have hl:=Ca hr
 have wv:Bi [69,88,80,73,82,69,65,84]=(3,3,0):=rfl
 rw[wv] at hl
 dsimp only at hl
 obtain⟨k,x,rfl⟩: ∃k x,r=[k,x]:=by
  match r,hl with
  | [],hl=>exact absurd hl (by simp)
  | [a0],hl=>exact absurd hl (by simp)
  | [k,x],_=>exact⟨k,x,rfl⟩
  |k::x::z::ts,hl=>exact absurd hl (by simp only[List.length_cons];omega)
 have hk:k.length≤40:=ha k (by simp)
 have hx:x.length≤40:=ha x (by simp)
 have p1:=D5 b ([[69,88,80,73,82,69,65,84],k,x]) hb.sm (by simp only[List.length_cons,List.length_nil];omega) (by simp)
 rw[hr] at p1
 have p2:=Dy [69,88,80,73,82,69,65,84]
 rw[wv] at p2
 have p3:=Bb4 b k x hb hk hx
 have re:Db b [69,88,80,73,82,69,65,84] [k,x]=N8 b k x:=rfl
 rw[re]
 generalize N8 b k x=P at*
 simp only[Bf,List.map_cons,List.map_nil] at p1 p3
 simp(maxSteps:=1000000) [Ce,-List.getD_eq_getElem?_getD,-List.map_map,f65,p1,p2,p3,Bl]
theorem Bi1 (b:Ba) (r:List Bq) (hb:BaG b) (ha: ∀x∈r,x.length≤40) (hr:Cr b ([82,69,78,65,77,69]::r)=[]):Be (ev R) 65 [.d (Df b), .d (Bf ([82,69,78,65,77,69]::r))]=some (Bl (Db b [82,69,78,65,77,69] r)):=Bb fun H=>by
 refine Bh (fn:=f65) rfl rfl ?_
 have hl:=Ca hr
 have wv:Bi [82,69,78,65,77,69]=(3,3,0):=rfl
 rw[wv] at hl
 dsimp only at hl
 obtain⟨k,x,rfl⟩: ∃k x,r=[k,x]:=by
  match r,hl with
  | [],hl=>exact absurd hl (by simp)
  | [a0],hl=>exact absurd hl (by simp)
  | [k,x],_=>exact⟨k,x,rfl⟩
  |k::x::z::ts,hl=>exact absurd hl (by simp only[List.length_cons];omega)
 have hk:k.length≤40:=ha k (by simp)
 have hx:x.length≤40:=ha x (by simp)
 have p1:=D5 b ([[82,69,78,65,77,69],k,x]) hb.sm (by simp only[List.length_cons,List.length_nil];omega) (by simp)
 rw[hr] at p1
 have p2:=Dy [82,69,78,65,77,69]
 rw[wv] at p2
 have p3:=Bft b k x hb hk hx
 have re:Db b [82,69,78,65,77,69] [k,x]=Ud b k x:=rfl
 rw[re]
 generalize Ud b k x=P at*
 simp only[Bf,List.map_cons,List.map_nil] at p1 p3
 simp(maxSteps:=1000000) [Ce,-List.getD_eq_getElem?_getD,-List.map_map,f65,p1,p2,p3,Bl]
theorem Bp9 (b:Ba) (r:List Bq) (hb:BaG b) (ha: ∀x∈r,x.length≤40) (hr:Cr b ([75,69,89,83]::r)=[]):Be (ev R) 65 [.d (Df b), .d (Bf ([75,69,89,83]::r))]=some (Bl (Db b [75,69,89,83] r)):=Bb fun H=>by
 refine Bh (fn:=f65) rfl rfl ?_
 have hl:=Ca hr
 have wv:Bi [75,69,89,83]=(2,2,0):=rfl
 rw[wv] at hl
 dsimp only at hl
 obtain⟨k,rfl⟩: ∃k,r=[k]:=by
  match r,hl with
  | [],hl=>exact absurd hl (by simp)
  | [k],_=>exact⟨k,rfl⟩
  |k::z::ts,hl=>exact absurd hl (by simp only[List.length_cons];omega)
 have hk:k.length≤40:=ha k (by simp)
 have p1:=D5 b ([[75,69,89,83],k]) hb.sm (by simp only[List.length_cons,List.length_nil];omega) (by simp)
 rw[hr] at p1
 have p2:=Dy [75,69,89,83]
 rw[wv] at p2
 have p3:=Bku b k hb hk
 have re:Db b [75,69,89,83] [k]=Bh1 b k:=rfl
 rw[re]
 generalize Bh1 b k=P at*
 simp only[Bf,List.map_cons,List.map_nil] at p1 p3
 simp(maxSteps:=1000000) [Ce,-List.getD_eq_getElem?_getD,-List.map_map,f65,p1,p2,p3,Bl]
theorem Biw (b:Ba) (r:List Bq) (hb:BaG b) (ha: ∀x∈r,x.length≤40) (hr:Cr b ([68,66,83,73,90,69]::r)=[]):Be (ev R) 65 [.d (Df b), .d (Bf ([68,66,83,73,90,69]::r))]=some (Bl (Db b [68,66,83,73,90,69] r)):=Bb fun H=>by
 refine Bh (fn:=f65) rfl rfl ?_
 have hl:=Ca hr
 have wv:Bi [68,66,83,73,90,69]=(1,1,0):=rfl
 rw[wv] at hl
 dsimp only at hl
 obtain rfl:r=[]:=by
  match r,hl with
  | [],_=>rfl
  |k::ts,hl=>simp only[List.length_cons] at hl;omega
 have p1:=D5 b ([[68,66,83,73,90,69]]) hb.sm (by simp only[List.length_cons,List.length_nil];omega) (by simp)
 rw[hr] at p1
 have p2:=Dy [68,66,83,73,90,69]
 rw[wv] at p2
 have p3:=Bfq b hb
 have re:Db b [68,66,83,73,90,69] []=Xr b:=rfl
 rw[re]
 generalize Xr b=P at*
 simp only[Bf,List.map_cons,List.map_nil] at p1 p3
 simp(maxSteps:=1000000) [Ce,-List.getD_eq_getElem?_getD,-List.map_map,f65,p1,p2,p3,Bl]
theorem Blo (b:Ba) (r:List Bq) (hb:BaG b) (ha: ∀x∈r,x.length≤40) (hr:Cr b ([70,76,85,83,72]::r)=[]):Be (ev R) 65 [.d (Df b), .d (Bf ([70,76,85,83,72]::r))]=some (Bl (Db b [70,76,85,83,72] r)):=Bb fun H=>by
 refine Bh (fn:=f65) rfl rfl ?_
 have hl:=Ca hr
 have wv:Bi [70,76,85,83,72]=(1,1,0):=rfl
 rw[wv] at hl
 dsimp only at hl
 obtain rfl:r=[]:=by
  match r,hl with
  | [],_=>rfl
  |k::ts,hl=>simp only[List.length_cons] at hl;omega
 have p1:=D5 b ([[70,76,85,83,72]]) hb.sm (by simp only[List.length_cons,List.length_nil];omega) (by simp)
 rw[hr] at p1
 have p2:=Dy [70,76,85,83,72]
 rw[wv] at p2
 have p3:=Bht b hb
 have re:Db b [70,76,85,83,72] []=Yx b:=rfl
 rw[re]
 generalize Yx b=P at*
 simp only[Bf,List.map_cons,List.map_nil] at p1 p3
 simp(maxSteps:=1000000) [Ce,-List.getD_eq_getElem?_getD,-List.map_map,f65,p1,p2,p3,Bl]
theorem B8m (b:Ba) (args:List Bq) (hb:BaG b) (ha:Pk args=true):Be (ev R) 65 [.d (Df b), .d (Bf args)]=some (Bl (rDo b args)):=by
 have hl:=Bbw ha
 have hx:=Bhf ha
 obtain⟨w,r,rfl⟩: ∃w r,args=w::r:=by
  cases args with
  |nil=>simp at hl
  |cons w r=>exact⟨w,r,rfl⟩
 by_cases hr:Cr b (w::r)=[]
 ·have hd:rDo b (w::r)=Db b w r:=by unfold rDo;rw[if_pos hr];rfl
  rw[hd]
  have hx': ∀x∈r,x.length≤40:=fun x h=>hx x (by simp[h])
  by_cases h0:w=[71,69,84]
  ·subst h0;exact Bu1 b r hb hx' hr
  by_cases h1:w=[83,84,82,76,69,78]
  ·subst h1;exact Bi3 b r hb hx' hr
  by_cases h2:w=[73,78,67,82]
  ·subst h2;exact Bp8 b r hb hx' hr
  by_cases h3:w=[83,69,84]
  ·subst h3;exact Bu2 b r hb hx' hr
  by_cases h4:w=[65,80,80,69,78,68]
  ·subst h4;exact Biv b r hb hx' hr
  by_cases h5:w=[73,78,67,82,66,89]
  ·subst h5;exact Biz b r hb hx' hr
  by_cases h6:w=[71,69,84,82,65,78,71,69]
  ·subst h6;exact Bc9 b r hb hx' hr
  by_cases h7:w=[76,80,85,83,72]
  ·subst h7;exact Blp b r hb hx' hr
  by_cases h8:w=[82,80,85,83,72]
  ·subst h8;exact Blr b r hb hx' hr
  by_cases h9:w=[76,80,79,80]
  ·subst h9;exact Bqb b r hb hx' hr
  by_cases h10:w=[82,80,79,80]
  ·subst h10;exact Bqe b r hb hx' hr
  by_cases h11:w=[76,76,69,78]
  ·subst h11;exact Bqa b r hb hx' hr
  by_cases h12:w=[76,82,65,78,71,69]
  ·subst h12;exact Bi0 b r hb hx' hr
  by_cases h13:w=[76,84,82,73,77]
  ·subst h13;exact Blq b r hb hx' hr
  by_cases h14:w=[76,83,69,84]
  ·subst h14;exact Bqd b r hb hx' hr
  by_cases h15:w=[76,82,69,77]
  ·subst h15;exact Bqc b r hb hx' hr
  by_cases h16:w=[83,65,68,68]
  ·subst h16;exact Bqf b r hb hx' hr
  by_cases h17:w=[83,82,69,77]
  ·subst h17;exact Bqg b r hb hx' hr
  by_cases h18:w=[83,77,69,77,66,69,82,83]
  ·subst h18;exact Bda b r hb hx' hr
  by_cases h19:w=[83,67,65,82,68]
  ·subst h19;exact Bls b r hb hx' hr
  by_cases h20:w=[83,73,83,77,69,77,66,69,82]
  ·subst h20;exact Bcw b r hb hx' hr
  by_cases h21:w=[83,73,78,84,69,82]
  ·subst h21;exact Bi2 b r hb hx' hr
  by_cases h22:w=[83,85,78,73,79,78]
  ·subst h22;exact Bi4 b r hb hx' hr
  by_cases h23:w=[83,68,73,70,70]
  ·subst h23;exact Blt b r hb hx' hr
  by_cases h24:w=[90,65,68,68]
  ·subst h24;exact Bqi b r hb hx' hr
  by_cases h25:w=[90,73,78,67,82,66,89]
  ·subst h25;exact Bf9 b r hb hx' hr
  by_cases h26:w=[90,82,65,78,71,69]
  ·subst h26;exact Bi5 b r hb hx' hr
  by_cases h27:w=[90,82,65,78,71,69,66,89,83,67,79,82,69]
  ·subst h27;exact Wq b r hb hx' hr
  by_cases h28:w=[90,82,69,77]
  ·subst h28;exact Bqj b r hb hx' hr
  by_cases h29:w=[90,83,67,79,82,69]
  ·subst h29;exact Bi6 b r hb hx' hr
  by_cases h30:w=[90,82,65,78,75]
  ·subst h30;exact Blv b r hb hx' hr
  by_cases h31:w=[90,67,65,82,68]
  ·subst h31;exact Blu b r hb hx' hr
  by_cases h32:w=[72,83,69,84]
  ·subst h32;exact Bp7 b r hb hx' hr
  by_cases h33:w=[72,71,69,84]
  ·subst h33;exact Bp5 b r hb hx' hr
  by_cases h34:w=[72,68,69,76]
  ·subst h34;exact Bp4 b r hb hx' hr
  by_cases h35:w=[72,71,69,84,65,76,76]
  ·subst h35;exact Bf6 b r hb hx' hr
  by_cases h36:w=[72,76,69,78]
  ·subst h36;exact Bp6 b r hb hx' hr
  by_cases h37:w=[72,73,78,67,82,66,89]
  ·subst h37;exact Bf7 b r hb hx' hr
  by_cases h38:w=[68,69,76]
  ·subst h38;exact Bu0 b r hb hx' hr
  by_cases h39:w=[69,88,73,83,84,83]
  ·subst h39;exact Bix b r hb hx' hr
  by_cases h40:w=[84,89,80,69]
  ·subst h40;exact Bqh b r hb hx' hr
  by_cases h41:w=[84,84,76]
  ·subst h41;exact Bu3 b r hb hx' hr
  by_cases h42:w=[80,69,82,83,73,83,84]
  ·subst h42;exact Bf8 b r hb hx' hr
  by_cases h43:w=[69,88,80,73,82,69]
  ·subst h43;exact Biy b r hb hx' hr
  by_cases h44:w=[69,88,80,73,82,69,65,84]
  ·subst h44;exact Bc8 b r hb hx' hr
  by_cases h45:w=[82,69,78,65,77,69]
  ·subst h45;exact Bi1 b r hb hx' hr
  by_cases h46:w=[75,69,89,83]
  ·subst h46;exact Bp9 b r hb hx' hr
  by_cases h47:w=[68,66,83,73,90,69]
  ·subst h47;exact Biw b r hb hx' hr
  by_cases h48:w=[70,76,85,83,72]
  ·subst h48;exact Blo b r hb hx' hr
  exfalso
  have hw:=Bi7 w (eq_false h0) (eq_false h1) (eq_false h2) (eq_false h3) (eq_false h4) (eq_false h5) (eq_false h6) (eq_false h7) (eq_false h8) (eq_false h9) (eq_false h10) (eq_false h11) (eq_false h12) (eq_false h13) (eq_false h14) (eq_false h15) (eq_false h16) (eq_false h17) (eq_false h18) (eq_false h19) (eq_false h20) (eq_false h21) (eq_false h22) (eq_false h23) (eq_false h24) (eq_false h25) (eq_false h26) (eq_false h27) (eq_false h28) (eq_false h29) (eq_false h30) (eq_false h31) (eq_false h32) (eq_false h33) (eq_false h34) (eq_false h35) (eq_false h36) (eq_false h37) (eq_false h38) (eq_false h39) (eq_false h40) (eq_false h41) (eq_false h42) (eq_false h43) (eq_false h44) (eq_false h45) (eq_false h46) (eq_false h47) (eq_false h48)
  unfold Cr at hr
  rw[show(w::r).getD 0 []=w from rfl,hw] at hr
  simp at hr
 ·have hd:rDo b (w::r)=(b,Dh (Cr b (w::r))):=by unfold rDo;rw[if_neg hr]
  rw[hd]
  refine Bb fun H=> ?_
  refine Bh (fn:=f65) rfl rfl ?_
  have p1:=D5 b (w::r) hb.sm (by omega) (by simp)
  have p2:=Bv (Cr b (w::r))
  generalize Cr b (w::r)=t at*
  simp only[Bf,List.map_cons,List.map_nil] at p1
  simp(maxSteps:=1000000) [Ce,-List.getD_eq_getElem?_getD,-List.map_map,f65,p1,p2,eq_false hr,Bl,Dh]
end Go.Proofs.YtpajcoanfkeibaaGreatDoor.Code

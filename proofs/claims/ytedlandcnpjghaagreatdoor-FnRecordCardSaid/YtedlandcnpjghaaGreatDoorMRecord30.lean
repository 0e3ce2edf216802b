/- Lemmas (several texts in one). -/
import Derived.Test.YtedlandcnpjghaaGreatDoorMRecord7
import Derived.Test.YtedlandcnpjghaaGreatDoorMRecord29
set_option maxRecDepth 100000
set_option maxHeartbeats 2000000
set_option linter.unusedSimpArgs false
set_option linter.unusedVariables false
namespace Go.Proofs.YtedlandcnpjghaaGreatDoor.Code
open Go Go.Ev Go.Proofs
def Di (b:Ba) (w:Bl) (r:List Bl):Ba×Re:=
 if w=[71,69,84] then Bsh b (r.getD 0 []) else
 if w=[83,84,82,76,69,78] then Ya b (r.getD 0 []) else
 if w=[73,78,67,82] then Bck b (r.getD 0 []) [49] else
 if w=[83,69,84] then Bo3 b (r.getD 0 []) (r.getD 1 []) else
 if w=[65,80,80,69,78,68] then Ug b (r.getD 0 []) (r.getD 1 []) else
 if w=[73,78,67,82,66,89] then Bck b (r.getD 0 []) (r.getD 1 []) else
 if w=[71,69,84,82,65,78,71,69] then Nz b (r.getD 0 []) (r.getD 1 []) (r.getD 2 []) else
 if w=[76,80,85,83,72] then Td b (r.getD 0 []) true (r.drop 1) else
 if w=[82,80,85,83,72] then Td b (r.getD 0 []) false (r.drop 1) else
 if w=[76,80,79,80] then Bcn b (r.getD 0 []) true else
 if w=[82,80,79,80] then Bcn b (r.getD 0 []) false else
 if w=[76,76,69,78] then U0 b (r.getD 0 []) else
 if w=[76,82,65,78,71,69] then Uj b (r.getD 0 []) (r.getD 1 []) (r.getD 2 []) else
 if w=[76,84,82,73,77] then Y6 b (r.getD 0 []) (r.getD 1 []) (r.getD 2 []) else
 if w=[76,83,69,84] then Beq b (r.getD 0 []) (r.getD 1 []) (r.getD 2 []) else
 if w=[76,82,69,77] then Bep b (r.getD 0 []) (r.getD 1 []) (r.getD 2 []) else
 if w=[83,65,68,68] then Ber b (r.getD 0 []) (r.drop 1) else
 if w=[83,82,69,77] then Bes b (r.getD 0 []) (r.drop 1) else
 if w=[83,77,69,77,66,69,82,83] then Qu b (r.getD 0 []) else
 if w=[83,67,65,82,68] then U0 b (r.getD 0 []) else
 if w=[83,73,83,77,69,77,66,69,82] then Po b (r.getD 0 []) (r.getD 1 []) else
 if w=[83,73,78,84,69,82] then X9 b (r.getD 0 []) (r.getD 1 []) else
 if w=[83,85,78,73,79,78] then Yb b (r.getD 0 []) (r.getD 1 []) else
 if w=[83,68,73,70,70] then Bco b (r.getD 0 []) (r.getD 1 []) else
 if w=[90,65,68,68] then Bet b (r.getD 0 []) (r.getD 1 []) (r.getD 2 []) else
 if w=[90,73,78,67,82,66,89] then Qv b (r.getD 0 []) (r.getD 1 []) (r.getD 2 []) else
 if w=[90,82,65,78,71,69] then Ul b (r.getD 0 []) (r.getD 1 []) (r.getD 2 []) else
 if w=[90,82,65,78,71,69,66,89,83,67,79,82,69] then Jt b (r.getD 0 []) (r.getD 1 []) (r.getD 2 []) else
 if w=[90,82,69,77] then Beu b (r.getD 0 []) (r.getD 1 []) else
 if w=[90,83,67,79,82,69] then Yc b (r.getD 0 []) (r.getD 1 []) else
 if w=[90,82,65,78,75] then Bcr b (r.getD 0 []) (r.getD 1 []) else
 if w=[90,67,65,82,68] then Bcq b (r.getD 0 []) else
 if w=[72,83,69,84] then Beo b (r.getD 0 []) (r.getD 1 []) (r.getD 2 []) else
 if w=[72,71,69,84] then Bic b (r.getD 0 []) (r.getD 1 []) else
 if w=[72,68,69,76] then Ben b (r.getD 0 []) (r.getD 1 []) else
 if w=[72,71,69,84,65,76,76] then Tc b (r.getD 0 []) else
 if w=[72,76,69,78] then Bid b (r.getD 0 []) else
 if w=[72,73,78,67,82,66,89] then Qs b (r.getD 0 []) (r.getD 1 []) (r.getD 2 []) else
 if w=[68,69,76] then Bo0 b r else
 if w=[69,88,73,83,84,83] then Uh b r else
 if w=[84,89,80,69] then Bih b (r.getD 0 []) else
 if w=[84,84,76] then Bsl b (r.getD 0 []) else
 if w=[80,69,82,83,73,83,84] then Qt b (r.getD 0 []) else
 if w=[69,88,80,73,82,69] then Ui b (r.getD 0 []) (r.getD 1 []) else
 if w=[69,88,80,73,82,69,65,84] then Ny b (r.getD 0 []) (r.getD 1 []) else
 if w=[82,69,78,65,77,69] then Uk b (r.getD 0 []) (r.getD 1 []) else
 if w=[75,69,89,83] then Bie b (r.getD 0 []) else
 if w=[68,66,83,73,90,69] then X6 b else
 if w=[70,76,85,83,72] then Y4 b else
 (b,Dq [117,110,107,110,111,119,110])
def rDo (b:Ba) (args:List Bl):Ba×Re:=if Cr b args=[] then Di b (args.getD 0 []) args.tail else(b,Dq (Cr b args))
theorem Bz {b:Ba} {w:Bl} {r:List Bl} (h:Cr b (w::r)=[]): (Bh w).1≤(r.length:Int)+1∧(r.length:Int)+1≤(Bh w).2.1:=by
 unfold Cr at h
 have e0: (w::r).getD 0 []=w:=rfl
 have e2: ((w::r).length:Int)=(r.length:Int)+1:=by rw[List.length_cons];omega
 rw[e0,e2] at h
 split at h
 ·simp at h
 ·split at h
  ·simp at h
  ·rename_i h2;exact Decidable.not_not.1 h2
theorem Bt4 (b:Ba) (r:List Bl) (hb:BaG b) (ha: ∀x∈r,x.length≤40) (hr:Cr b ([71,69,84]::r)=[]):Be (ev R) 46 [.d (D6 b), .d (Bf ([71,69,84]::r))]=some (Bj (Di b [71,69,84] r)):=Bb fun H=>by
 refine Bo (fn:=f46) rfl rfl ?_
 have hl:=Bz hr
 have wv:Bh [71,69,84]=(2,2,1):=rfl
 rw[wv] at hl
 dsimp only at hl
 obtain⟨k,rfl⟩: ∃k,r=[k]:=by
  match r,hl with
  | [],hl=>exact absurd hl (by simp)
  | [k],_=>exact⟨k,rfl⟩
  |k::z::ts,hl=>exact absurd hl (by simp only[List.length_cons];omega)
 have hk:k.length≤40:=ha k (by simp)
 have p1:=Gn b ([[71,69,84],k]) hb.sm (by simp only[List.length_cons,List.length_nil];omega) (by simp)
 rw[hr] at p1
 have p2:=Gm [71,69,84]
 rw[wv] at p2
 have p3:=Br4 b k hb hk
 have re:Di b [71,69,84] [k]=Bsh b k:=rfl
 rw[re]
 generalize Bsh b k=P at*
 simp only[Bf,List.map_cons,List.map_nil] at p1 p3
 simp(maxSteps:=1000000) [Cq,-List.getD_eq_getElem?_getD,-List.map_map,f46,p1,p2,p3,Bj]
theorem Bjh (b:Ba) (r:List Bl) (hb:BaG b) (ha: ∀x∈r,x.length≤40) (hr:Cr b ([83,84,82,76,69,78]::r)=[]):Be (ev R) 46 [.d (D6 b), .d (Bf ([83,84,82,76,69,78]::r))]=some (Bj (Di b [83,84,82,76,69,78] r)):=Bb fun H=>by
 refine Bo (fn:=f46) rfl rfl ?_
 have hl:=Bz hr
 have wv:Bh [83,84,82,76,69,78]=(2,2,1):=rfl
 rw[wv] at hl
 dsimp only at hl
 obtain⟨k,rfl⟩: ∃k,r=[k]:=by
  match r,hl with
  | [],hl=>exact absurd hl (by simp)
  | [k],_=>exact⟨k,rfl⟩
  |k::z::ts,hl=>exact absurd hl (by simp only[List.length_cons];omega)
 have hk:k.length≤40:=ha k (by simp)
 have p1:=Gn b ([[83,84,82,76,69,78],k]) hb.sm (by simp only[List.length_cons,List.length_nil];omega) (by simp)
 rw[hr] at p1
 have p2:=Gm [83,84,82,76,69,78]
 rw[wv] at p2
 have p3:=Bhy b k hb hk
 have re:Di b [83,84,82,76,69,78] [k]=Ya b k:=rfl
 rw[re]
 generalize Ya b k=P at*
 simp only[Bf,List.map_cons,List.map_nil] at p1 p3
 simp(maxSteps:=1000000) [Cq,-List.getD_eq_getElem?_getD,-List.map_map,f46,p1,p2,p3,Bj]
theorem Bp1 (b:Ba) (r:List Bl) (hb:BaG b) (ha: ∀x∈r,x.length≤40) (hr:Cr b ([73,78,67,82]::r)=[]):Be (ev R) 46 [.d (D6 b), .d (Bf ([73,78,67,82]::r))]=some (Bj (Di b [73,78,67,82] r)):=Bb fun H=>by
 refine Bo (fn:=f46) rfl rfl ?_
 have hl:=Bz hr
 have wv:Bh [73,78,67,82]=(2,2,1):=rfl
 rw[wv] at hl
 dsimp only at hl
 obtain⟨k,rfl⟩: ∃k,r=[k]:=by
  match r,hl with
  | [],hl=>exact absurd hl (by simp)
  | [k],_=>exact⟨k,rfl⟩
  |k::z::ts,hl=>exact absurd hl (by simp only[List.length_cons];omega)
 have hk:k.length≤40:=ha k (by simp)
 have p1:=Gn b ([[73,78,67,82],k]) hb.sm (by simp only[List.length_cons,List.length_nil];omega) (by simp)
 rw[hr] at p1
 have p2:=Gm [73,78,67,82]
 rw[wv] at p2
 have p3:=Bof b k hb hk
 have re:Di b [73,78,67,82] [k]=Bck b k [49]:=rfl
 rw[re]
 generalize Bck b k [49]=P at*
 simp only[Bf,List.map_cons,List.map_nil] at p1 p3
 simp(maxSteps:=1000000) [Cq,-List.getD_eq_getElem?_getD,-List.map_map,f46,p1,p2,p3,Bj]
theorem Bt5 (b:Ba) (r:List Bl) (hb:BaG b) (ha: ∀x∈r,x.length≤40) (hr:Cr b ([83,69,84]::r)=[]):Be (ev R) 46 [.d (D6 b), .d (Bf ([83,69,84]::r))]=some (Bj (Di b [83,69,84] r)):=Bb fun H=>by
 refine Bo (fn:=f46) rfl rfl ?_
 have hl:=Bz hr
 have wv:Bh [83,69,84]=(3,3,0):=rfl
 rw[wv] at hl
 dsimp only at hl
 obtain⟨k,x,rfl⟩: ∃k x,r=[k,x]:=by
  match r,hl with
  | [],hl=>exact absurd hl (by simp)
  | [a0],hl=>exact absurd hl (by simp)
  | [k,x],_=>exact⟨k,x,rfl⟩
  |k::x::z::ts,hl=>exact absurd hl (by simp only[List.length_cons];omega)
 have hk:k.length≤40:=ha k (by simp)
 have hx:x.length≤40:=ha x (by simp)
 have p1:=Gn b ([[83,69,84],k,x]) hb.sm (by simp only[List.length_cons,List.length_nil];omega) (by simp)
 rw[hr] at p1
 have p2:=Gm [83,69,84]
 rw[wv] at p2
 have p3:=Br5 b k x hb hk hx
 have re:Di b [83,69,84] [k,x]=Bo3 b k x:=rfl
 rw[re]
 generalize Bo3 b k x=P at*
 simp only[Bf,List.map_cons,List.map_nil] at p1 p3
 simp(maxSteps:=1000000) [Cq,-List.getD_eq_getElem?_getD,-List.map_map,f46,p1,p2,p3,Bj]
theorem Bi9 (b:Ba) (r:List Bl) (hb:BaG b) (ha: ∀x∈r,x.length≤40) (hr:Cr b ([65,80,80,69,78,68]::r)=[]):Be (ev R) 46 [.d (D6 b), .d (Bf ([65,80,80,69,78,68]::r))]=some (Bj (Di b [65,80,80,69,78,68] r)):=Bb fun H=>by
 refine Bo (fn:=f46) rfl rfl ?_
 have hl:=Bz hr
 have wv:Bh [65,80,80,69,78,68]=(3,3,1):=rfl
 rw[wv] at hl
 dsimp only at hl
 obtain⟨k,x,rfl⟩: ∃k x,r=[k,x]:=by
  match r,hl with
  | [],hl=>exact absurd hl (by simp)
  | [a0],hl=>exact absurd hl (by simp)
  | [k,x],_=>exact⟨k,x,rfl⟩
  |k::x::z::ts,hl=>exact absurd hl (by simp only[List.length_cons];omega)
 have hk:k.length≤40:=ha k (by simp)
 have hx:x.length≤40:=ha x (by simp)
 have p1:=Gn b ([[65,80,80,69,78,68],k,x]) hb.sm (by simp only[List.length_cons,List.length_nil];omega) (by simp)
 rw[hr] at p1
 have p2:=Gm [65,80,80,69,78,68]
 rw[wv] at p2
 have p3:=Bhw b k x hb hk hx
 have re:Di b [65,80,80,69,78,68] [k,x]=Ug b k x:=rfl
 rw[re]
 generalize Ug b k x=P at*
 simp only[Bf,List.map_cons,List.map_nil] at p1 p3
 simp(maxSteps:=1000000) [Cq,-List.getD_eq_getElem?_getD,-List.map_map,f46,p1,p2,p3,Bj]
theorem Bjd (b:Ba) (r:List Bl) (hb:BaG b) (ha: ∀x∈r,x.length≤40) (hr:Cr b ([73,78,67,82,66,89]::r)=[]):Be (ev R) 46 [.d (D6 b), .d (Bf ([73,78,67,82,66,89]::r))]=some (Bj (Di b [73,78,67,82,66,89] r)):=Bb fun H=>by
 refine Bo (fn:=f46) rfl rfl ?_
 have hl:=Bz hr
 have wv:Bh [73,78,67,82,66,89]=(3,3,1):=rfl
 rw[wv] at hl
 dsimp only at hl
 obtain⟨k,x,rfl⟩: ∃k x,r=[k,x]:=by
  match r,hl with
  | [],hl=>exact absurd hl (by simp)
  | [a0],hl=>exact absurd hl (by simp)
  | [k,x],_=>exact⟨k,x,rfl⟩
  |k::x::z::ts,hl=>exact absurd hl (by simp only[List.length_cons];omega)
 have hk:k.length≤40:=ha k (by simp)
 have hx:x.length≤40:=ha x (by simp)
 have p1:=Gn b ([[73,78,67,82,66,89],k,x]) hb.sm (by simp only[List.length_cons,List.length_nil];omega) (by simp)
 rw[hr] at p1
 have p2:=Gm [73,78,67,82,66,89]
 rw[wv] at p2
 have p3:=Bhx b k x hb hk hx
 have re:Di b [73,78,67,82,66,89] [k,x]=Bck b k x:=rfl
 rw[re]
 generalize Bck b k x=P at*
 simp only[Bf,List.map_cons,List.map_nil] at p1 p3
 simp(maxSteps:=1000000) [Cq,-List.getD_eq_getElem?_getD,-List.map_map,f46,p1,p2,p3,Bj]
theorem Bdi (b:Ba) (r:List Bl) (hb:BaG b) (ha: ∀x∈r,x.length≤40) (hr:Cr b ([71,69,84,82,65,78,71,69]::r)=[]):Be (ev R) 46 [.d (D6 b), .d (Bf ([71,69,84,82,65,78,71,69]::r))]=some (Bj (Di b [71,69,84,82,65,78,71,69] r)):=Bb fun H=>by
 refine Bo (fn:=f46) rfl rfl ?_
 have hl:=Bz hr
 have wv:Bh [71,69,84,82,65,78,71,69]=(4,4,1):=rfl
 rw[wv] at hl
 dsimp only at hl
 obtain⟨k,x,y,rfl⟩: ∃k x y,r=[k,x,y]:=by
  match r,hl with
  | [],hl=>exact absurd hl (by simp)
  | [a0],hl=>exact absurd hl (by simp)
  | [a0,a1],hl=>exact absurd hl (by simp)
  | [k,x,y],_=>exact⟨k,x,y,rfl⟩
  |k::x::y::z::ts,hl=>exact absurd hl (by simp only[List.length_cons];omega)
 have hk:k.length≤40:=ha k (by simp)
 have hx:x.length≤40:=ha x (by simp)
 have hy:y.length≤40:=ha y (by simp)
 have p1:=Gn b ([[71,69,84,82,65,78,71,69],k,x,y]) hb.sm (by simp only[List.length_cons,List.length_nil];omega) (by simp)
 rw[hr] at p1
 have p2:=Gm [71,69,84,82,65,78,71,69]
 rw[wv] at p2
 have p3:=Bda b k x y hb hk hx hy
 have re:Di b [71,69,84,82,65,78,71,69] [k,x,y]=Nz b k x y:=rfl
 rw[re]
 generalize Nz b k x y=P at*
 simp only[Bf,List.map_cons,List.map_nil] at p1 p3
 simp(maxSteps:=1000000) [Cq,-List.getD_eq_getElem?_getD,-List.map_map,f46,p1,p2,p3,Bj]
theorem Blv (b:Ba) (r:List Bl) (hb:BaG b) (ha: ∀x∈r,x.length≤40) (hr:Cr b ([76,80,85,83,72]::r)=[]):Be (ev R) 46 [.d (D6 b), .d (Bf ([76,80,85,83,72]::r))]=some (Bj (Di b [76,80,85,83,72] r)):=Bb fun H=>by
 refine Bo (fn:=f46) rfl rfl ?_
 have hl:=Bz hr
 have wv:Bh [76,80,85,83,72]=(3,8,2):=rfl
 rw[wv] at hl
 dsimp only at hl
 obtain⟨k,ts,rfl⟩: ∃k ts,r=k::ts:=by
  match r,hl with
  | [],hl=>simp at hl
  |k::ts,_=>exact⟨k,ts,rfl⟩
 simp only[List.length_cons] at hl
 have hk:k.length≤40:=ha k (by simp)
 have c00: (0:Int)< (ts.length:Int)+1+1:=by omega
 have p1:=Gn b ([76,80,85,83,72]::k::ts) hb.sm (by simp only[List.length_cons,List.length_nil];omega) (by simp)
 rw[hr] at p1
 have p2:=Gm [76,80,85,83,72]
 rw[wv] at p2
 have p3:=Bks b k ts hb hk (by omega)
 have re:Di b [76,80,85,83,72] (k::ts)=Td b k true ts:=rfl
 rw[re]
 generalize Td b k true ts=P at*
 simp only[Bf,List.map_cons,List.map_nil] at p1 p3
 simp(maxSteps:=1000000) [Cq,-List.getD_eq_getElem?_getD,-List.map_map,f46,p1,p2,p3,Bj,c00]
theorem Blx (b:Ba) (r:List Bl) (hb:BaG b) (ha: ∀x∈r,x.length≤40) (hr:Cr b ([82,80,85,83,72]::r)=[]):Be (ev R) 46 [.d (D6 b), .d (Bf ([82,80,85,83,72]::r))]=some (Bj (Di b [82,80,85,83,72] r)):=Bb fun H=>by
 refine Bo (fn:=f46) rfl rfl ?_
 have hl:=Bz hr
 have wv:Bh [82,80,85,83,72]=(3,8,2):=rfl
 rw[wv] at hl
 dsimp only at hl
 obtain⟨k,ts,rfl⟩: ∃k ts,r=k::ts:=by
  match r,hl with
  | [],hl=>simp at hl
  |k::ts,_=>exact⟨k,ts,rfl⟩
 simp only[List.length_cons] at hl
 have hk:k.length≤40:=ha k (by simp)
 have c00: (0:Int)< (ts.length:Int)+1+1:=by omega
 have p1:=Gn b ([82,80,85,83,72]::k::ts) hb.sm (by simp only[List.length_cons,List.length_nil];omega) (by simp)
 rw[hr] at p1
 have p2:=Gm [82,80,85,83,72]
 rw[wv] at p2
 have p3:=Bku b k ts hb hk (by omega)
 have re:Di b [82,80,85,83,72] (k::ts)=Td b k false ts:=rfl
 rw[re]
 generalize Td b k false ts=P at*
 simp only[Bf,List.map_cons,List.map_nil] at p1 p3
 simp(maxSteps:=1000000) [Cq,-List.getD_eq_getElem?_getD,-List.map_map,f46,p1,p2,p3,Bj,c00]
theorem Bp4 (b:Ba) (r:List Bl) (hb:BaG b) (ha: ∀x∈r,x.length≤40) (hr:Cr b ([76,80,79,80]::r)=[]):Be (ev R) 46 [.d (D6 b), .d (Bf ([76,80,79,80]::r))]=some (Bj (Di b [76,80,79,80] r)):=Bb fun H=>by
 refine Bo (fn:=f46) rfl rfl ?_
 have hl:=Bz hr
 have wv:Bh [76,80,79,80]=(2,2,2):=rfl
 rw[wv] at hl
 dsimp only at hl
 obtain⟨k,rfl⟩: ∃k,r=[k]:=by
  match r,hl with
  | [],hl=>exact absurd hl (by simp)
  | [k],_=>exact⟨k,rfl⟩
  |k::z::ts,hl=>exact absurd hl (by simp only[List.length_cons];omega)
 have hk:k.length≤40:=ha k (by simp)
 have p1:=Gn b ([[76,80,79,80],k]) hb.sm (by simp only[List.length_cons,List.length_nil];omega) (by simp)
 rw[hr] at p1
 have p2:=Gm [76,80,79,80]
 rw[wv] at p2
 have p3:=Boh b k hb hk
 have re:Di b [76,80,79,80] [k]=Bcn b k true:=rfl
 rw[re]
 generalize Bcn b k true=P at*
 simp only[Bf,List.map_cons,List.map_nil] at p1 p3
 simp(maxSteps:=1000000) [Cq,-List.getD_eq_getElem?_getD,-List.map_map,f46,p1,p2,p3,Bj]
theorem Bp7 (b:Ba) (r:List Bl) (hb:BaG b) (ha: ∀x∈r,x.length≤40) (hr:Cr b ([82,80,79,80]::r)=[]):Be (ev R) 46 [.d (D6 b), .d (Bf ([82,80,79,80]::r))]=some (Bj (Di b [82,80,79,80] r)):=Bb fun H=>by
 refine Bo (fn:=f46) rfl rfl ?_
 have hl:=Bz hr
 have wv:Bh [82,80,79,80]=(2,2,2):=rfl
 rw[wv] at hl
 dsimp only at hl
 obtain⟨k,rfl⟩: ∃k,r=[k]:=by
  match r,hl with
  | [],hl=>exact absurd hl (by simp)
  | [k],_=>exact⟨k,rfl⟩
  |k::z::ts,hl=>exact absurd hl (by simp only[List.length_cons];omega)
 have hk:k.length≤40:=ha k (by simp)
 have p1:=Gn b ([[82,80,79,80],k]) hb.sm (by simp only[List.length_cons,List.length_nil];omega) (by simp)
 rw[hr] at p1
 have p2:=Gm [82,80,79,80]
 rw[wv] at p2
 have p3:=Bok b k hb hk
 have re:Di b [82,80,79,80] [k]=Bcn b k false:=rfl
 rw[re]
 generalize Bcn b k false=P at*
 simp only[Bf,List.map_cons,List.map_nil] at p1 p3
 simp(maxSteps:=1000000) [Cq,-List.getD_eq_getElem?_getD,-List.map_map,f46,p1,p2,p3,Bj]
theorem Bp3 (b:Ba) (r:List Bl) (hb:BaG b) (ha: ∀x∈r,x.length≤40) (hr:Cr b ([76,76,69,78]::r)=[]):Be (ev R) 46 [.d (D6 b), .d (Bf ([76,76,69,78]::r))]=some (Bj (Di b [76,76,69,78] r)):=Bb fun H=>by
 refine Bo (fn:=f46) rfl rfl ?_
 have hl:=Bz hr
 have wv:Bh [76,76,69,78]=(2,2,2):=rfl
 rw[wv] at hl
 dsimp only at hl
 obtain⟨k,rfl⟩: ∃k,r=[k]:=by
  match r,hl with
  | [],hl=>exact absurd hl (by simp)
  | [k],_=>exact⟨k,rfl⟩
  |k::z::ts,hl=>exact absurd hl (by simp only[List.length_cons];omega)
 have hk:k.length≤40:=ha k (by simp)
 have p1:=Gn b ([[76,76,69,78],k]) hb.sm (by simp only[List.length_cons,List.length_nil];omega) (by simp)
 rw[hr] at p1
 have p2:=Gm [76,76,69,78]
 rw[wv] at p2
 have p3:=Bog b k hb hk
 have re:Di b [76,76,69,78] [k]=U0 b k:=rfl
 rw[re]
 generalize U0 b k=P at*
 simp only[Bf,List.map_cons,List.map_nil] at p1 p3
 simp(maxSteps:=1000000) [Cq,-List.getD_eq_getElem?_getD,-List.map_map,f46,p1,p2,p3,Bj]
theorem Bje (b:Ba) (r:List Bl) (hb:BaG b) (ha: ∀x∈r,x.length≤40) (hr:Cr b ([76,82,65,78,71,69]::r)=[]):Be (ev R) 46 [.d (D6 b), .d (Bf ([76,82,65,78,71,69]::r))]=some (Bj (Di b [76,82,65,78,71,69] r)):=Bb fun H=>by
 refine Bo (fn:=f46) rfl rfl ?_
 have hl:=Bz hr
 have wv:Bh [76,82,65,78,71,69]=(4,4,2):=rfl
 rw[wv] at hl
 dsimp only at hl
 obtain⟨k,x,y,rfl⟩: ∃k x y,r=[k,x,y]:=by
  match r,hl with
  | [],hl=>exact absurd hl (by simp)
  | [a0],hl=>exact absurd hl (by simp)
  | [a0,a1],hl=>exact absurd hl (by simp)
  | [k,x,y],_=>exact⟨k,x,y,rfl⟩
  |k::x::y::z::ts,hl=>exact absurd hl (by simp only[List.length_cons];omega)
 have hk:k.length≤40:=ha k (by simp)
 have hx:x.length≤40:=ha x (by simp)
 have hy:y.length≤40:=ha y (by simp)
 have p1:=Gn b ([[76,82,65,78,71,69],k,x,y]) hb.sm (by simp only[List.length_cons,List.length_nil];omega) (by simp)
 rw[hr] at p1
 have p2:=Gm [76,82,65,78,71,69]
 rw[wv] at p2
 have p3:=Bhz b k x y hb hk hx hy
 have re:Di b [76,82,65,78,71,69] [k,x,y]=Uj b k x y:=rfl
 rw[re]
 generalize Uj b k x y=P at*
 simp only[Bf,List.map_cons,List.map_nil] at p1 p3
 simp(maxSteps:=1000000) [Cq,-List.getD_eq_getElem?_getD,-List.map_map,f46,p1,p2,p3,Bj]
theorem Blw (b:Ba) (r:List Bl) (hb:BaG b) (ha: ∀x∈r,x.length≤40) (hr:Cr b ([76,84,82,73,77]::r)=[]):Be (ev R) 46 [.d (D6 b), .d (Bf ([76,84,82,73,77]::r))]=some (Bj (Di b [76,84,82,73,77] r)):=Bb fun H=>by
 refine Bo (fn:=f46) rfl rfl ?_
 have hl:=Bz hr
 have wv:Bh [76,84,82,73,77]=(4,4,2):=rfl
 rw[wv] at hl
 dsimp only at hl
 obtain⟨k,x,y,rfl⟩: ∃k x y,r=[k,x,y]:=by
  match r,hl with
  | [],hl=>exact absurd hl (by simp)
  | [a0],hl=>exact absurd hl (by simp)
  | [a0,a1],hl=>exact absurd hl (by simp)
  | [k,x,y],_=>exact⟨k,x,y,rfl⟩
  |k::x::y::z::ts,hl=>exact absurd hl (by simp only[List.length_cons];omega)
 have hk:k.length≤40:=ha k (by simp)
 have hx:x.length≤40:=ha x (by simp)
 have hy:y.length≤40:=ha y (by simp)
 have p1:=Gn b ([[76,84,82,73,77],k,x,y]) hb.sm (by simp only[List.length_cons,List.length_nil];omega) (by simp)
 rw[hr] at p1
 have p2:=Gm [76,84,82,73,77]
 rw[wv] at p2
 have p3:=Bkt b k x y hb hk hx hy
 have re:Di b [76,84,82,73,77] [k,x,y]=Y6 b k x y:=rfl
 rw[re]
 generalize Y6 b k x y=P at*
 simp only[Bf,List.map_cons,List.map_nil] at p1 p3
 simp(maxSteps:=1000000) [Cq,-List.getD_eq_getElem?_getD,-List.map_map,f46,p1,p2,p3,Bj]
theorem Bp6 (b:Ba) (r:List Bl) (hb:BaG b) (ha: ∀x∈r,x.length≤40) (hr:Cr b ([76,83,69,84]::r)=[]):Be (ev R) 46 [.d (D6 b), .d (Bf ([76,83,69,84]::r))]=some (Bj (Di b [76,83,69,84] r)):=Bb fun H=>by
 refine Bo (fn:=f46) rfl rfl ?_
 have hl:=Bz hr
 have wv:Bh [76,83,69,84]=(4,4,2):=rfl
 rw[wv] at hl
 dsimp only at hl
 obtain⟨k,x,y,rfl⟩: ∃k x y,r=[k,x,y]:=by
  match r,hl with
  | [],hl=>exact absurd hl (by simp)
  | [a0],hl=>exact absurd hl (by simp)
  | [a0,a1],hl=>exact absurd hl (by simp)
  | [k,x,y],_=>exact⟨k,x,y,rfl⟩
  |k::x::y::z::ts,hl=>exact absurd hl (by simp only[List.length_cons];omega)
 have hk:k.length≤40:=ha k (by simp)
 have hx:x.length≤40:=ha x (by simp)
 have hy:y.length≤40:=ha y (by simp)
 have p1:=Gn b ([[76,83,69,84],k,x,y]) hb.sm (by simp only[List.length_cons,List.length_nil];omega) (by simp)
 rw[hr] at p1
 have p2:=Gm [76,83,69,84]
 rw[wv] at p2
 have p3:=Boj b k x y hb hk hx hy
 have re:Di b [76,83,69,84] [k,x,y]=Beq b k x y:=rfl
 rw[re]
 generalize Beq b k x y=P at*
 simp only[Bf,List.map_cons,List.map_nil] at p1 p3
 simp(maxSteps:=1000000) [Cq,-List.getD_eq_getElem?_getD,-List.map_map,f46,p1,p2,p3,Bj]
theorem Bp5 (b:Ba) (r:List Bl) (hb:BaG b) (ha: ∀x∈r,x.length≤40) (hr:Cr b ([76,82,69,77]::r)=[]):Be (ev R) 46 [.d (D6 b), .d (Bf ([76,82,69,77]::r))]=some (Bj (Di b [76,82,69,77] r)):=Bb fun H=>by
 refine Bo (fn:=f46) rfl rfl ?_
 have hl:=Bz hr
 have wv:Bh [76,82,69,77]=(4,4,2):=rfl
 rw[wv] at hl
 dsimp only at hl
 obtain⟨k,x,y,rfl⟩: ∃k x y,r=[k,x,y]:=by
  match r,hl with
  | [],hl=>exact absurd hl (by simp)
  | [a0],hl=>exact absurd hl (by simp)
  | [a0,a1],hl=>exact absurd hl (by simp)
  | [k,x,y],_=>exact⟨k,x,y,rfl⟩
  |k::x::y::z::ts,hl=>exact absurd hl (by simp only[List.length_cons];omega)
 have hk:k.length≤40:=ha k (by simp)
 have hx:x.length≤40:=ha x (by simp)
 have hy:y.length≤40:=ha y (by simp)
 have p1:=Gn b ([[76,82,69,77],k,x,y]) hb.sm (by simp only[List.length_cons,List.length_nil];omega) (by simp)
 rw[hr] at p1
 have p2:=Gm [76,82,69,77]
 rw[wv] at p2
 have p3:=Boi b k x y hb hk hx hy
 have re:Di b [76,82,69,77] [k,x,y]=Bep b k x y:=rfl
 rw[re]
 generalize Bep b k x y=P at*
 simp only[Bf,List.map_cons,List.map_nil] at p1 p3
 simp(maxSteps:=1000000) [Cq,-List.getD_eq_getElem?_getD,-List.map_map,f46,p1,p2,p3,Bj]
theorem Bp8 (b:Ba) (r:List Bl) (hb:BaG b) (ha: ∀x∈r,x.length≤40) (hr:Cr b ([83,65,68,68]::r)=[]):Be (ev R) 46 [.d (D6 b), .d (Bf ([83,65,68,68]::r))]=some (Bj (Di b [83,65,68,68] r)):=Bb fun H=>by
 refine Bo (fn:=f46) rfl rfl ?_
 have hl:=Bz hr
 have wv:Bh [83,65,68,68]=(3,8,3):=rfl
 rw[wv] at hl
 dsimp only at hl
 obtain⟨k,ts,rfl⟩: ∃k ts,r=k::ts:=by
  match r,hl with
  | [],hl=>simp at hl
  |k::ts,_=>exact⟨k,ts,rfl⟩
 simp only[List.length_cons] at hl
 have hk:k.length≤40:=ha k (by simp)
 have c00: (0:Int)< (ts.length:Int)+1+1:=by omega
 have p1:=Gn b ([83,65,68,68]::k::ts) hb.sm (by simp only[List.length_cons,List.length_nil];omega) (by simp)
 rw[hr] at p1
 have p2:=Gm [83,65,68,68]
 rw[wv] at p2
 have p3:=Bol b k ts hb hk (by omega)
 have re:Di b [83,65,68,68] (k::ts)=Ber b k ts:=rfl
 rw[re]
 generalize Ber b k ts=P at*
 simp only[Bf,List.map_cons,List.map_nil] at p1 p3
 simp(maxSteps:=1000000) [Cq,-List.getD_eq_getElem?_getD,-List.map_map,f46,p1,p2,p3,Bj,c00]
theorem Bp9 (b:Ba) (r:List Bl) (hb:BaG b) (ha: ∀x∈r,x.length≤40) (hr:Cr b ([83,82,69,77]::r)=[]):Be (ev R) 46 [.d (D6 b), .d (Bf ([83,82,69,77]::r))]=some (Bj (Di b [83,82,69,77] r)):=Bb fun H=>by
 refine Bo (fn:=f46) rfl rfl ?_
 have hl:=Bz hr
 have wv:Bh [83,82,69,77]=(3,8,3):=rfl
 rw[wv] at hl
 dsimp only at hl
 obtain⟨k,ts,rfl⟩: ∃k ts,r=k::ts:=by
  match r,hl with
  | [],hl=>simp at hl
  |k::ts,_=>exact⟨k,ts,rfl⟩
 simp only[List.length_cons] at hl
 have hk:k.length≤40:=ha k (by simp)
 have c00: (0:Int)< (ts.length:Int)+1+1:=by omega
 have p1:=Gn b ([83,82,69,77]::k::ts) hb.sm (by simp only[List.length_cons,List.length_nil];omega) (by simp)
 rw[hr] at p1
 have p2:=Gm [83,82,69,77]
 rw[wv] at p2
 have p3:=Bom b k ts hb hk (by omega)
 have re:Di b [83,82,69,77] (k::ts)=Bes b k ts:=rfl
 rw[re]
 generalize Bes b k ts=P at*
 simp only[Bf,List.map_cons,List.map_nil] at p1 p3
 simp(maxSteps:=1000000) [Cq,-List.getD_eq_getElem?_getD,-List.map_map,f46,p1,p2,p3,Bj,c00]
theorem Bdj (b:Ba) (r:List Bl) (hb:BaG b) (ha: ∀x∈r,x.length≤40) (hr:Cr b ([83,77,69,77,66,69,82,83]::r)=[]):Be (ev R) 46 [.d (D6 b), .d (Bf ([83,77,69,77,66,69,82,83]::r))]=some (Bj (Di b [83,77,69,77,66,69,82,83] r)):=Bb fun H=>by
 refine Bo (fn:=f46) rfl rfl ?_
 have hl:=Bz hr
 have wv:Bh [83,77,69,77,66,69,82,83]=(2,2,3):=rfl
 rw[wv] at hl
 dsimp only at hl
 obtain⟨k,rfl⟩: ∃k,r=[k]:=by
  match r,hl with
  | [],hl=>exact absurd hl (by simp)
  | [k],_=>exact⟨k,rfl⟩
  |k::z::ts,hl=>exact absurd hl (by simp only[List.length_cons];omega)
 have hk:k.length≤40:=ha k (by simp)
 have p1:=Gn b ([[83,77,69,77,66,69,82,83],k]) hb.sm (by simp only[List.length_cons,List.length_nil];omega) (by simp)
 rw[hr] at p1
 have p2:=Gm [83,77,69,77,66,69,82,83]
 rw[wv] at p2
 have p3:=Bdb b k hb hk
 have re:Di b [83,77,69,77,66,69,82,83] [k]=Qu b k:=rfl
 rw[re]
 generalize Qu b k=P at*
 simp only[Bf,List.map_cons,List.map_nil] at p1 p3
 simp(maxSteps:=1000000) [Cq,-List.getD_eq_getElem?_getD,-List.map_map,f46,p1,p2,p3,Bj]
theorem Bly (b:Ba) (r:List Bl) (hb:BaG b) (ha: ∀x∈r,x.length≤40) (hr:Cr b ([83,67,65,82,68]::r)=[]):Be (ev R) 46 [.d (D6 b), .d (Bf ([83,67,65,82,68]::r))]=some (Bj (Di b [83,67,65,82,68] r)):=Bb fun H=>by
 refine Bo (fn:=f46) rfl rfl ?_
 have hl:=Bz hr
 have wv:Bh [83,67,65,82,68]=(2,2,3):=rfl
 rw[wv] at hl
 dsimp only at hl
 obtain⟨k,rfl⟩: ∃k,r=[k]:=by
  match r,hl with
  | [],hl=>exact absurd hl (by simp)
  | [k],_=>exact⟨k,rfl⟩
  |k::z::ts,hl=>exact absurd hl (by simp only[List.length_cons];omega)
 have hk:k.length≤40:=ha k (by simp)
 have p1:=Gn b ([[83,67,65,82,68],k]) hb.sm (by simp only[List.length_cons,List.length_nil];omega) (by simp)
 rw[hr] at p1
 have p2:=Gm [83,67,65,82,68]
 rw[wv] at p2
 have p3:=Bkv b k hb hk
 have re:Di b [83,67,65,82,68] [k]=U0 b k:=rfl
 rw[re]
 generalize U0 b k=P at*
 simp only[Bf,List.map_cons,List.map_nil] at p1 p3
 simp(maxSteps:=1000000) [Cq,-List.getD_eq_getElem?_getD,-List.map_map,f46,p1,p2,p3,Bj]
theorem Bc5 (b:Ba) (r:List Bl) (hb:BaG b) (ha: ∀x∈r,x.length≤40) (hr:Cr b ([83,73,83,77,69,77,66,69,82]::r)=[]):Be (ev R) 46 [.d (D6 b), .d (Bf ([83,73,83,77,69,77,66,69,82]::r))]=some (Bj (Di b [83,73,83,77,69,77,66,69,82] r)):=Bb fun H=>by
 refine Bo (fn:=f46) rfl rfl ?_
 have hl:=Bz hr
 have wv:Bh [83,73,83,77,69,77,66,69,82]=(3,3,3):=rfl
 rw[wv] at hl
 dsimp only at hl
 obtain⟨k,x,rfl⟩: ∃k x,r=[k,x]:=by
  match r,hl with
  | [],hl=>exact absurd hl (by simp)
  | [a0],hl=>exact absurd hl (by simp)
  | [k,x],_=>exact⟨k,x,rfl⟩
  |k::x::z::ts,hl=>exact absurd hl (by simp only[List.length_cons];omega)
 have hk:k.length≤40:=ha k (by simp)
 have hx:x.length≤40:=ha x (by simp)
 have p1:=Gn b ([[83,73,83,77,69,77,66,69,82],k,x]) hb.sm (by simp only[List.length_cons,List.length_nil];omega) (by simp)
 rw[hr] at p1
 have p2:=Gm [83,73,83,77,69,77,66,69,82]
 rw[wv] at p2
 have p3:=Bci b k x hb hk hx
 have re:Di b [83,73,83,77,69,77,66,69,82] [k,x]=Po b k x:=rfl
 rw[re]
 generalize Po b k x=P at*
 simp only[Bf,List.map_cons,List.map_nil] at p1 p3
 simp(maxSteps:=1000000) [Cq,-List.getD_eq_getElem?_getD,-List.map_map,f46,p1,p2,p3,Bj]
theorem Bjg (b:Ba) (r:List Bl) (hb:BaG b) (ha: ∀x∈r,x.length≤40) (hr:Cr b ([83,73,78,84,69,82]::r)=[]):Be (ev R) 46 [.d (D6 b), .d (Bf ([83,73,78,84,69,82]::r))]=some (Bj (Di b [83,73,78,84,69,82] r)):=Bb fun H=>by
 refine Bo (fn:=f46) rfl rfl ?_
 have hl:=Bz hr
 have wv:Bh [83,73,78,84,69,82]=(3,3,3):=rfl
 rw[wv] at hl
 dsimp only at hl
 obtain⟨k,x,rfl⟩: ∃k x,r=[k,x]:=by
  match r,hl with
  | [],hl=>exact absurd hl (by simp)
  | [a0],hl=>exact absurd hl (by simp)
  | [k,x],_=>exact⟨k,x,rfl⟩
  |k::x::z::ts,hl=>exact absurd hl (by simp only[List.length_cons];omega)
 have hk:k.length≤40:=ha k (by simp)
 have hx:x.length≤40:=ha x (by simp)
 have p1:=Gn b ([[83,73,78,84,69,82],k,x]) hb.sm (by simp only[List.length_cons,List.length_nil];omega) (by simp)
 rw[hr] at p1
 have p2:=Gm [83,73,78,84,69,82]
 rw[wv] at p2
 have p3:=Bh0 b k x hb hk hx
 have re:Di b [83,73,78,84,69,82] [k,x]=X9 b k x:=rfl
 rw[re]
 generalize X9 b k x=P at*
 simp only[Bf,List.map_cons,List.map_nil] at p1 p3
 simp(maxSteps:=1000000) [Cq,-List.getD_eq_getElem?_getD,-List.map_map,f46,p1,p2,p3,Bj]
theorem Bji (b:Ba) (r:List Bl) (hb:BaG b) (ha: ∀x∈r,x.length≤40) (hr:Cr b ([83,85,78,73,79,78]::r)=[]):Be (ev R) 46 [.d (D6 b), .d (Bf ([83,85,78,73,79,78]::r))]=some (Bj (Di b [83,85,78,73,79,78] r)):=Bb fun H=>by
 refine Bo (fn:=f46) rfl rfl ?_
 have hl:=Bz hr
 have wv:Bh [83,85,78,73,79,78]=(3,3,3):=rfl
 rw[wv] at hl
 dsimp only at hl
 obtain⟨k,x,rfl⟩: ∃k x,r=[k,x]:=by
  match r,hl with
  | [],hl=>exact absurd hl (by simp)
  | [a0],hl=>exact absurd hl (by simp)
  | [k,x],_=>exact⟨k,x,rfl⟩
  |k::x::z::ts,hl=>exact absurd hl (by simp only[List.length_cons];omega)
 have hk:k.length≤40:=ha k (by simp)
 have hx:x.length≤40:=ha x (by simp)
 have p1:=Gn b ([[83,85,78,73,79,78],k,x]) hb.sm (by simp only[List.length_cons,List.length_nil];omega) (by simp)
 rw[hr] at p1
 have p2:=Gm [83,85,78,73,79,78]
 rw[wv] at p2
 have p3:=Bh1 b k x hb hk hx
 have re:Di b [83,85,78,73,79,78] [k,x]=Yb b k x:=rfl
 rw[re]
 generalize Yb b k x=P at*
 simp only[Bf,List.map_cons,List.map_nil] at p1 p3
 simp(maxSteps:=1000000) [Cq,-List.getD_eq_getElem?_getD,-List.map_map,f46,p1,p2,p3,Bj]
theorem Blz (b:Ba) (r:List Bl) (hb:BaG b) (ha: ∀x∈r,x.length≤40) (hr:Cr b ([83,68,73,70,70]::r)=[]):Be (ev R) 46 [.d (D6 b), .d (Bf ([83,68,73,70,70]::r))]=some (Bj (Di b [83,68,73,70,70] r)):=Bb fun H=>by
 refine Bo (fn:=f46) rfl rfl ?_
 have hl:=Bz hr
 have wv:Bh [83,68,73,70,70]=(3,3,3):=rfl
 rw[wv] at hl
 dsimp only at hl
 obtain⟨k,x,rfl⟩: ∃k x,r=[k,x]:=by
  match r,hl with
  | [],hl=>exact absurd hl (by simp)
  | [a0],hl=>exact absurd hl (by simp)
  | [k,x],_=>exact⟨k,x,rfl⟩
  |k::x::z::ts,hl=>exact absurd hl (by simp only[List.length_cons];omega)
 have hk:k.length≤40:=ha k (by simp)
 have hx:x.length≤40:=ha x (by simp)
 have p1:=Gn b ([[83,68,73,70,70],k,x]) hb.sm (by simp only[List.length_cons,List.length_nil];omega) (by simp)
 rw[hr] at p1
 have p2:=Gm [83,68,73,70,70]
 rw[wv] at p2
 have p3:=Bkw b k x hb hk hx
 have re:Di b [83,68,73,70,70] [k,x]=Bco b k x:=rfl
 rw[re]
 generalize Bco b k x=P at*
 simp only[Bf,List.map_cons,List.map_nil] at p1 p3
 simp(maxSteps:=1000000) [Cq,-List.getD_eq_getElem?_getD,-List.map_map,f46,p1,p2,p3,Bj]
theorem Bqb (b:Ba) (r:List Bl) (hb:BaG b) (ha: ∀x∈r,x.length≤40) (hr:Cr b ([90,65,68,68]::r)=[]):Be (ev R) 46 [.d (D6 b), .d (Bf ([90,65,68,68]::r))]=some (Bj (Di b [90,65,68,68] r)):=Bb fun H=>by
 refine Bo (fn:=f46) rfl rfl ?_
 have hl:=Bz hr
 have wv:Bh [90,65,68,68]=(4,4,4):=rfl
 rw[wv] at hl
 dsimp only at hl
 obtain⟨k,x,y,rfl⟩: ∃k x y,r=[k,x,y]:=by
  match r,hl with
  | [],hl=>exact absurd hl (by simp)
  | [a0],hl=>exact absurd hl (by simp)
  | [a0,a1],hl=>exact absurd hl (by simp)
  | [k,x,y],_=>exact⟨k,x,y,rfl⟩
  |k::x::y::z::ts,hl=>exact absurd hl (by simp only[List.length_cons];omega)
 have hk:k.length≤40:=ha k (by simp)
 have hx:x.length≤40:=ha x (by simp)
 have hy:y.length≤40:=ha y (by simp)
 have p1:=Gn b ([[90,65,68,68],k,x,y]) hb.sm (by simp only[List.length_cons,List.length_nil];omega) (by simp)
 rw[hr] at p1
 have p2:=Gm [90,65,68,68]
 rw[wv] at p2
 have p3:=Bon b k x y hb hk hx hy
 have re:Di b [90,65,68,68] [k,x,y]=Bet b k x y:=rfl
 rw[re]
 generalize Bet b k x y=P at*
 simp only[Bf,List.map_cons,List.map_nil] at p1 p3
 simp(maxSteps:=1000000) [Cq,-List.getD_eq_getElem?_getD,-List.map_map,f46,p1,p2,p3,Bj]
theorem Bgd (b:Ba) (r:List Bl) (hb:BaG b) (ha: ∀x∈r,x.length≤40) (hr:Cr b ([90,73,78,67,82,66,89]::r)=[]):Be (ev R) 46 [.d (D6 b), .d (Bf ([90,73,78,67,82,66,89]::r))]=some (Bj (Di b [90,73,78,67,82,66,89] r)):=Bb fun H=>by
 refine Bo (fn:=f46) rfl rfl ?_
 have hl:=Bz hr
 have wv:Bh [90,73,78,67,82,66,89]=(4,4,4):=rfl
 rw[wv] at hl
 dsimp only at hl
 obtain⟨k,x,y,rfl⟩: ∃k x y,r=[k,x,y]:=by
  match r,hl with
  | [],hl=>exact absurd hl (by simp)
  | [a0],hl=>exact absurd hl (by simp)
  | [a0,a1],hl=>exact absurd hl (by simp)
  | [k,x,y],_=>exact⟨k,x,y,rfl⟩
  |k::x::y::z::ts,hl=>exact absurd hl (by simp only[List.length_cons];omega)
 have hk:k.length≤40:=ha k (by simp)
 have hx:x.length≤40:=ha x (by simp)
 have hy:y.length≤40:=ha y (by simp)
 have p1:=Gn b ([[90,73,78,67,82,66,89],k,x,y]) hb.sm (by simp only[List.length_cons,List.length_nil];omega) (by simp)
 rw[hr] at p1
 have p2:=Gm [90,73,78,67,82,66,89]
 rw[wv] at p2
 have p3:=Bfr b k x y hb hk hx hy
 have re:Di b [90,73,78,67,82,66,89] [k,x,y]=Qv b k x y:=rfl
 rw[re]
 generalize Qv b k x y=P at*
 simp only[Bf,List.map_cons,List.map_nil] at p1 p3
 simp(maxSteps:=1000000) [Cq,-List.getD_eq_getElem?_getD,-List.map_map,f46,p1,p2,p3,Bj]
theorem Bjj (b:Ba) (r:List Bl) (hb:BaG b) (ha: ∀x∈r,x.length≤40) (hr:Cr b ([90,82,65,78,71,69]::r)=[]):Be (ev R) 46 [.d (D6 b), .d (Bf ([90,82,65,78,71,69]::r))]=some (Bj (Di b [90,82,65,78,71,69] r)):=Bb fun H=>by
 refine Bo (fn:=f46) rfl rfl ?_
 have hl:=Bz hr
 have wv:Bh [90,82,65,78,71,69]=(4,4,4):=rfl
 rw[wv] at hl
 dsimp only at hl
 obtain⟨k,x,y,rfl⟩: ∃k x y,r=[k,x,y]:=by
  match r,hl with
  | [],hl=>exact absurd hl (by simp)
  | [a0],hl=>exact absurd hl (by simp)
  | [a0,a1],hl=>exact absurd hl (by simp)
  | [k,x,y],_=>exact⟨k,x,y,rfl⟩
  |k::x::y::z::ts,hl=>exact absurd hl (by simp only[List.length_cons];omega)
 have hk:k.length≤40:=ha k (by simp)
 have hx:x.length≤40:=ha x (by simp)
 have hy:y.length≤40:=ha y (by simp)
 have p1:=Gn b ([[90,82,65,78,71,69],k,x,y]) hb.sm (by simp only[List.length_cons,List.length_nil];omega) (by simp)
 rw[hr] at p1
 have p2:=Gm [90,82,65,78,71,69]
 rw[wv] at p2
 have p3:=Bh2 b k x y hb hk hx hy
 have re:Di b [90,82,65,78,71,69] [k,x,y]=Ul b k x y:=rfl
 rw[re]
 generalize Ul b k x y=P at*
 simp only[Bf,List.map_cons,List.map_nil] at p1 p3
 simp(maxSteps:=1000000) [Cq,-List.getD_eq_getElem?_getD,-List.map_map,f46,p1,p2,p3,Bj]
theorem Ww (b:Ba) (r:List Bl) (hb:BaG b) (ha: ∀x∈r,x.length≤40) (hr:Cr b ([90,82,65,78,71,69,66,89,83,67,79,82,69]::r)=[]):Be (ev R) 46 [.d (D6 b), .d (Bf ([90,82,65,78,71,69,66,89,83,67,79,82,69]::r))]=some (Bj (Di b [90,82,65,78,71,69,66,89,83,67,79,82,69] r)):=Bb fun H=>by
 refine Bo (fn:=f46) rfl rfl ?_
 have hl:=Bz hr
 have wv:Bh [90,82,65,78,71,69,66,89,83,67,79,82,69]=(4,4,4):=rfl
 rw[wv] at hl
 dsimp only at hl
 obtain⟨k,x,y,rfl⟩: ∃k x y,r=[k,x,y]:=by
  match r,hl with
  | [],hl=>exact absurd hl (by simp)
  | [a0],hl=>exact absurd hl (by simp)
  | [a0,a1],hl=>exact absurd hl (by simp)
  | [k,x,y],_=>exact⟨k,x,y,rfl⟩
  |k::x::y::z::ts,hl=>exact absurd hl (by simp only[List.length_cons];omega)
 have hk:k.length≤40:=ha k (by simp)
 have hx:x.length≤40:=ha x (by simp)
 have hy:y.length≤40:=ha y (by simp)
 have p1:=Gn b ([[90,82,65,78,71,69,66,89,83,67,79,82,69],k,x,y]) hb.sm (by simp only[List.length_cons,List.length_nil];omega) (by simp)
 rw[hr] at p1
 have p2:=Gm [90,82,65,78,71,69,66,89,83,67,79,82,69]
 rw[wv] at p2
 have p3:=Wo b k x y hb hk hx hy
 have re:Di b [90,82,65,78,71,69,66,89,83,67,79,82,69] [k,x,y]=Jt b k x y:=rfl
 rw[re]
 generalize Jt b k x y=P at*
 simp only[Bf,List.map_cons,List.map_nil] at p1 p3
 simp(maxSteps:=1000000) [Cq,-List.getD_eq_getElem?_getD,-List.map_map,f46,p1,p2,p3,Bj]
theorem Bqc (b:Ba) (r:List Bl) (hb:BaG b) (ha: ∀x∈r,x.length≤40) (hr:Cr b ([90,82,69,77]::r)=[]):Be (ev R) 46 [.d (D6 b), .d (Bf ([90,82,69,77]::r))]=some (Bj (Di b [90,82,69,77] r)):=Bb fun H=>by
 refine Bo (fn:=f46) rfl rfl ?_
 have hl:=Bz hr
 have wv:Bh [90,82,69,77]=(3,3,4):=rfl
 rw[wv] at hl
 dsimp only at hl
 obtain⟨k,x,rfl⟩: ∃k x,r=[k,x]:=by
  match r,hl with
  | [],hl=>exact absurd hl (by simp)
  | [a0],hl=>exact absurd hl (by simp)
  | [k,x],_=>exact⟨k,x,rfl⟩
  |k::x::z::ts,hl=>exact absurd hl (by simp only[List.length_cons];omega)
 have hk:k.length≤40:=ha k (by simp)
 have hx:x.length≤40:=ha x (by simp)
 have p1:=Gn b ([[90,82,69,77],k,x]) hb.sm (by simp only[List.length_cons,List.length_nil];omega) (by simp)
 rw[hr] at p1
 have p2:=Gm [90,82,69,77]
 rw[wv] at p2
 have p3:=Boo b k x hb hk hx
 have re:Di b [90,82,69,77] [k,x]=Beu b k x:=rfl
 rw[re]
 generalize Beu b k x=P at*
 simp only[Bf,List.map_cons,List.map_nil] at p1 p3
 simp(maxSteps:=1000000) [Cq,-List.getD_eq_getElem?_getD,-List.map_map,f46,p1,p2,p3,Bj]
theorem Bjk (b:Ba) (r:List Bl) (hb:BaG b) (ha: ∀x∈r,x.length≤40) (hr:Cr b ([90,83,67,79,82,69]::r)=[]):Be (ev R) 46 [.d (D6 b), .d (Bf ([90,83,67,79,82,69]::r))]=some (Bj (Di b [90,83,67,79,82,69] r)):=Bb fun H=>by
 refine Bo (fn:=f46) rfl rfl ?_
 have hl:=Bz hr
 have wv:Bh [90,83,67,79,82,69]=(3,3,4):=rfl
 rw[wv] at hl
 dsimp only at hl
 obtain⟨k,x,rfl⟩: ∃k x,r=[k,x]:=by
  match r,hl with
  | [],hl=>exact absurd hl (by simp)
  | [a0],hl=>exact absurd hl (by simp)
  | [k,x],_=>exact⟨k,x,rfl⟩
  |k::x::z::ts,hl=>exact absurd hl (by simp only[List.length_cons];omega)
 have hk:k.length≤40:=ha k (by simp)
 have hx:x.length≤40:=ha x (by simp)
 have p1:=Gn b ([[90,83,67,79,82,69],k,x]) hb.sm (by simp only[List.length_cons,List.length_nil];omega) (by simp)
 rw[hr] at p1
 have p2:=Gm [90,83,67,79,82,69]
 rw[wv] at p2
 have p3:=Bh3 b k x hb hk hx
 have re:Di b [90,83,67,79,82,69] [k,x]=Yc b k x:=rfl
 rw[re]
 generalize Yc b k x=P at*
 simp only[Bf,List.map_cons,List.map_nil] at p1 p3
 simp(maxSteps:=1000000) [Cq,-List.getD_eq_getElem?_getD,-List.map_map,f46,p1,p2,p3,Bj]
theorem Bl1 (b:Ba) (r:List Bl) (hb:BaG b) (ha: ∀x∈r,x.length≤40) (hr:Cr b ([90,82,65,78,75]::r)=[]):Be (ev R) 46 [.d (D6 b), .d (Bf ([90,82,65,78,75]::r))]=some (Bj (Di b [90,82,65,78,75] r)):=Bb fun H=>by
 refine Bo (fn:=f46) rfl rfl ?_
 have hl:=Bz hr
 have wv:Bh [90,82,65,78,75]=(3,3,4):=rfl
 rw[wv] at hl
 dsimp only at hl
 obtain⟨k,x,rfl⟩: ∃k x,r=[k,x]:=by
  match r,hl with
  | [],hl=>exact absurd hl (by simp)
  | [a0],hl=>exact absurd hl (by simp)
  | [k,x],_=>exact⟨k,x,rfl⟩
  |k::x::z::ts,hl=>exact absurd hl (by simp only[List.length_cons];omega)
 have hk:k.length≤40:=ha k (by simp)
 have hx:x.length≤40:=ha x (by simp)
 have p1:=Gn b ([[90,82,65,78,75],k,x]) hb.sm (by simp only[List.length_cons,List.length_nil];omega) (by simp)
 rw[hr] at p1
 have p2:=Gm [90,82,65,78,75]
 rw[wv] at p2
 have p3:=Bky b k x hb hk hx
 have re:Di b [90,82,65,78,75] [k,x]=Bcr b k x:=rfl
 rw[re]
 generalize Bcr b k x=P at*
 simp only[Bf,List.map_cons,List.map_nil] at p1 p3
 simp(maxSteps:=1000000) [Cq,-List.getD_eq_getElem?_getD,-List.map_map,f46,p1,p2,p3,Bj]
theorem Bl0 (b:Ba) (r:List Bl) (hb:BaG b) (ha: ∀x∈r,x.length≤40) (hr:Cr b ([90,67,65,82,68]::r)=[]):Be (ev R) 46 [.d (D6 b), .d (Bf ([90,67,65,82,68]::r))]=some (Bj (Di b [90,67,65,82,68] r)):=Bb fun H=>by
 refine Bo (fn:=f46) rfl rfl ?_
 have hl:=Bz hr
 have wv:Bh [90,67,65,82,68]=(2,2,4):=rfl
 rw[wv] at hl
 dsimp only at hl
 obtain⟨k,rfl⟩: ∃k,r=[k]:=by
  match r,hl with
  | [],hl=>exact absurd hl (by simp)
  | [k],_=>exact⟨k,rfl⟩
  |k::z::ts,hl=>exact absurd hl (by simp only[List.length_cons];omega)
 have hk:k.length≤40:=ha k (by simp)
 have p1:=Gn b ([[90,67,65,82,68],k]) hb.sm (by simp only[List.length_cons,List.length_nil];omega) (by simp)
 rw[hr] at p1
 have p2:=Gm [90,67,65,82,68]
 rw[wv] at p2
 have p3:=Bkx b k hb hk
 have re:Di b [90,67,65,82,68] [k]=Bcq b k:=rfl
 rw[re]
 generalize Bcq b k=P at*
 simp only[Bf,List.map_cons,List.map_nil] at p1 p3
 simp(maxSteps:=1000000) [Cq,-List.getD_eq_getElem?_getD,-List.map_map,f46,p1,p2,p3,Bj]
theorem Bp0 (b:Ba) (r:List Bl) (hb:BaG b) (ha: ∀x∈r,x.length≤40) (hr:Cr b ([72,83,69,84]::r)=[]):Be (ev R) 46 [.d (D6 b), .d (Bf ([72,83,69,84]::r))]=some (Bj (Di b [72,83,69,84] r)):=Bb fun H=>by
 refine Bo (fn:=f46) rfl rfl ?_
 have hl:=Bz hr
 have wv:Bh [72,83,69,84]=(4,4,5):=rfl
 rw[wv] at hl
 dsimp only at hl
 obtain⟨k,x,y,rfl⟩: ∃k x y,r=[k,x,y]:=by
  match r,hl with
  | [],hl=>exact absurd hl (by simp)
  | [a0],hl=>exact absurd hl (by simp)
  | [a0,a1],hl=>exact absurd hl (by simp)
  | [k,x,y],_=>exact⟨k,x,y,rfl⟩
  |k::x::y::z::ts,hl=>exact absurd hl (by simp only[List.length_cons];omega)
 have hk:k.length≤40:=ha k (by simp)
 have hx:x.length≤40:=ha x (by simp)
 have hy:y.length≤40:=ha y (by simp)
 have p1:=Gn b ([[72,83,69,84],k,x,y]) hb.sm (by simp only[List.length_cons,List.length_nil];omega) (by simp)
 rw[hr] at p1
 have p2:=Gm [72,83,69,84]
 rw[wv] at p2
 have p3:=Bos b k x y hb hk hx hy
 have re:Di b [72,83,69,84] [k,x,y]=Beo b k x y:=rfl
 rw[re]
 generalize Beo b k x y=P at*
 simp only[Bf,List.map_cons,List.map_nil] at p1 p3
 simp(maxSteps:=1000000) [Cq,-List.getD_eq_getElem?_getD,-List.map_map,f46,p1,p2,p3,Bj]
theorem Bpy (b:Ba) (r:List Bl) (hb:BaG b) (ha: ∀x∈r,x.length≤40) (hr:Cr b ([72,71,69,84]::r)=[]):Be (ev R) 46 [.d (D6 b), .d (Bf ([72,71,69,84]::r))]=some (Bj (Di b [72,71,69,84] r)):=Bb fun H=>by
 refine Bo (fn:=f46) rfl rfl ?_
 have hl:=Bz hr
 have wv:Bh [72,71,69,84]=(3,3,5):=rfl
 rw[wv] at hl
 dsimp only at hl
 obtain⟨k,x,rfl⟩: ∃k x,r=[k,x]:=by
  match r,hl with
  | [],hl=>exact absurd hl (by simp)
  | [a0],hl=>exact absurd hl (by simp)
  | [k,x],_=>exact⟨k,x,rfl⟩
  |k::x::z::ts,hl=>exact absurd hl (by simp only[List.length_cons];omega)
 have hk:k.length≤40:=ha k (by simp)
 have hx:x.length≤40:=ha x (by simp)
 have p1:=Gn b ([[72,71,69,84],k,x]) hb.sm (by simp only[List.length_cons,List.length_nil];omega) (by simp)
 rw[hr] at p1
 have p2:=Gm [72,71,69,84]
 rw[wv] at p2
 have p3:=Boq b k x hb hk hx
 have re:Di b [72,71,69,84] [k,x]=Bic b k x:=rfl
 rw[re]
 generalize Bic b k x=P at*
 simp only[Bf,List.map_cons,List.map_nil] at p1 p3
 simp(maxSteps:=1000000) [Cq,-List.getD_eq_getElem?_getD,-List.map_map,f46,p1,p2,p3,Bj]
theorem Bpx (b:Ba) (r:List Bl) (hb:BaG b) (ha: ∀x∈r,x.length≤40) (hr:Cr b ([72,68,69,76]::r)=[]):Be (ev R) 46 [.d (D6 b), .d (Bf ([72,68,69,76]::r))]=some (Bj (Di b [72,68,69,76] r)):=Bb fun H=>by
 refine Bo (fn:=f46) rfl rfl ?_
 have hl:=Bz hr
 have wv:Bh [72,68,69,76]=(3,3,5):=rfl
 rw[wv] at hl
 dsimp only at hl
 obtain⟨k,x,rfl⟩: ∃k x,r=[k,x]:=by
  match r,hl with
  | [],hl=>exact absurd hl (by simp)
  | [a0],hl=>exact absurd hl (by simp)
  | [k,x],_=>exact⟨k,x,rfl⟩
  |k::x::z::ts,hl=>exact absurd hl (by simp only[List.length_cons];omega)
 have hk:k.length≤40:=ha k (by simp)
 have hx:x.length≤40:=ha x (by simp)
 have p1:=Gn b ([[72,68,69,76],k,x]) hb.sm (by simp only[List.length_cons,List.length_nil];omega) (by simp)
 rw[hr] at p1
 have p2:=Gm [72,68,69,76]
 rw[wv] at p2
 have p3:=Bop b k x hb hk hx
 have re:Di b [72,68,69,76] [k,x]=Ben b k x:=rfl
 rw[re]
 generalize Ben b k x=P at*
 simp only[Bf,List.map_cons,List.map_nil] at p1 p3
 simp(maxSteps:=1000000) [Cq,-List.getD_eq_getElem?_getD,-List.map_map,f46,p1,p2,p3,Bj]
theorem Bga (b:Ba) (r:List Bl) (hb:BaG b) (ha: ∀x∈r,x.length≤40) (hr:Cr b ([72,71,69,84,65,76,76]::r)=[]):Be (ev R) 46 [.d (D6 b), .d (Bf ([72,71,69,84,65,76,76]::r))]=some (Bj (Di b [72,71,69,84,65,76,76] r)):=Bb fun H=>by
 refine Bo (fn:=f46) rfl rfl ?_
 have hl:=Bz hr
 have wv:Bh [72,71,69,84,65,76,76]=(2,2,5):=rfl
 rw[wv] at hl
 dsimp only at hl
 obtain⟨k,rfl⟩: ∃k,r=[k]:=by
  match r,hl with
  | [],hl=>exact absurd hl (by simp)
  | [k],_=>exact⟨k,rfl⟩
  |k::z::ts,hl=>exact absurd hl (by simp only[List.length_cons];omega)
 have hk:k.length≤40:=ha k (by simp)
 have p1:=Gn b ([[72,71,69,84,65,76,76],k]) hb.sm (by simp only[List.length_cons,List.length_nil];omega) (by simp)
 rw[hr] at p1
 have p2:=Gm [72,71,69,84,65,76,76]
 rw[wv] at p2
 have p3:=Bfs b k hb hk
 have re:Di b [72,71,69,84,65,76,76] [k]=Tc b k:=rfl
 rw[re]
 generalize Tc b k=P at*
 simp only[Bf,List.map_cons,List.map_nil] at p1 p3
 simp(maxSteps:=1000000) [Cq,-List.getD_eq_getElem?_getD,-List.map_map,f46,p1,p2,p3,Bj]
theorem Bpz (b:Ba) (r:List Bl) (hb:BaG b) (ha: ∀x∈r,x.length≤40) (hr:Cr b ([72,76,69,78]::r)=[]):Be (ev R) 46 [.d (D6 b), .d (Bf ([72,76,69,78]::r))]=some (Bj (Di b [72,76,69,78] r)):=Bb fun H=>by
 refine Bo (fn:=f46) rfl rfl ?_
 have hl:=Bz hr
 have wv:Bh [72,76,69,78]=(2,2,5):=rfl
 rw[wv] at hl
 dsimp only at hl
 obtain⟨k,rfl⟩: ∃k,r=[k]:=by
  match r,hl with
  | [],hl=>exact absurd hl (by simp)
  | [k],_=>exact⟨k,rfl⟩
  |k::z::ts,hl=>exact absurd hl (by simp only[List.length_cons];omega)
 have hk:k.length≤40:=ha k (by simp)
 have p1:=Gn b ([[72,76,69,78],k]) hb.sm (by simp only[List.length_cons,List.length_nil];omega) (by simp)
 rw[hr] at p1
 have p2:=Gm [72,76,69,78]
 rw[wv] at p2
 have p3:=Bor b k hb hk
 have re:Di b [72,76,69,78] [k]=Bid b k:=rfl
 rw[re]
 generalize Bid b k=P at*
 simp only[Bf,List.map_cons,List.map_nil] at p1 p3
 simp(maxSteps:=1000000) [Cq,-List.getD_eq_getElem?_getD,-List.map_map,f46,p1,p2,p3,Bj]
theorem Bgb (b:Ba) (r:List Bl) (hb:BaG b) (ha: ∀x∈r,x.length≤40) (hr:Cr b ([72,73,78,67,82,66,89]::r)=[]):Be (ev R) 46 [.d (D6 b), .d (Bf ([72,73,78,67,82,66,89]::r))]=some (Bj (Di b [72,73,78,67,82,66,89] r)):=Bb fun H=>by
 refine Bo (fn:=f46) rfl rfl ?_
 have hl:=Bz hr
 have wv:Bh [72,73,78,67,82,66,89]=(4,4,5):=rfl
 rw[wv] at hl
 dsimp only at hl
 obtain⟨k,x,y,rfl⟩: ∃k x y,r=[k,x,y]:=by
  match r,hl with
  | [],hl=>exact absurd hl (by simp)
  | [a0],hl=>exact absurd hl (by simp)
  | [a0,a1],hl=>exact absurd hl (by simp)
  | [k,x,y],_=>exact⟨k,x,y,rfl⟩
  |k::x::y::z::ts,hl=>exact absurd hl (by simp only[List.length_cons];omega)
 have hk:k.length≤40:=ha k (by simp)
 have hx:x.length≤40:=ha x (by simp)
 have hy:y.length≤40:=ha y (by simp)
 have p1:=Gn b ([[72,73,78,67,82,66,89],k,x,y]) hb.sm (by simp only[List.length_cons,List.length_nil];omega) (by simp)
 rw[hr] at p1
 have p2:=Gm [72,73,78,67,82,66,89]
 rw[wv] at p2
 have p3:=Bft b k x y hb hk hx hy
 have re:Di b [72,73,78,67,82,66,89] [k,x,y]=Qs b k x y:=rfl
 rw[re]
 generalize Qs b k x y=P at*
 simp only[Bf,List.map_cons,List.map_nil] at p1 p3
 simp(maxSteps:=1000000) [Cq,-List.getD_eq_getElem?_getD,-List.map_map,f46,p1,p2,p3,Bj]
theorem Bt3 (b:Ba) (r:List Bl) (hb:BaG b) (ha: ∀x∈r,x.length≤40) (hr:Cr b ([68,69,76]::r)=[]):Be (ev R) 46 [.d (D6 b), .d (Bf ([68,69,76]::r))]=some (Bj (Di b [68,69,76] r)):=Bb fun H=>by
 refine Bo (fn:=f46) rfl rfl ?_
 have hl:=Bz hr
 have wv:Bh [68,69,76]=(2,8,0):=rfl
 rw[wv] at hl
 dsimp only at hl
 have p1:=Gn b ([68,69,76]::r) hb.sm (by simp only[List.length_cons,List.length_nil];omega) (by simp)
 rw[hr] at p1
 have p2:=Gm [68,69,76]
 rw[wv] at p2
 have p3:=Br6 b r hb (by omega)
 have re:Di b [68,69,76] r=Bo0 b r:=rfl
 rw[re]
 generalize Bo0 b r=P at*
 simp only[Bf,List.map_cons,List.map_nil] at p1 p3
 simp(maxSteps:=1000000) [Cq,-List.getD_eq_getElem?_getD,-List.map_map,f46,p1,p2,p3,Bj]
theorem Bjb (b:Ba) (r:List Bl) (hb:BaG b) (ha: ∀x∈r,x.length≤40) (hr:Cr b ([69,88,73,83,84,83]::r)=[]):Be (ev R) 46 [.d (D6 b), .d (Bf ([69,88,73,83,84,83]::r))]=some (Bj (Di b [69,88,73,83,84,83] r)):=Bb fun H=>by
 refine Bo (fn:=f46) rfl rfl ?_
 have hl:=Bz hr
 have wv:Bh [69,88,73,83,84,83]=(2,8,0):=rfl
 rw[wv] at hl
 dsimp only at hl
 have p1:=Gn b ([69,88,73,83,84,83]::r) hb.sm (by simp only[List.length_cons,List.length_nil];omega) (by simp)
 rw[hr] at p1
 have p2:=Gm [69,88,73,83,84,83]
 rw[wv] at p2
 have p3:=Bh5 b r hb (by omega)
 have re:Di b [69,88,73,83,84,83] r=Uh b r:=rfl
 rw[re]
 generalize Uh b r=P at*
 simp only[Bf,List.map_cons,List.map_nil] at p1 p3
 simp(maxSteps:=1000000) [Cq,-List.getD_eq_getElem?_getD,-List.map_map,f46,p1,p2,p3,Bj]
theorem Bqa (b:Ba) (r:List Bl) (hb:BaG b) (ha: ∀x∈r,x.length≤40) (hr:Cr b ([84,89,80,69]::r)=[]):Be (ev R) 46 [.d (D6 b), .d (Bf ([84,89,80,69]::r))]=some (Bj (Di b [84,89,80,69] r)):=Bb fun H=>by
 refine Bo (fn:=f46) rfl rfl ?_
 have hl:=Bz hr
 have wv:Bh [84,89,80,69]=(2,2,0):=rfl
 rw[wv] at hl
 dsimp only at hl
 obtain⟨k,rfl⟩: ∃k,r=[k]:=by
  match r,hl with
  | [],hl=>exact absurd hl (by simp)
  | [k],_=>exact⟨k,rfl⟩
  |k::z::ts,hl=>exact absurd hl (by simp only[List.length_cons];omega)
 have hk:k.length≤40:=ha k (by simp)
 have p1:=Gn b ([[84,89,80,69],k]) hb.sm (by simp only[List.length_cons,List.length_nil];omega) (by simp)
 rw[hr] at p1
 have p2:=Gm [84,89,80,69]
 rw[wv] at p2
 have p3:=Bou b k hb hk
 have re:Di b [84,89,80,69] [k]=Bih b k:=rfl
 rw[re]
 generalize Bih b k=P at*
 simp only[Bf,List.map_cons,List.map_nil] at p1 p3
 simp(maxSteps:=1000000) [Cq,-List.getD_eq_getElem?_getD,-List.map_map,f46,p1,p2,p3,Bj]
theorem Bt6 (b:Ba) (r:List Bl) (hb:BaG b) (ha: ∀x∈r,x.length≤40) (hr:Cr b ([84,84,76]::r)=[]):Be (ev R) 46 [.d (D6 b), .d (Bf ([84,84,76]::r))]=some (Bj (Di b [84,84,76] r)):=Bb fun H=>by
 refine Bo (fn:=f46) rfl rfl ?_
 have hl:=Bz hr
 have wv:Bh [84,84,76]=(2,2,0):=rfl
 rw[wv] at hl
 dsimp only at hl
 obtain⟨k,rfl⟩: ∃k,r=[k]:=by
  match r,hl with
  | [],hl=>exact absurd hl (by simp)
  | [k],_=>exact⟨k,rfl⟩
  |k::z::ts,hl=>exact absurd hl (by simp only[List.length_cons];omega)
 have hk:k.length≤40:=ha k (by simp)
 have p1:=Gn b ([[84,84,76],k]) hb.sm (by simp only[List.length_cons,List.length_nil];omega) (by simp)
 rw[hr] at p1
 have p2:=Gm [84,84,76]
 rw[wv] at p2
 have p3:=Br7 b k hb hk
 have re:Di b [84,84,76] [k]=Bsl b k:=rfl
 rw[re]
 generalize Bsl b k=P at*
 simp only[Bf,List.map_cons,List.map_nil] at p1 p3
 simp(maxSteps:=1000000) [Cq,-List.getD_eq_getElem?_getD,-List.map_map,f46,p1,p2,p3,Bj]
theorem Bgc (b:Ba) (r:List Bl) (hb:BaG b) (ha: ∀x∈r,x.length≤40) (hr:Cr b ([80,69,82,83,73,83,84]::r)=[]):Be (ev R) 46 [.d (D6 b), .d (Bf ([80,69,82,83,73,83,84]::r))]=some (Bj (Di b [80,69,82,83,73,83,84] r)):=Bb fun H=>by
 refine Bo (fn:=f46) rfl rfl ?_
 have hl:=Bz hr
 have wv:Bh [80,69,82,83,73,83,84]=(2,2,0):=rfl
 rw[wv] at hl
 dsimp only at hl
 obtain⟨k,rfl⟩: ∃k,r=[k]:=by
  match r,hl with
  | [],hl=>exact absurd hl (by simp)
  | [k],_=>exact⟨k,rfl⟩
  |k::z::ts,hl=>exact absurd hl (by simp only[List.length_cons];omega)
 have hk:k.length≤40:=ha k (by simp)
 have p1:=Gn b ([[80,69,82,83,73,83,84],k]) hb.sm (by simp only[List.length_cons,List.length_nil];omega) (by simp)
 rw[hr] at p1
 have p2:=Gm [80,69,82,83,73,83,84]
 rw[wv] at p2
 have p3:=Bfu b k hb hk
 have re:Di b [80,69,82,83,73,83,84] [k]=Qt b k:=rfl
 rw[re]
 generalize Qt b k=P at*
 simp only[Bf,List.map_cons,List.map_nil] at p1 p3
 simp(maxSteps:=1000000) [Cq,-List.getD_eq_getElem?_getD,-List.map_map,f46,p1,p2,p3,Bj]
theorem Bjc (b:Ba) (r:List Bl) (hb:BaG b) (ha: ∀x∈r,x.length≤40) (hr:Cr b ([69,88,80,73,82,69]::r)=[]):Be (ev R) 46 [.d (D6 b), .d (Bf ([69,88,80,73,82,69]::r))]=some (Bj (Di b [69,88,80,73,82,69] r)):=Bb fun H=>by
 refine Bo (fn:=f46) rfl rfl ?_
 have hl:=Bz hr
 have wv:Bh [69,88,80,73,82,69]=(3,3,0):=rfl
 rw[wv] at hl
 dsimp only at hl
 obtain⟨k,x,rfl⟩: ∃k x,r=[k,x]:=by
  match r,hl with
  | [],hl=>exact absurd hl (by simp)
  | [a0],hl=>exact absurd hl (by simp)
  | [k,x],_=>exact⟨k,x,rfl⟩
  |k::x::z::ts,hl=>exact absurd hl (by simp only[List.length_cons];omega)
 have hk:k.length≤40:=ha k (by simp)
 have hx:x.length≤40:=ha x (by simp)
 have p1:=Gn b ([[69,88,80,73,82,69],k,x]) hb.sm (by simp only[List.length_cons,List.length_nil];omega) (by simp)
 rw[hr] at p1
 have p2:=Gm [69,88,80,73,82,69]
 rw[wv] at p2
 have p3:=Bh6 b k x hb hk hx
 have re:Di b [69,88,80,73,82,69] [k,x]=Ui b k x:=rfl
 rw[re]
 generalize Ui b k x=P at*
 simp only[Bf,List.map_cons,List.map_nil] at p1 p3
 simp(maxSteps:=1000000) [Cq,-List.getD_eq_getElem?_getD,-List.map_map,f46,p1,p2,p3,Bj]
theorem Bdh (b:Ba) (r:List Bl) (hb:BaG b) (ha: ∀x∈r,x.length≤40) (hr:Cr b ([69,88,80,73,82,69,65,84]::r)=[]):Be (ev R) 46 [.d (D6 b), .d (Bf ([69,88,80,73,82,69,65,84]::r))]=some (Bj (Di b [69,88,80,73,82,69,65,84] r)):=Bb fun H=>by
 refine Bo (fn:=f46) rfl rfl ?_
 have hl:=Bz hr
 have wv:Bh [69,88,80,73,82,69,65,84]=(3,3,0):=rfl
 rw[wv] at hl
 dsimp only at hl
 obtain⟨k,x,rfl⟩: ∃k x,r=[k,x]:=by
  match r,hl with
  | [],hl=>exact absurd hl (by simp)
  | [a0],hl=>exact absurd hl (by simp)
  | [k,x],_=>exact⟨k,x,rfl⟩
  |k::x::z::ts,hl=>exact absurd hl (by simp only[List.length_cons];omega)
 have hk:k.length≤40:=ha k (by simp)
 have hx:x.length≤40:=ha x (by simp)
 have p1:=Gn b ([[69,88,80,73,82,69,65,84],k,x]) hb.sm (by simp only[List.length_cons,List.length_nil];omega) (by simp)
 rw[hr] at p1
 have p2:=Gm [69,88,80,73,82,69,65,84]
 rw[wv] at p2
 have p3:=Bdc b k x hb hk hx
 have re:Di b [69,88,80,73,82,69,65,84] [k,x]=Ny b k x:=rfl
 rw[re]
 generalize Ny b k x=P at*
 simp only[Bf,List.map_cons,List.map_nil] at p1 p3
 simp(maxSteps:=1000000) [Cq,-List.getD_eq_getElem?_getD,-List.map_map,f46,p1,p2,p3,Bj]
theorem Bjf (b:Ba) (r:List Bl) (hb:BaG b) (ha: ∀x∈r,x.length≤40) (hr:Cr b ([82,69,78,65,77,69]::r)=[]):Be (ev R) 46 [.d (D6 b), .d (Bf ([82,69,78,65,77,69]::r))]=some (Bj (Di b [82,69,78,65,77,69] r)):=Bb fun H=>by
 refine Bo (fn:=f46) rfl rfl ?_
 have hl:=Bz hr
 have wv:Bh [82,69,78,65,77,69]=(3,3,0):=rfl
 rw[wv] at hl
 dsimp only at hl
 obtain⟨k,x,rfl⟩: ∃k x,r=[k,x]:=by
  match r,hl with
  | [],hl=>exact absurd hl (by simp)
  | [a0],hl=>exact absurd hl (by simp)
  | [k,x],_=>exact⟨k,x,rfl⟩
  |k::x::z::ts,hl=>exact absurd hl (by simp only[List.length_cons];omega)
 have hk:k.length≤40:=ha k (by simp)
 have hx:x.length≤40:=ha x (by simp)
 have p1:=Gn b ([[82,69,78,65,77,69],k,x]) hb.sm (by simp only[List.length_cons,List.length_nil];omega) (by simp)
 rw[hr] at p1
 have p2:=Gm [82,69,78,65,77,69]
 rw[wv] at p2
 have p3:=Bh7 b k x hb hk hx
 have re:Di b [82,69,78,65,77,69] [k,x]=Uk b k x:=rfl
 rw[re]
 generalize Uk b k x=P at*
 simp only[Bf,List.map_cons,List.map_nil] at p1 p3
 simp(maxSteps:=1000000) [Cq,-List.getD_eq_getElem?_getD,-List.map_map,f46,p1,p2,p3,Bj]
theorem Bp2 (b:Ba) (r:List Bl) (hb:BaG b) (ha: ∀x∈r,x.length≤40) (hr:Cr b ([75,69,89,83]::r)=[]):Be (ev R) 46 [.d (D6 b), .d (Bf ([75,69,89,83]::r))]=some (Bj (Di b [75,69,89,83] r)):=Bb fun H=>by
 refine Bo (fn:=f46) rfl rfl ?_
 have hl:=Bz hr
 have wv:Bh [75,69,89,83]=(2,2,0):=rfl
 rw[wv] at hl
 dsimp only at hl
 obtain⟨k,rfl⟩: ∃k,r=[k]:=by
  match r,hl with
  | [],hl=>exact absurd hl (by simp)
  | [k],_=>exact⟨k,rfl⟩
  |k::z::ts,hl=>exact absurd hl (by simp only[List.length_cons];omega)
 have hk:k.length≤40:=ha k (by simp)
 have p1:=Gn b ([[75,69,89,83],k]) hb.sm (by simp only[List.length_cons,List.length_nil];omega) (by simp)
 rw[hr] at p1
 have p2:=Gm [75,69,89,83]
 rw[wv] at p2
 have p3:=Bot b k hb hk
 have re:Di b [75,69,89,83] [k]=Bie b k:=rfl
 rw[re]
 generalize Bie b k=P at*
 simp only[Bf,List.map_cons,List.map_nil] at p1 p3
 simp(maxSteps:=1000000) [Cq,-List.getD_eq_getElem?_getD,-List.map_map,f46,p1,p2,p3,Bj]
theorem Bja (b:Ba) (r:List Bl) (hb:BaG b) (ha: ∀x∈r,x.length≤40) (hr:Cr b ([68,66,83,73,90,69]::r)=[]):Be (ev R) 46 [.d (D6 b), .d (Bf ([68,66,83,73,90,69]::r))]=some (Bj (Di b [68,66,83,73,90,69] r)):=Bb fun H=>by
 refine Bo (fn:=f46) rfl rfl ?_
 have hl:=Bz hr
 have wv:Bh [68,66,83,73,90,69]=(1,1,0):=rfl
 rw[wv] at hl
 dsimp only at hl
 obtain rfl:r=[]:=by
  match r,hl with
  | [],_=>rfl
  |k::ts,hl=>simp only[List.length_cons] at hl;omega
 have p1:=Gn b ([[68,66,83,73,90,69]]) hb.sm (by simp only[List.length_cons,List.length_nil];omega) (by simp)
 rw[hr] at p1
 have p2:=Gm [68,66,83,73,90,69]
 rw[wv] at p2
 have p3:=Bh4 b hb
 have re:Di b [68,66,83,73,90,69] []=X6 b:=rfl
 rw[re]
 generalize X6 b=P at*
 simp only[Bf,List.map_cons,List.map_nil] at p1 p3
 simp(maxSteps:=1000000) [Cq,-List.getD_eq_getElem?_getD,-List.map_map,f46,p1,p2,p3,Bj]
theorem Blu (b:Ba) (r:List Bl) (hb:BaG b) (ha: ∀x∈r,x.length≤40) (hr:Cr b ([70,76,85,83,72]::r)=[]):Be (ev R) 46 [.d (D6 b), .d (Bf ([70,76,85,83,72]::r))]=some (Bj (Di b [70,76,85,83,72] r)):=Bb fun H=>by
 refine Bo (fn:=f46) rfl rfl ?_
 have hl:=Bz hr
 have wv:Bh [70,76,85,83,72]=(1,1,0):=rfl
 rw[wv] at hl
 dsimp only at hl
 obtain rfl:r=[]:=by
  match r,hl with
  | [],_=>rfl
  |k::ts,hl=>simp only[List.length_cons] at hl;omega
 have p1:=Gn b ([[70,76,85,83,72]]) hb.sm (by simp only[List.length_cons,List.length_nil];omega) (by simp)
 rw[hr] at p1
 have p2:=Gm [70,76,85,83,72]
 rw[wv] at p2
 have p3:=Bkz b hb
 have re:Di b [70,76,85,83,72] []=Y4 b:=rfl
 rw[re]
 generalize Y4 b=P at*
 simp only[Bf,List.map_cons,List.map_nil] at p1 p3
 simp(maxSteps:=1000000) [Cq,-List.getD_eq_getElem?_getD,-List.map_map,f46,p1,p2,p3,Bj]
theorem B52 (b:Ba) (args:List Bl) (hb:BaG b) (ha:Jq args=true):Be (ev R) 46 [.d (D6 b), .d (Bf args)]=some (Bj (rDo b args)):=by
 have hl:=Bcb ha
 have hx:=Bhq ha
 obtain⟨w,r,rfl⟩: ∃w r,args=w::r:=by
  cases args with
  |nil=>simp at hl
  |cons w r=>exact⟨w,r,rfl⟩
 by_cases hr:Cr b (w::r)=[]
 ·have hd:rDo b (w::r)=Di b w r:=by unfold rDo;rw[if_pos hr];rfl
  rw[hd]
  have hx': ∀x∈r,x.length≤40:=fun x h=>hx x (by simp[h])
  by_cases h0:w=[71,69,84]
  ·subst h0;exact Bt4 b r hb hx' hr
  by_cases h1:w=[83,84,82,76,69,78]
  ·subst h1;exact Bjh b r hb hx' hr
  by_cases h2:w=[73,78,67,82]
  ·subst h2;exact Bp1 b r hb hx' hr
  by_cases h3:w=[83,69,84]
  ·subst h3;exact Bt5 b r hb hx' hr
  by_cases h4:w=[65,80,80,69,78,68]
  ·subst h4;exact Bi9 b r hb hx' hr
  by_cases h5:w=[73,78,67,82,66,89]
  ·subst h5;exact Bjd b r hb hx' hr
  by_cases h6:w=[71,69,84,82,65,78,71,69]
  ·subst h6;exact Bdi b r hb hx' hr
  by_cases h7:w=[76,80,85,83,72]
  ·subst h7;exact Blv b r hb hx' hr
  by_cases h8:w=[82,80,85,83,72]
  ·subst h8;exact Blx b r hb hx' hr
  by_cases h9:w=[76,80,79,80]
  ·subst h9;exact Bp4 b r hb hx' hr
  by_cases h10:w=[82,80,79,80]
  ·subst h10;exact Bp7 b r hb hx' hr
  by_cases h11:w=[76,76,69,78]
  ·subst h11;exact Bp3 b r hb hx' hr
  by_cases h12:w=[76,82,65,78,71,69]
  ·subst h12;exact Bje b r hb hx' hr
  by_cases h13:w=[76,84,82,73,77]
  ·subst h13;exact Blw b r hb hx' hr
  by_cases h14:w=[76,83,69,84]
  ·subst h14;exact Bp6 b r hb hx' hr
  by_cases h15:w=[76,82,69,77]
  ·subst h15;exact Bp5 b r hb hx' hr
  by_cases h16:w=[83,65,68,68]
  ·subst h16;exact Bp8 b r hb hx' hr
  by_cases h17:w=[83,82,69,77]
  ·subst h17;exact Bp9 b r hb hx' hr
  by_cases h18:w=[83,77,69,77,66,69,82,83]
  ·subst h18;exact Bdj b r hb hx' hr
  by_cases h19:w=[83,67,65,82,68]
  ·subst h19;exact Bly b r hb hx' hr
  by_cases h20:w=[83,73,83,77,69,77,66,69,82]
  ·subst h20;exact Bc5 b r hb hx' hr
  by_cases h21:w=[83,73,78,84,69,82]
  ·subst h21;exact Bjg b r hb hx' hr
  by_cases h22:w=[83,85,78,73,79,78]
  ·subst h22;exact Bji b r hb hx' hr
  by_cases h23:w=[83,68,73,70,70]
  ·subst h23;exact Blz b r hb hx' hr
  by_cases h24:w=[90,65,68,68]
  ·subst h24;exact Bqb b r hb hx' hr
  by_cases h25:w=[90,73,78,67,82,66,89]
  ·subst h25;exact Bgd b r hb hx' hr
  by_cases h26:w=[90,82,65,78,71,69]
  ·subst h26;exact Bjj b r hb hx' hr
  by_cases h27:w=[90,82,65,78,71,69,66,89,83,67,79,82,69]
  ·subst h27;exact Ww b r hb hx' hr
  by_cases h28:w=[90,82,69,77]
  ·subst h28;exact Bqc b r hb hx' hr
  by_cases h29:w=[90,83,67,79,82,69]
  ·subst h29;exact Bjk b r hb hx' hr
  by_cases h30:w=[90,82,65,78,75]
  ·subst h30;exact Bl1 b r hb hx' hr
  by_cases h31:w=[90,67,65,82,68]
  ·subst h31;exact Bl0 b r hb hx' hr
  by_cases h32:w=[72,83,69,84]
  ·subst h32;exact Bp0 b r hb hx' hr
  by_cases h33:w=[72,71,69,84]
  ·subst h33;exact Bpy b r hb hx' hr
  by_cases h34:w=[72,68,69,76]
  ·subst h34;exact Bpx b r hb hx' hr
  by_cases h35:w=[72,71,69,84,65,76,76]
  ·subst h35;exact Bga b r hb hx' hr
  by_cases h36:w=[72,76,69,78]
  ·subst h36;exact Bpz b r hb hx' hr
  by_cases h37:w=[72,73,78,67,82,66,89]
  ·subst h37;exact Bgb b r hb hx' hr
  by_cases h38:w=[68,69,76]
  ·subst h38;exact Bt3 b r hb hx' hr
  by_cases h39:w=[69,88,73,83,84,83]
  ·subst h39;exact Bjb b r hb hx' hr
  by_cases h40:w=[84,89,80,69]
  ·subst h40;exact Bqa b r hb hx' hr
  by_cases h41:w=[84,84,76]
  ·subst h41;exact Bt6 b r hb hx' hr
  by_cases h42:w=[80,69,82,83,73,83,84]
  ·subst h42;exact Bgc b r hb hx' hr
  by_cases h43:w=[69,88,80,73,82,69]
  ·subst h43;exact Bjc b r hb hx' hr
  by_cases h44:w=[69,88,80,73,82,69,65,84]
  ·subst h44;exact Bdh b r hb hx' hr
  by_cases h45:w=[82,69,78,65,77,69]
  ·subst h45;exact Bjf b r hb hx' hr
  by_cases h46:w=[75,69,89,83]
  ·subst h46;exact Bp2 b r hb hx' hr
  by_cases h47:w=[68,66,83,73,90,69]
  ·subst h47;exact Bja b r hb hx' hr
  by_cases h48:w=[70,76,85,83,72]
  ·subst h48;exact Blu b r hb hx' hr
  exfalso
  have hw:=Bjl w (eq_false h0) (eq_false h1) (eq_false h2) (eq_false h3) (eq_false h4) (eq_false h5) (eq_false h6) (eq_false h7) (eq_false h8) (eq_false h9) (eq_false h10) (eq_false h11) (eq_false h12) (eq_false h13) (eq_false h14) (eq_false h15) (eq_false h16) (eq_false h17) (eq_false h18) (eq_false h19) (eq_false h20) (eq_false h21) (eq_false h22) (eq_false h23) (eq_false h24) (eq_false h25) (eq_false h26) (eq_false h27) (eq_false h28) (eq_false h29) (eq_false h30) (eq_false h31) (eq_false h32) (eq_false h33) (eq_false h34) (eq_false h35) (eq_false h36) (eq_false h37) (eq_false h38) (eq_false h39) (eq_false h40) (eq_false h41) (eq_false h42) (eq_false h43) (eq_false h44) (eq_false h45) (eq_false h46) (eq_false h47) (eq_false h48)
  unfold Cr at hr
  rw[show(w::r).getD 0 []=w from rfl,hw] at hr
  simp at hr
 ·have hd:rDo b (w::r)=(b,Dq (Cr b (w::r))):=by unfold rDo;rw[if_neg hr]
  rw[hd]
  refine Bb fun H=> ?_
  refine Bo (fn:=f46) rfl rfl ?_
  have p1:=Gn b (w::r) hb.sm (by omega) (by simp)
  have p2:=Cc (Cr b (w::r))
  generalize Cr b (w::r)=t at*
  simp only[Bf,List.map_cons,List.map_nil] at p1
  simp(maxSteps:=1000000) [Cq,-List.getD_eq_getElem?_getD,-List.map_map,f46,p1,p2,eq_false hr,Bj,Dq]
end Go.Proofs.YtedlandcnpjghaaGreatDoor.Code

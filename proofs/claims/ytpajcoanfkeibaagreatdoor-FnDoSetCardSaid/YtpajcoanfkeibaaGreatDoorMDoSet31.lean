/- Lemmas (several texts in one). -/
import Derived.Test.YtpajcoanfkeibaaGreatDoorMDoSet6
import Derived.Test.YtpajcoanfkeibaaGreatDoorMDoSet30
set_option maxRecDepth 100000
set_option maxHeartbeats 2000000
set_option linter.unusedSimpArgs false
set_option linter.unusedVariables false
namespace Go.Proofs.YtpajcoanfkeibaaGreatDoor.Code
open Go Go.Ev Go.Proofs
def Df (b:Ba) (w:Bq) (r:List Bq):Ba×Re:=
 if w=[71,69,84] then Bsz b (r.getD 0 []) else
 if w=[83,84,82,76,69,78] then X3 b (r.getD 0 []) else
 if w=[73,78,67,82] then Bcg b (r.getD 0 []) [49] else
 if w=[83,69,84] then Bpq b (r.getD 0 []) (r.getD 1 []) else
 if w=[65,80,80,69,78,68] then Uk b (r.getD 0 []) (r.getD 1 []) else
 if w=[73,78,67,82,66,89] then Bcg b (r.getD 0 []) (r.getD 1 []) else
 if w=[71,69,84,82,65,78,71,69] then Ph b (r.getD 0 []) (r.getD 1 []) (r.getD 2 []) else
 if w=[76,80,85,83,72] then Tm b (r.getD 0 []) true (r.drop 1) else
 if w=[82,80,85,83,72] then Tm b (r.getD 0 []) false (r.drop 1) else
 if w=[76,80,79,80] then Bcl b (r.getD 0 []) true else
 if w=[82,80,79,80] then Bcl b (r.getD 0 []) false else
 if w=[76,76,69,78] then U2 b (r.getD 0 []) else
 if w=[76,82,65,78,71,69] then Un b (r.getD 0 []) (r.getD 1 []) (r.getD 2 []) else
 if w=[76,84,82,73,77] then Y4 b (r.getD 0 []) (r.getD 1 []) (r.getD 2 []) else
 if w=[76,83,69,84] then Beo b (r.getD 0 []) (r.getD 1 []) (r.getD 2 []) else
 if w=[76,82,69,77] then Ben b (r.getD 0 []) (r.getD 1 []) (r.getD 2 []) else
 if w=[83,65,68,68] then Bep b (r.getD 0 []) (r.drop 1) else
 if w=[83,82,69,77] then Beq b (r.getD 0 []) (r.drop 1) else
 if w=[83,77,69,77,66,69,82,83] then Rb b (r.getD 0 []) else
 if w=[83,67,65,82,68] then U2 b (r.getD 0 []) else
 if w=[83,73,83,77,69,77,66,69,82] then Pz b (r.getD 0 []) (r.getD 1 []) else
 if w=[83,73,78,84,69,82] then X0 b (r.getD 0 []) (r.getD 1 []) else
 if w=[83,85,78,73,79,78] then X4 b (r.getD 0 []) (r.getD 1 []) else
 if w=[83,68,73,70,70] then Bcn b (r.getD 0 []) (r.getD 1 []) else
 if w=[90,65,68,68] then Ber b (r.getD 0 []) (r.getD 1 []) (r.getD 2 []) else
 if w=[90,73,78,67,82,66,89] then Rc b (r.getD 0 []) (r.getD 1 []) (r.getD 2 []) else
 if w=[90,82,65,78,71,69] then Uq b (r.getD 0 []) (r.getD 1 []) (r.getD 2 []) else
 if w=[90,82,65,78,71,69,66,89,83,67,79,82,69] then Ke b (r.getD 0 []) (r.getD 1 []) (r.getD 2 []) else
 if w=[90,82,69,77] then Bes b (r.getD 0 []) (r.getD 1 []) else
 if w=[90,83,67,79,82,69] then X5 b (r.getD 0 []) (r.getD 1 []) else
 if w=[90,82,65,78,75] then Bcq b (r.getD 0 []) (r.getD 1 []) else
 if w=[90,67,65,82,68] then Bcp b (r.getD 0 []) else
 if w=[72,83,69,84] then Bem b (r.getD 0 []) (r.getD 1 []) (r.getD 2 []) else
 if w=[72,71,69,84] then Bie b (r.getD 0 []) (r.getD 1 []) else
 if w=[72,68,69,76] then Bel b (r.getD 0 []) (r.getD 1 []) else
 if w=[72,71,69,84,65,76,76] then Tk b (r.getD 0 []) else
 if w=[72,76,69,78] then Bif b (r.getD 0 []) else
 if w=[72,73,78,67,82,66,89] then Q9 b (r.getD 0 []) (r.getD 1 []) (r.getD 2 []) else
 if w=[68,69,76] then Bpm b r else
 if w=[69,88,73,83,84,83] then Ul b r else
 if w=[84,89,80,69] then Bij b (r.getD 0 []) else
 if w=[84,84,76] then Bs3 b (r.getD 0 []) else
 if w=[80,69,82,83,73,83,84] then Ra b (r.getD 0 []) else
 if w=[69,88,80,73,82,69] then Um b (r.getD 0 []) (r.getD 1 []) else
 if w=[69,88,80,73,82,69,65,84] then Pg b (r.getD 0 []) (r.getD 1 []) else
 if w=[82,69,78,65,77,69] then Uo b (r.getD 0 []) (r.getD 1 []) else
 if w=[75,69,89,83] then Bih b (r.getD 0 []) else
 if w=[68,66,83,73,90,69] then Xy b else
 if w=[70,76,85,83,72] then Y2 b else
 (b,Dp [117,110,107,110,111,119,110])
def rDo (b:Ba) (args:List Bq):Ba×Re:=if Cr b args=[] then Df b (args.getD 0 []) args.tail else(b,Dp (Cr b args))
theorem Cb {b:Ba} {w:Bq} {r:List Bq} (h:Cr b (w::r)=[]): (Bi w).1≤(r.length:Int)+1∧(r.length:Int)+1≤(Bi w).2.1:=by
 unfold Cr at h
 have e0: (w::r).getD 0 []=w:=rfl
 have e2: ((w::r).length:Int)=(r.length:Int)+1:=by rw[List.length_cons];omega
 rw[e0,e2] at h
 split at h
 ·simp at h
 ·split at h
  ·simp at h
  ·rename_i h2;exact Decidable.not_not.1 h2
theorem Bvh (b:Ba) (r:List Bq) (hb:BaG b) (ha: ∀x∈r,x.length≤40) (hr:Cr b ([71,69,84]::r)=[]):Bc (ev R) 65 [.d (Db b), .d (Bf ([71,69,84]::r))]=some (Bo (Df b [71,69,84] r)):=Bb fun H=>by
 refine Bh (fn:=f65) rfl rfl ?_
 have hl:=Cb hr
 have wv:Bi [71,69,84]=(2,2,1):=rfl
 rw[wv] at hl
 dsimp only at hl
 obtain⟨k,rfl⟩: ∃k,r=[k]:=by
  match r,hl with
  | [],hl=>exact absurd hl (by simp)
  | [k],_=>exact⟨k,rfl⟩
  |k::z::ts,hl=>exact absurd hl (by simp only[List.length_cons];omega)
 have hk:k.length≤40:=ha k (by simp)
 have p1:=Fj b ([[71,69,84],k]) hb.sm (by simp only[List.length_cons,List.length_nil];omega) (by simp)
 rw[hr] at p1
 have p2:=Fe [71,69,84]
 rw[wv] at p2
 have p3:=Bo7 b k hb hk
 have re:Df b [71,69,84] [k]=Bsz b k:=rfl
 rw[re]
 generalize Bsz b k=P at*
 simp only[Bf,List.map_cons,List.map_nil] at p1 p3
 simp(maxSteps:=1000000) [Ca,-List.getD_eq_getElem?_getD,-List.map_map,f65,p1,p2,p3,Bo]
theorem Bjk (b:Ba) (r:List Bq) (hb:BaG b) (ha: ∀x∈r,x.length≤40) (hr:Cr b ([83,84,82,76,69,78]::r)=[]):Bc (ev R) 65 [.d (Db b), .d (Bf ([83,84,82,76,69,78]::r))]=some (Bo (Df b [83,84,82,76,69,78] r)):=Bb fun H=>by
 refine Bh (fn:=f65) rfl rfl ?_
 have hl:=Cb hr
 have wv:Bi [83,84,82,76,69,78]=(2,2,1):=rfl
 rw[wv] at hl
 dsimp only at hl
 obtain⟨k,rfl⟩: ∃k,r=[k]:=by
  match r,hl with
  | [],hl=>exact absurd hl (by simp)
  | [k],_=>exact⟨k,rfl⟩
  |k::z::ts,hl=>exact absurd hl (by simp only[List.length_cons];omega)
 have hk:k.length≤40:=ha k (by simp)
 have p1:=Fj b ([[83,84,82,76,69,78],k]) hb.sm (by simp only[List.length_cons,List.length_nil];omega) (by simp)
 rw[hr] at p1
 have p2:=Fe [83,84,82,76,69,78]
 rw[wv] at p2
 have p3:=Bfz b k hb hk
 have re:Df b [83,84,82,76,69,78] [k]=X3 b k:=rfl
 rw[re]
 generalize X3 b k=P at*
 simp only[Bf,List.map_cons,List.map_nil] at p1 p3
 simp(maxSteps:=1000000) [Ca,-List.getD_eq_getElem?_getD,-List.map_map,f65,p1,p2,p3,Bo]
theorem Bqm (b:Ba) (r:List Bq) (hb:BaG b) (ha: ∀x∈r,x.length≤40) (hr:Cr b ([73,78,67,82]::r)=[]):Bc (ev R) 65 [.d (Db b), .d (Bf ([73,78,67,82]::r))]=some (Bo (Df b [73,78,67,82] r)):=Bb fun H=>by
 refine Bh (fn:=f65) rfl rfl ?_
 have hl:=Cb hr
 have wv:Bi [73,78,67,82]=(2,2,1):=rfl
 rw[wv] at hl
 dsimp only at hl
 obtain⟨k,rfl⟩: ∃k,r=[k]:=by
  match r,hl with
  | [],hl=>exact absurd hl (by simp)
  | [k],_=>exact⟨k,rfl⟩
  |k::z::ts,hl=>exact absurd hl (by simp only[List.length_cons];omega)
 have hk:k.length≤40:=ha k (by simp)
 have p1:=Fj b ([[73,78,67,82],k]) hb.sm (by simp only[List.length_cons,List.length_nil];omega) (by simp)
 rw[hr] at p1
 have p2:=Fe [73,78,67,82]
 rw[wv] at p2
 have p3:=Bkz b k hb hk
 have re:Df b [73,78,67,82] [k]=Bcg b k [49]:=rfl
 rw[re]
 generalize Bcg b k [49]=P at*
 simp only[Bf,List.map_cons,List.map_nil] at p1 p3
 simp(maxSteps:=1000000) [Ca,-List.getD_eq_getElem?_getD,-List.map_map,f65,p1,p2,p3,Bo]
theorem Bvi (b:Ba) (r:List Bq) (hb:BaG b) (ha: ∀x∈r,x.length≤40) (hr:Cr b ([83,69,84]::r)=[]):Bc (ev R) 65 [.d (Db b), .d (Bf ([83,69,84]::r))]=some (Bo (Df b [83,69,84] r)):=Bb fun H=>by
 refine Bh (fn:=f65) rfl rfl ?_
 have hl:=Cb hr
 have wv:Bi [83,69,84]=(3,3,0):=rfl
 rw[wv] at hl
 dsimp only at hl
 obtain⟨k,x,rfl⟩: ∃k x,r=[k,x]:=by
  match r,hl with
  | [],hl=>exact absurd hl (by simp)
  | [a0],hl=>exact absurd hl (by simp)
  | [k,x],_=>exact⟨k,x,rfl⟩
  |k::x::z::ts,hl=>exact absurd hl (by simp only[List.length_cons];omega)
 have hk:k.length≤40:=ha k (by simp)
 have hx:x.length≤40:=ha x (by simp)
 have p1:=Fj b ([[83,69,84],k,x]) hb.sm (by simp only[List.length_cons,List.length_nil];omega) (by simp)
 rw[hr] at p1
 have p2:=Fe [83,69,84]
 rw[wv] at p2
 have p3:=Bo8 b k x hb hk hx
 have re:Df b [83,69,84] [k,x]=Bpq b k x:=rfl
 rw[re]
 generalize Bpq b k x=P at*
 simp only[Bf,List.map_cons,List.map_nil] at p1 p3
 simp(maxSteps:=1000000) [Ca,-List.getD_eq_getElem?_getD,-List.map_map,f65,p1,p2,p3,Bo]
theorem Bjc (b:Ba) (r:List Bq) (hb:BaG b) (ha: ∀x∈r,x.length≤40) (hr:Cr b ([65,80,80,69,78,68]::r)=[]):Bc (ev R) 65 [.d (Db b), .d (Bf ([65,80,80,69,78,68]::r))]=some (Bo (Df b [65,80,80,69,78,68] r)):=Bb fun H=>by
 refine Bh (fn:=f65) rfl rfl ?_
 have hl:=Cb hr
 have wv:Bi [65,80,80,69,78,68]=(3,3,1):=rfl
 rw[wv] at hl
 dsimp only at hl
 obtain⟨k,x,rfl⟩: ∃k x,r=[k,x]:=by
  match r,hl with
  | [],hl=>exact absurd hl (by simp)
  | [a0],hl=>exact absurd hl (by simp)
  | [k,x],_=>exact⟨k,x,rfl⟩
  |k::x::z::ts,hl=>exact absurd hl (by simp only[List.length_cons];omega)
 have hk:k.length≤40:=ha k (by simp)
 have hx:x.length≤40:=ha x (by simp)
 have p1:=Fj b ([[65,80,80,69,78,68],k,x]) hb.sm (by simp only[List.length_cons,List.length_nil];omega) (by simp)
 rw[hr] at p1
 have p2:=Fe [65,80,80,69,78,68]
 rw[wv] at p2
 have p3:=Bfx b k x hb hk hx
 have re:Df b [65,80,80,69,78,68] [k,x]=Uk b k x:=rfl
 rw[re]
 generalize Uk b k x=P at*
 simp only[Bf,List.map_cons,List.map_nil] at p1 p3
 simp(maxSteps:=1000000) [Ca,-List.getD_eq_getElem?_getD,-List.map_map,f65,p1,p2,p3,Bo]
theorem Bjg (b:Ba) (r:List Bq) (hb:BaG b) (ha: ∀x∈r,x.length≤40) (hr:Cr b ([73,78,67,82,66,89]::r)=[]):Bc (ev R) 65 [.d (Db b), .d (Bf ([73,78,67,82,66,89]::r))]=some (Bo (Df b [73,78,67,82,66,89] r)):=Bb fun H=>by
 refine Bh (fn:=f65) rfl rfl ?_
 have hl:=Cb hr
 have wv:Bi [73,78,67,82,66,89]=(3,3,1):=rfl
 rw[wv] at hl
 dsimp only at hl
 obtain⟨k,x,rfl⟩: ∃k x,r=[k,x]:=by
  match r,hl with
  | [],hl=>exact absurd hl (by simp)
  | [a0],hl=>exact absurd hl (by simp)
  | [k,x],_=>exact⟨k,x,rfl⟩
  |k::x::z::ts,hl=>exact absurd hl (by simp only[List.length_cons];omega)
 have hk:k.length≤40:=ha k (by simp)
 have hx:x.length≤40:=ha x (by simp)
 have p1:=Fj b ([[73,78,67,82,66,89],k,x]) hb.sm (by simp only[List.length_cons,List.length_nil];omega) (by simp)
 rw[hr] at p1
 have p2:=Fe [73,78,67,82,66,89]
 rw[wv] at p2
 have p3:=Bfy b k x hb hk hx
 have re:Df b [73,78,67,82,66,89] [k,x]=Bcg b k x:=rfl
 rw[re]
 generalize Bcg b k x=P at*
 simp only[Bf,List.map_cons,List.map_nil] at p1 p3
 simp(maxSteps:=1000000) [Ca,-List.getD_eq_getElem?_getD,-List.map_map,f65,p1,p2,p3,Bo]
theorem Bdk (b:Ba) (r:List Bq) (hb:BaG b) (ha: ∀x∈r,x.length≤40) (hr:Cr b ([71,69,84,82,65,78,71,69]::r)=[]):Bc (ev R) 65 [.d (Db b), .d (Bf ([71,69,84,82,65,78,71,69]::r))]=some (Bo (Df b [71,69,84,82,65,78,71,69] r)):=Bb fun H=>by
 refine Bh (fn:=f65) rfl rfl ?_
 have hl:=Cb hr
 have wv:Bi [71,69,84,82,65,78,71,69]=(4,4,1):=rfl
 rw[wv] at hl
 dsimp only at hl
 obtain⟨k,x,y,rfl⟩: ∃k x y,r=[k,x,y]:=by
  match r,hl with
  | [],hl=>exact absurd hl (by simp)
  | [a0],hl=>exact absurd hl (by simp)
  | [a0,a1],hl=>exact absurd hl (by simp)
  | [k,x,y],_=>exact⟨k,x,y,rfl⟩
  |k::x::y::z::ts,hl=>exact absurd hl (by simp only[List.length_cons];omega)
 have hk:k.length≤40:=ha k (by simp)
 have hx:x.length≤40:=ha x (by simp)
 have hy:y.length≤40:=ha y (by simp)
 have p1:=Fj b ([[71,69,84,82,65,78,71,69],k,x,y]) hb.sm (by simp only[List.length_cons,List.length_nil];omega) (by simp)
 rw[hr] at p1
 have p2:=Fe [71,69,84,82,65,78,71,69]
 rw[wv] at p2
 have p3:=Bcb b k x y hb hk hx hy
 have re:Df b [71,69,84,82,65,78,71,69] [k,x,y]=Ph b k x y:=rfl
 rw[re]
 generalize Ph b k x y=P at*
 simp only[Bf,List.map_cons,List.map_nil] at p1 p3
 simp(maxSteps:=1000000) [Ca,-List.getD_eq_getElem?_getD,-List.map_map,f65,p1,p2,p3,Bo]
theorem Bma (b:Ba) (r:List Bq) (hb:BaG b) (ha: ∀x∈r,x.length≤40) (hr:Cr b ([76,80,85,83,72]::r)=[]):Bc (ev R) 65 [.d (Db b), .d (Bf ([76,80,85,83,72]::r))]=some (Bo (Df b [76,80,85,83,72] r)):=Bb fun H=>by
 refine Bh (fn:=f65) rfl rfl ?_
 have hl:=Cb hr
 have wv:Bi [76,80,85,83,72]=(3,8,2):=rfl
 rw[wv] at hl
 dsimp only at hl
 obtain⟨k,ts,rfl⟩: ∃k ts,r=k::ts:=by
  match r,hl with
  | [],hl=>simp at hl
  |k::ts,_=>exact⟨k,ts,rfl⟩
 simp only[List.length_cons] at hl
 have hk:k.length≤40:=ha k (by simp)
 have c00: (0:Int)< (ts.length:Int)+1+1:=by omega
 have p1:=Fj b ([76,80,85,83,72]::k::ts) hb.sm (by simp only[List.length_cons,List.length_nil];omega) (by simp)
 rw[hr] at p1
 have p2:=Fe [76,80,85,83,72]
 rw[wv] at p2
 have p3:=Bh1 b k ts hb hk (by omega)
 have re:Df b [76,80,85,83,72] (k::ts)=Tm b k true ts:=rfl
 rw[re]
 generalize Tm b k true ts=P at*
 simp only[Bf,List.map_cons,List.map_nil] at p1 p3
 simp(maxSteps:=1000000) [Ca,-List.getD_eq_getElem?_getD,-List.map_map,f65,p1,p2,p3,Bo,c00]
theorem Bmc (b:Ba) (r:List Bq) (hb:BaG b) (ha: ∀x∈r,x.length≤40) (hr:Cr b ([82,80,85,83,72]::r)=[]):Bc (ev R) 65 [.d (Db b), .d (Bf ([82,80,85,83,72]::r))]=some (Bo (Df b [82,80,85,83,72] r)):=Bb fun H=>by
 refine Bh (fn:=f65) rfl rfl ?_
 have hl:=Cb hr
 have wv:Bi [82,80,85,83,72]=(3,8,2):=rfl
 rw[wv] at hl
 dsimp only at hl
 obtain⟨k,ts,rfl⟩: ∃k ts,r=k::ts:=by
  match r,hl with
  | [],hl=>simp at hl
  |k::ts,_=>exact⟨k,ts,rfl⟩
 simp only[List.length_cons] at hl
 have hk:k.length≤40:=ha k (by simp)
 have c00: (0:Int)< (ts.length:Int)+1+1:=by omega
 have p1:=Fj b ([82,80,85,83,72]::k::ts) hb.sm (by simp only[List.length_cons,List.length_nil];omega) (by simp)
 rw[hr] at p1
 have p2:=Fe [82,80,85,83,72]
 rw[wv] at p2
 have p3:=Bh3 b k ts hb hk (by omega)
 have re:Df b [82,80,85,83,72] (k::ts)=Tm b k false ts:=rfl
 rw[re]
 generalize Tm b k false ts=P at*
 simp only[Bf,List.map_cons,List.map_nil] at p1 p3
 simp(maxSteps:=1000000) [Ca,-List.getD_eq_getElem?_getD,-List.map_map,f65,p1,p2,p3,Bo,c00]
theorem Bqp (b:Ba) (r:List Bq) (hb:BaG b) (ha: ∀x∈r,x.length≤40) (hr:Cr b ([76,80,79,80]::r)=[]):Bc (ev R) 65 [.d (Db b), .d (Bf ([76,80,79,80]::r))]=some (Bo (Df b [76,80,79,80] r)):=Bb fun H=>by
 refine Bh (fn:=f65) rfl rfl ?_
 have hl:=Cb hr
 have wv:Bi [76,80,79,80]=(2,2,2):=rfl
 rw[wv] at hl
 dsimp only at hl
 obtain⟨k,rfl⟩: ∃k,r=[k]:=by
  match r,hl with
  | [],hl=>exact absurd hl (by simp)
  | [k],_=>exact⟨k,rfl⟩
  |k::z::ts,hl=>exact absurd hl (by simp only[List.length_cons];omega)
 have hk:k.length≤40:=ha k (by simp)
 have p1:=Fj b ([[76,80,79,80],k]) hb.sm (by simp only[List.length_cons,List.length_nil];omega) (by simp)
 rw[hr] at p1
 have p2:=Fe [76,80,79,80]
 rw[wv] at p2
 have p3:=Bk1 b k hb hk
 have re:Df b [76,80,79,80] [k]=Bcl b k true:=rfl
 rw[re]
 generalize Bcl b k true=P at*
 simp only[Bf,List.map_cons,List.map_nil] at p1 p3
 simp(maxSteps:=1000000) [Ca,-List.getD_eq_getElem?_getD,-List.map_map,f65,p1,p2,p3,Bo]
theorem Bqs (b:Ba) (r:List Bq) (hb:BaG b) (ha: ∀x∈r,x.length≤40) (hr:Cr b ([82,80,79,80]::r)=[]):Bc (ev R) 65 [.d (Db b), .d (Bf ([82,80,79,80]::r))]=some (Bo (Df b [82,80,79,80] r)):=Bb fun H=>by
 refine Bh (fn:=f65) rfl rfl ?_
 have hl:=Cb hr
 have wv:Bi [82,80,79,80]=(2,2,2):=rfl
 rw[wv] at hl
 dsimp only at hl
 obtain⟨k,rfl⟩: ∃k,r=[k]:=by
  match r,hl with
  | [],hl=>exact absurd hl (by simp)
  | [k],_=>exact⟨k,rfl⟩
  |k::z::ts,hl=>exact absurd hl (by simp only[List.length_cons];omega)
 have hk:k.length≤40:=ha k (by simp)
 have p1:=Fj b ([[82,80,79,80],k]) hb.sm (by simp only[List.length_cons,List.length_nil];omega) (by simp)
 rw[hr] at p1
 have p2:=Fe [82,80,79,80]
 rw[wv] at p2
 have p3:=Bk5 b k hb hk
 have re:Df b [82,80,79,80] [k]=Bcl b k false:=rfl
 rw[re]
 generalize Bcl b k false=P at*
 simp only[Bf,List.map_cons,List.map_nil] at p1 p3
 simp(maxSteps:=1000000) [Ca,-List.getD_eq_getElem?_getD,-List.map_map,f65,p1,p2,p3,Bo]
theorem Bqo (b:Ba) (r:List Bq) (hb:BaG b) (ha: ∀x∈r,x.length≤40) (hr:Cr b ([76,76,69,78]::r)=[]):Bc (ev R) 65 [.d (Db b), .d (Bf ([76,76,69,78]::r))]=some (Bo (Df b [76,76,69,78] r)):=Bb fun H=>by
 refine Bh (fn:=f65) rfl rfl ?_
 have hl:=Cb hr
 have wv:Bi [76,76,69,78]=(2,2,2):=rfl
 rw[wv] at hl
 dsimp only at hl
 obtain⟨k,rfl⟩: ∃k,r=[k]:=by
  match r,hl with
  | [],hl=>exact absurd hl (by simp)
  | [k],_=>exact⟨k,rfl⟩
  |k::z::ts,hl=>exact absurd hl (by simp only[List.length_cons];omega)
 have hk:k.length≤40:=ha k (by simp)
 have p1:=Fj b ([[76,76,69,78],k]) hb.sm (by simp only[List.length_cons,List.length_nil];omega) (by simp)
 rw[hr] at p1
 have p2:=Fe [76,76,69,78]
 rw[wv] at p2
 have p3:=Bk0 b k hb hk
 have re:Df b [76,76,69,78] [k]=U2 b k:=rfl
 rw[re]
 generalize U2 b k=P at*
 simp only[Bf,List.map_cons,List.map_nil] at p1 p3
 simp(maxSteps:=1000000) [Ca,-List.getD_eq_getElem?_getD,-List.map_map,f65,p1,p2,p3,Bo]
theorem Bjh (b:Ba) (r:List Bq) (hb:BaG b) (ha: ∀x∈r,x.length≤40) (hr:Cr b ([76,82,65,78,71,69]::r)=[]):Bc (ev R) 65 [.d (Db b), .d (Bf ([76,82,65,78,71,69]::r))]=some (Bo (Df b [76,82,65,78,71,69] r)):=Bb fun H=>by
 refine Bh (fn:=f65) rfl rfl ?_
 have hl:=Cb hr
 have wv:Bi [76,82,65,78,71,69]=(4,4,2):=rfl
 rw[wv] at hl
 dsimp only at hl
 obtain⟨k,x,y,rfl⟩: ∃k x y,r=[k,x,y]:=by
  match r,hl with
  | [],hl=>exact absurd hl (by simp)
  | [a0],hl=>exact absurd hl (by simp)
  | [a0,a1],hl=>exact absurd hl (by simp)
  | [k,x,y],_=>exact⟨k,x,y,rfl⟩
  |k::x::y::z::ts,hl=>exact absurd hl (by simp only[List.length_cons];omega)
 have hk:k.length≤40:=ha k (by simp)
 have hx:x.length≤40:=ha x (by simp)
 have hy:y.length≤40:=ha y (by simp)
 have p1:=Fj b ([[76,82,65,78,71,69],k,x,y]) hb.sm (by simp only[List.length_cons,List.length_nil];omega) (by simp)
 rw[hr] at p1
 have p2:=Fe [76,82,65,78,71,69]
 rw[wv] at p2
 have p3:=Bf0 b k x y hb hk hx hy
 have re:Df b [76,82,65,78,71,69] [k,x,y]=Un b k x y:=rfl
 rw[re]
 generalize Un b k x y=P at*
 simp only[Bf,List.map_cons,List.map_nil] at p1 p3
 simp(maxSteps:=1000000) [Ca,-List.getD_eq_getElem?_getD,-List.map_map,f65,p1,p2,p3,Bo]
theorem Bmb (b:Ba) (r:List Bq) (hb:BaG b) (ha: ∀x∈r,x.length≤40) (hr:Cr b ([76,84,82,73,77]::r)=[]):Bc (ev R) 65 [.d (Db b), .d (Bf ([76,84,82,73,77]::r))]=some (Bo (Df b [76,84,82,73,77] r)):=Bb fun H=>by
 refine Bh (fn:=f65) rfl rfl ?_
 have hl:=Cb hr
 have wv:Bi [76,84,82,73,77]=(4,4,2):=rfl
 rw[wv] at hl
 dsimp only at hl
 obtain⟨k,x,y,rfl⟩: ∃k x y,r=[k,x,y]:=by
  match r,hl with
  | [],hl=>exact absurd hl (by simp)
  | [a0],hl=>exact absurd hl (by simp)
  | [a0,a1],hl=>exact absurd hl (by simp)
  | [k,x,y],_=>exact⟨k,x,y,rfl⟩
  |k::x::y::z::ts,hl=>exact absurd hl (by simp only[List.length_cons];omega)
 have hk:k.length≤40:=ha k (by simp)
 have hx:x.length≤40:=ha x (by simp)
 have hy:y.length≤40:=ha y (by simp)
 have p1:=Fj b ([[76,84,82,73,77],k,x,y]) hb.sm (by simp only[List.length_cons,List.length_nil];omega) (by simp)
 rw[hr] at p1
 have p2:=Fe [76,84,82,73,77]
 rw[wv] at p2
 have p3:=Bh2 b k x y hb hk hx hy
 have re:Df b [76,84,82,73,77] [k,x,y]=Y4 b k x y:=rfl
 rw[re]
 generalize Y4 b k x y=P at*
 simp only[Bf,List.map_cons,List.map_nil] at p1 p3
 simp(maxSteps:=1000000) [Ca,-List.getD_eq_getElem?_getD,-List.map_map,f65,p1,p2,p3,Bo]
theorem Bqr (b:Ba) (r:List Bq) (hb:BaG b) (ha: ∀x∈r,x.length≤40) (hr:Cr b ([76,83,69,84]::r)=[]):Bc (ev R) 65 [.d (Db b), .d (Bf ([76,83,69,84]::r))]=some (Bo (Df b [76,83,69,84] r)):=Bb fun H=>by
 refine Bh (fn:=f65) rfl rfl ?_
 have hl:=Cb hr
 have wv:Bi [76,83,69,84]=(4,4,2):=rfl
 rw[wv] at hl
 dsimp only at hl
 obtain⟨k,x,y,rfl⟩: ∃k x y,r=[k,x,y]:=by
  match r,hl with
  | [],hl=>exact absurd hl (by simp)
  | [a0],hl=>exact absurd hl (by simp)
  | [a0,a1],hl=>exact absurd hl (by simp)
  | [k,x,y],_=>exact⟨k,x,y,rfl⟩
  |k::x::y::z::ts,hl=>exact absurd hl (by simp only[List.length_cons];omega)
 have hk:k.length≤40:=ha k (by simp)
 have hx:x.length≤40:=ha x (by simp)
 have hy:y.length≤40:=ha y (by simp)
 have p1:=Fj b ([[76,83,69,84],k,x,y]) hb.sm (by simp only[List.length_cons,List.length_nil];omega) (by simp)
 rw[hr] at p1
 have p2:=Fe [76,83,69,84]
 rw[wv] at p2
 have p3:=Bk4 b k x y hb hk hx hy
 have re:Df b [76,83,69,84] [k,x,y]=Beo b k x y:=rfl
 rw[re]
 generalize Beo b k x y=P at*
 simp only[Bf,List.map_cons,List.map_nil] at p1 p3
 simp(maxSteps:=1000000) [Ca,-List.getD_eq_getElem?_getD,-List.map_map,f65,p1,p2,p3,Bo]
theorem Bqq (b:Ba) (r:List Bq) (hb:BaG b) (ha: ∀x∈r,x.length≤40) (hr:Cr b ([76,82,69,77]::r)=[]):Bc (ev R) 65 [.d (Db b), .d (Bf ([76,82,69,77]::r))]=some (Bo (Df b [76,82,69,77] r)):=Bb fun H=>by
 refine Bh (fn:=f65) rfl rfl ?_
 have hl:=Cb hr
 have wv:Bi [76,82,69,77]=(4,4,2):=rfl
 rw[wv] at hl
 dsimp only at hl
 obtain⟨k,x,y,rfl⟩: ∃k x y,r=[k,x,y]:=by
  match r,hl with
  | [],hl=>exact absurd hl (by simp)
  | [a0],hl=>exact absurd hl (by simp)
  | [a0,a1],hl=>exact absurd hl (by simp)
  | [k,x,y],_=>exact⟨k,x,y,rfl⟩
  |k::x::y::z::ts,hl=>exact absurd hl (by simp only[List.length_cons];omega)
 have hk:k.length≤40:=ha k (by simp)
 have hx:x.length≤40:=ha x (by simp)
 have hy:y.length≤40:=ha y (by simp)
 have p1:=Fj b ([[76,82,69,77],k,x,y]) hb.sm (by simp only[List.length_cons,List.length_nil];omega) (by simp)
 rw[hr] at p1
 have p2:=Fe [76,82,69,77]
 rw[wv] at p2
 have p3:=Bk3 b k x y hb hk hx hy
 have re:Df b [76,82,69,77] [k,x,y]=Ben b k x y:=rfl
 rw[re]
 generalize Ben b k x y=P at*
 simp only[Bf,List.map_cons,List.map_nil] at p1 p3
 simp(maxSteps:=1000000) [Ca,-List.getD_eq_getElem?_getD,-List.map_map,f65,p1,p2,p3,Bo]
theorem Bqt (b:Ba) (r:List Bq) (hb:BaG b) (ha: ∀x∈r,x.length≤40) (hr:Cr b ([83,65,68,68]::r)=[]):Bc (ev R) 65 [.d (Db b), .d (Bf ([83,65,68,68]::r))]=some (Bo (Df b [83,65,68,68] r)):=Bb fun H=>by
 refine Bh (fn:=f65) rfl rfl ?_
 have hl:=Cb hr
 have wv:Bi [83,65,68,68]=(3,8,3):=rfl
 rw[wv] at hl
 dsimp only at hl
 obtain⟨k,ts,rfl⟩: ∃k ts,r=k::ts:=by
  match r,hl with
  | [],hl=>simp at hl
  |k::ts,_=>exact⟨k,ts,rfl⟩
 simp only[List.length_cons] at hl
 have hk:k.length≤40:=ha k (by simp)
 have c00: (0:Int)< (ts.length:Int)+1+1:=by omega
 have p1:=Fj b ([83,65,68,68]::k::ts) hb.sm (by simp only[List.length_cons,List.length_nil];omega) (by simp)
 rw[hr] at p1
 have p2:=Fe [83,65,68,68]
 rw[wv] at p2
 have p3:=Bk6 b k ts hb hk (by omega)
 have re:Df b [83,65,68,68] (k::ts)=Bep b k ts:=rfl
 rw[re]
 generalize Bep b k ts=P at*
 simp only[Bf,List.map_cons,List.map_nil] at p1 p3
 simp(maxSteps:=1000000) [Ca,-List.getD_eq_getElem?_getD,-List.map_map,f65,p1,p2,p3,Bo,c00]
theorem Bqu (b:Ba) (r:List Bq) (hb:BaG b) (ha: ∀x∈r,x.length≤40) (hr:Cr b ([83,82,69,77]::r)=[]):Bc (ev R) 65 [.d (Db b), .d (Bf ([83,82,69,77]::r))]=some (Bo (Df b [83,82,69,77] r)):=Bb fun H=>by
 refine Bh (fn:=f65) rfl rfl ?_
 have hl:=Cb hr
 have wv:Bi [83,82,69,77]=(3,8,3):=rfl
 rw[wv] at hl
 dsimp only at hl
 obtain⟨k,ts,rfl⟩: ∃k ts,r=k::ts:=by
  match r,hl with
  | [],hl=>simp at hl
  |k::ts,_=>exact⟨k,ts,rfl⟩
 simp only[List.length_cons] at hl
 have hk:k.length≤40:=ha k (by simp)
 have c00: (0:Int)< (ts.length:Int)+1+1:=by omega
 have p1:=Fj b ([83,82,69,77]::k::ts) hb.sm (by simp only[List.length_cons,List.length_nil];omega) (by simp)
 rw[hr] at p1
 have p2:=Fe [83,82,69,77]
 rw[wv] at p2
 have p3:=Bk7 b k ts hb hk (by omega)
 have re:Df b [83,82,69,77] (k::ts)=Beq b k ts:=rfl
 rw[re]
 generalize Beq b k ts=P at*
 simp only[Bf,List.map_cons,List.map_nil] at p1 p3
 simp(maxSteps:=1000000) [Ca,-List.getD_eq_getElem?_getD,-List.map_map,f65,p1,p2,p3,Bo,c00]
theorem Bdl (b:Ba) (r:List Bq) (hb:BaG b) (ha: ∀x∈r,x.length≤40) (hr:Cr b ([83,77,69,77,66,69,82,83]::r)=[]):Bc (ev R) 65 [.d (Db b), .d (Bf ([83,77,69,77,66,69,82,83]::r))]=some (Bo (Df b [83,77,69,77,66,69,82,83] r)):=Bb fun H=>by
 refine Bh (fn:=f65) rfl rfl ?_
 have hl:=Cb hr
 have wv:Bi [83,77,69,77,66,69,82,83]=(2,2,3):=rfl
 rw[wv] at hl
 dsimp only at hl
 obtain⟨k,rfl⟩: ∃k,r=[k]:=by
  match r,hl with
  | [],hl=>exact absurd hl (by simp)
  | [k],_=>exact⟨k,rfl⟩
  |k::z::ts,hl=>exact absurd hl (by simp only[List.length_cons];omega)
 have hk:k.length≤40:=ha k (by simp)
 have p1:=Fj b ([[83,77,69,77,66,69,82,83],k]) hb.sm (by simp only[List.length_cons,List.length_nil];omega) (by simp)
 rw[hr] at p1
 have p2:=Fe [83,77,69,77,66,69,82,83]
 rw[wv] at p2
 have p3:=Bcc b k hb hk
 have re:Df b [83,77,69,77,66,69,82,83] [k]=Rb b k:=rfl
 rw[re]
 generalize Rb b k=P at*
 simp only[Bf,List.map_cons,List.map_nil] at p1 p3
 simp(maxSteps:=1000000) [Ca,-List.getD_eq_getElem?_getD,-List.map_map,f65,p1,p2,p3,Bo]
theorem Bmd (b:Ba) (r:List Bq) (hb:BaG b) (ha: ∀x∈r,x.length≤40) (hr:Cr b ([83,67,65,82,68]::r)=[]):Bc (ev R) 65 [.d (Db b), .d (Bf ([83,67,65,82,68]::r))]=some (Bo (Df b [83,67,65,82,68] r)):=Bb fun H=>by
 refine Bh (fn:=f65) rfl rfl ?_
 have hl:=Cb hr
 have wv:Bi [83,67,65,82,68]=(2,2,3):=rfl
 rw[wv] at hl
 dsimp only at hl
 obtain⟨k,rfl⟩: ∃k,r=[k]:=by
  match r,hl with
  | [],hl=>exact absurd hl (by simp)
  | [k],_=>exact⟨k,rfl⟩
  |k::z::ts,hl=>exact absurd hl (by simp only[List.length_cons];omega)
 have hk:k.length≤40:=ha k (by simp)
 have p1:=Fj b ([[83,67,65,82,68],k]) hb.sm (by simp only[List.length_cons,List.length_nil];omega) (by simp)
 rw[hr] at p1
 have p2:=Fe [83,67,65,82,68]
 rw[wv] at p2
 have p3:=Bh4 b k hb hk
 have re:Df b [83,67,65,82,68] [k]=U2 b k:=rfl
 rw[re]
 generalize U2 b k=P at*
 simp only[Bf,List.map_cons,List.map_nil] at p1 p3
 simp(maxSteps:=1000000) [Ca,-List.getD_eq_getElem?_getD,-List.map_map,f65,p1,p2,p3,Bo]
theorem Bc6 (b:Ba) (r:List Bq) (hb:BaG b) (ha: ∀x∈r,x.length≤40) (hr:Cr b ([83,73,83,77,69,77,66,69,82]::r)=[]):Bc (ev R) 65 [.d (Db b), .d (Bf ([83,73,83,77,69,77,66,69,82]::r))]=some (Bo (Df b [83,73,83,77,69,77,66,69,82] r)):=Bb fun H=>by
 refine Bh (fn:=f65) rfl rfl ?_
 have hl:=Cb hr
 have wv:Bi [83,73,83,77,69,77,66,69,82]=(3,3,3):=rfl
 rw[wv] at hl
 dsimp only at hl
 obtain⟨k,x,rfl⟩: ∃k x,r=[k,x]:=by
  match r,hl with
  | [],hl=>exact absurd hl (by simp)
  | [a0],hl=>exact absurd hl (by simp)
  | [k,x],_=>exact⟨k,x,rfl⟩
  |k::x::z::ts,hl=>exact absurd hl (by simp only[List.length_cons];omega)
 have hk:k.length≤40:=ha k (by simp)
 have hx:x.length≤40:=ha x (by simp)
 have p1:=Fj b ([[83,73,83,77,69,77,66,69,82],k,x]) hb.sm (by simp only[List.length_cons,List.length_nil];omega) (by simp)
 rw[hr] at p1
 have p2:=Fe [83,73,83,77,69,77,66,69,82]
 rw[wv] at p2
 have p3:=Baf b k x hb hk hx
 have re:Df b [83,73,83,77,69,77,66,69,82] [k,x]=Pz b k x:=rfl
 rw[re]
 generalize Pz b k x=P at*
 simp only[Bf,List.map_cons,List.map_nil] at p1 p3
 simp(maxSteps:=1000000) [Ca,-List.getD_eq_getElem?_getD,-List.map_map,f65,p1,p2,p3,Bo]
theorem Bjj (b:Ba) (r:List Bq) (hb:BaG b) (ha: ∀x∈r,x.length≤40) (hr:Cr b ([83,73,78,84,69,82]::r)=[]):Bc (ev R) 65 [.d (Db b), .d (Bf ([83,73,78,84,69,82]::r))]=some (Bo (Df b [83,73,78,84,69,82] r)):=Bb fun H=>by
 refine Bh (fn:=f65) rfl rfl ?_
 have hl:=Cb hr
 have wv:Bi [83,73,78,84,69,82]=(3,3,3):=rfl
 rw[wv] at hl
 dsimp only at hl
 obtain⟨k,x,rfl⟩: ∃k x,r=[k,x]:=by
  match r,hl with
  | [],hl=>exact absurd hl (by simp)
  | [a0],hl=>exact absurd hl (by simp)
  | [k,x],_=>exact⟨k,x,rfl⟩
  |k::x::z::ts,hl=>exact absurd hl (by simp only[List.length_cons];omega)
 have hk:k.length≤40:=ha k (by simp)
 have hx:x.length≤40:=ha x (by simp)
 have p1:=Fj b ([[83,73,78,84,69,82],k,x]) hb.sm (by simp only[List.length_cons,List.length_nil];omega) (by simp)
 rw[hr] at p1
 have p2:=Fe [83,73,78,84,69,82]
 rw[wv] at p2
 have p3:=Bf1 b k x hb hk hx
 have re:Df b [83,73,78,84,69,82] [k,x]=X0 b k x:=rfl
 rw[re]
 generalize X0 b k x=P at*
 simp only[Bf,List.map_cons,List.map_nil] at p1 p3
 simp(maxSteps:=1000000) [Ca,-List.getD_eq_getElem?_getD,-List.map_map,f65,p1,p2,p3,Bo]
theorem Bjl (b:Ba) (r:List Bq) (hb:BaG b) (ha: ∀x∈r,x.length≤40) (hr:Cr b ([83,85,78,73,79,78]::r)=[]):Bc (ev R) 65 [.d (Db b), .d (Bf ([83,85,78,73,79,78]::r))]=some (Bo (Df b [83,85,78,73,79,78] r)):=Bb fun H=>by
 refine Bh (fn:=f65) rfl rfl ?_
 have hl:=Cb hr
 have wv:Bi [83,85,78,73,79,78]=(3,3,3):=rfl
 rw[wv] at hl
 dsimp only at hl
 obtain⟨k,x,rfl⟩: ∃k x,r=[k,x]:=by
  match r,hl with
  | [],hl=>exact absurd hl (by simp)
  | [a0],hl=>exact absurd hl (by simp)
  | [k,x],_=>exact⟨k,x,rfl⟩
  |k::x::z::ts,hl=>exact absurd hl (by simp only[List.length_cons];omega)
 have hk:k.length≤40:=ha k (by simp)
 have hx:x.length≤40:=ha x (by simp)
 have p1:=Fj b ([[83,85,78,73,79,78],k,x]) hb.sm (by simp only[List.length_cons,List.length_nil];omega) (by simp)
 rw[hr] at p1
 have p2:=Fe [83,85,78,73,79,78]
 rw[wv] at p2
 have p3:=Bf2 b k x hb hk hx
 have re:Df b [83,85,78,73,79,78] [k,x]=X4 b k x:=rfl
 rw[re]
 generalize X4 b k x=P at*
 simp only[Bf,List.map_cons,List.map_nil] at p1 p3
 simp(maxSteps:=1000000) [Ca,-List.getD_eq_getElem?_getD,-List.map_map,f65,p1,p2,p3,Bo]
theorem Bme (b:Ba) (r:List Bq) (hb:BaG b) (ha: ∀x∈r,x.length≤40) (hr:Cr b ([83,68,73,70,70]::r)=[]):Bc (ev R) 65 [.d (Db b), .d (Bf ([83,68,73,70,70]::r))]=some (Bo (Df b [83,68,73,70,70] r)):=Bb fun H=>by
 refine Bh (fn:=f65) rfl rfl ?_
 have hl:=Cb hr
 have wv:Bi [83,68,73,70,70]=(3,3,3):=rfl
 rw[wv] at hl
 dsimp only at hl
 obtain⟨k,x,rfl⟩: ∃k x,r=[k,x]:=by
  match r,hl with
  | [],hl=>exact absurd hl (by simp)
  | [a0],hl=>exact absurd hl (by simp)
  | [k,x],_=>exact⟨k,x,rfl⟩
  |k::x::z::ts,hl=>exact absurd hl (by simp only[List.length_cons];omega)
 have hk:k.length≤40:=ha k (by simp)
 have hx:x.length≤40:=ha x (by simp)
 have p1:=Fj b ([[83,68,73,70,70],k,x]) hb.sm (by simp only[List.length_cons,List.length_nil];omega) (by simp)
 rw[hr] at p1
 have p2:=Fe [83,68,73,70,70]
 rw[wv] at p2
 have p3:=Bh5 b k x hb hk hx
 have re:Df b [83,68,73,70,70] [k,x]=Bcn b k x:=rfl
 rw[re]
 generalize Bcn b k x=P at*
 simp only[Bf,List.map_cons,List.map_nil] at p1 p3
 simp(maxSteps:=1000000) [Ca,-List.getD_eq_getElem?_getD,-List.map_map,f65,p1,p2,p3,Bo]
theorem Bqw (b:Ba) (r:List Bq) (hb:BaG b) (ha: ∀x∈r,x.length≤40) (hr:Cr b ([90,65,68,68]::r)=[]):Bc (ev R) 65 [.d (Db b), .d (Bf ([90,65,68,68]::r))]=some (Bo (Df b [90,65,68,68] r)):=Bb fun H=>by
 refine Bh (fn:=f65) rfl rfl ?_
 have hl:=Cb hr
 have wv:Bi [90,65,68,68]=(4,4,4):=rfl
 rw[wv] at hl
 dsimp only at hl
 obtain⟨k,x,y,rfl⟩: ∃k x y,r=[k,x,y]:=by
  match r,hl with
  | [],hl=>exact absurd hl (by simp)
  | [a0],hl=>exact absurd hl (by simp)
  | [a0,a1],hl=>exact absurd hl (by simp)
  | [k,x,y],_=>exact⟨k,x,y,rfl⟩
  |k::x::y::z::ts,hl=>exact absurd hl (by simp only[List.length_cons];omega)
 have hk:k.length≤40:=ha k (by simp)
 have hx:x.length≤40:=ha x (by simp)
 have hy:y.length≤40:=ha y (by simp)
 have p1:=Fj b ([[90,65,68,68],k,x,y]) hb.sm (by simp only[List.length_cons,List.length_nil];omega) (by simp)
 rw[hr] at p1
 have p2:=Fe [90,65,68,68]
 rw[wv] at p2
 have p3:=Bk8 b k x y hb hk hx hy
 have re:Df b [90,65,68,68] [k,x,y]=Ber b k x y:=rfl
 rw[re]
 generalize Ber b k x y=P at*
 simp only[Bf,List.map_cons,List.map_nil] at p1 p3
 simp(maxSteps:=1000000) [Ca,-List.getD_eq_getElem?_getD,-List.map_map,f65,p1,p2,p3,Bo]
theorem Bgp (b:Ba) (r:List Bq) (hb:BaG b) (ha: ∀x∈r,x.length≤40) (hr:Cr b ([90,73,78,67,82,66,89]::r)=[]):Bc (ev R) 65 [.d (Db b), .d (Bf ([90,73,78,67,82,66,89]::r))]=some (Bo (Df b [90,73,78,67,82,66,89] r)):=Bb fun H=>by
 refine Bh (fn:=f65) rfl rfl ?_
 have hl:=Cb hr
 have wv:Bi [90,73,78,67,82,66,89]=(4,4,4):=rfl
 rw[wv] at hl
 dsimp only at hl
 obtain⟨k,x,y,rfl⟩: ∃k x y,r=[k,x,y]:=by
  match r,hl with
  | [],hl=>exact absurd hl (by simp)
  | [a0],hl=>exact absurd hl (by simp)
  | [a0,a1],hl=>exact absurd hl (by simp)
  | [k,x,y],_=>exact⟨k,x,y,rfl⟩
  |k::x::y::z::ts,hl=>exact absurd hl (by simp only[List.length_cons];omega)
 have hk:k.length≤40:=ha k (by simp)
 have hx:x.length≤40:=ha x (by simp)
 have hy:y.length≤40:=ha y (by simp)
 have p1:=Fj b ([[90,73,78,67,82,66,89],k,x,y]) hb.sm (by simp only[List.length_cons,List.length_nil];omega) (by simp)
 rw[hr] at p1
 have p2:=Fe [90,73,78,67,82,66,89]
 rw[wv] at p2
 have p3:=Bdb b k x y hb hk hx hy
 have re:Df b [90,73,78,67,82,66,89] [k,x,y]=Rc b k x y:=rfl
 rw[re]
 generalize Rc b k x y=P at*
 simp only[Bf,List.map_cons,List.map_nil] at p1 p3
 simp(maxSteps:=1000000) [Ca,-List.getD_eq_getElem?_getD,-List.map_map,f65,p1,p2,p3,Bo]
theorem Bjm (b:Ba) (r:List Bq) (hb:BaG b) (ha: ∀x∈r,x.length≤40) (hr:Cr b ([90,82,65,78,71,69]::r)=[]):Bc (ev R) 65 [.d (Db b), .d (Bf ([90,82,65,78,71,69]::r))]=some (Bo (Df b [90,82,65,78,71,69] r)):=Bb fun H=>by
 refine Bh (fn:=f65) rfl rfl ?_
 have hl:=Cb hr
 have wv:Bi [90,82,65,78,71,69]=(4,4,4):=rfl
 rw[wv] at hl
 dsimp only at hl
 obtain⟨k,x,y,rfl⟩: ∃k x y,r=[k,x,y]:=by
  match r,hl with
  | [],hl=>exact absurd hl (by simp)
  | [a0],hl=>exact absurd hl (by simp)
  | [a0,a1],hl=>exact absurd hl (by simp)
  | [k,x,y],_=>exact⟨k,x,y,rfl⟩
  |k::x::y::z::ts,hl=>exact absurd hl (by simp only[List.length_cons];omega)
 have hk:k.length≤40:=ha k (by simp)
 have hx:x.length≤40:=ha x (by simp)
 have hy:y.length≤40:=ha y (by simp)
 have p1:=Fj b ([[90,82,65,78,71,69],k,x,y]) hb.sm (by simp only[List.length_cons,List.length_nil];omega) (by simp)
 rw[hr] at p1
 have p2:=Fe [90,82,65,78,71,69]
 rw[wv] at p2
 have p3:=Bf3 b k x y hb hk hx hy
 have re:Df b [90,82,65,78,71,69] [k,x,y]=Uq b k x y:=rfl
 rw[re]
 generalize Uq b k x y=P at*
 simp only[Bf,List.map_cons,List.map_nil] at p1 p3
 simp(maxSteps:=1000000) [Ca,-List.getD_eq_getElem?_getD,-List.map_map,f65,p1,p2,p3,Bo]
theorem Wx (b:Ba) (r:List Bq) (hb:BaG b) (ha: ∀x∈r,x.length≤40) (hr:Cr b ([90,82,65,78,71,69,66,89,83,67,79,82,69]::r)=[]):Bc (ev R) 65 [.d (Db b), .d (Bf ([90,82,65,78,71,69,66,89,83,67,79,82,69]::r))]=some (Bo (Df b [90,82,65,78,71,69,66,89,83,67,79,82,69] r)):=Bb fun H=>by
 refine Bh (fn:=f65) rfl rfl ?_
 have hl:=Cb hr
 have wv:Bi [90,82,65,78,71,69,66,89,83,67,79,82,69]=(4,4,4):=rfl
 rw[wv] at hl
 dsimp only at hl
 obtain⟨k,x,y,rfl⟩: ∃k x y,r=[k,x,y]:=by
  match r,hl with
  | [],hl=>exact absurd hl (by simp)
  | [a0],hl=>exact absurd hl (by simp)
  | [a0,a1],hl=>exact absurd hl (by simp)
  | [k,x,y],_=>exact⟨k,x,y,rfl⟩
  |k::x::y::z::ts,hl=>exact absurd hl (by simp only[List.length_cons];omega)
 have hk:k.length≤40:=ha k (by simp)
 have hx:x.length≤40:=ha x (by simp)
 have hy:y.length≤40:=ha y (by simp)
 have p1:=Fj b ([[90,82,65,78,71,69,66,89,83,67,79,82,69],k,x,y]) hb.sm (by simp only[List.length_cons,List.length_nil];omega) (by simp)
 rw[hr] at p1
 have p2:=Fe [90,82,65,78,71,69,66,89,83,67,79,82,69]
 rw[wv] at p2
 have p3:=Uv b k x y hb hk hx hy
 have re:Df b [90,82,65,78,71,69,66,89,83,67,79,82,69] [k,x,y]=Ke b k x y:=rfl
 rw[re]
 generalize Ke b k x y=P at*
 simp only[Bf,List.map_cons,List.map_nil] at p1 p3
 simp(maxSteps:=1000000) [Ca,-List.getD_eq_getElem?_getD,-List.map_map,f65,p1,p2,p3,Bo]
theorem Bqx (b:Ba) (r:List Bq) (hb:BaG b) (ha: ∀x∈r,x.length≤40) (hr:Cr b ([90,82,69,77]::r)=[]):Bc (ev R) 65 [.d (Db b), .d (Bf ([90,82,69,77]::r))]=some (Bo (Df b [90,82,69,77] r)):=Bb fun H=>by
 refine Bh (fn:=f65) rfl rfl ?_
 have hl:=Cb hr
 have wv:Bi [90,82,69,77]=(3,3,4):=rfl
 rw[wv] at hl
 dsimp only at hl
 obtain⟨k,x,rfl⟩: ∃k x,r=[k,x]:=by
  match r,hl with
  | [],hl=>exact absurd hl (by simp)
  | [a0],hl=>exact absurd hl (by simp)
  | [k,x],_=>exact⟨k,x,rfl⟩
  |k::x::z::ts,hl=>exact absurd hl (by simp only[List.length_cons];omega)
 have hk:k.length≤40:=ha k (by simp)
 have hx:x.length≤40:=ha x (by simp)
 have p1:=Fj b ([[90,82,69,77],k,x]) hb.sm (by simp only[List.length_cons,List.length_nil];omega) (by simp)
 rw[hr] at p1
 have p2:=Fe [90,82,69,77]
 rw[wv] at p2
 have p3:=Bk9 b k x hb hk hx
 have re:Df b [90,82,69,77] [k,x]=Bes b k x:=rfl
 rw[re]
 generalize Bes b k x=P at*
 simp only[Bf,List.map_cons,List.map_nil] at p1 p3
 simp(maxSteps:=1000000) [Ca,-List.getD_eq_getElem?_getD,-List.map_map,f65,p1,p2,p3,Bo]
theorem Bjn (b:Ba) (r:List Bq) (hb:BaG b) (ha: ∀x∈r,x.length≤40) (hr:Cr b ([90,83,67,79,82,69]::r)=[]):Bc (ev R) 65 [.d (Db b), .d (Bf ([90,83,67,79,82,69]::r))]=some (Bo (Df b [90,83,67,79,82,69] r)):=Bb fun H=>by
 refine Bh (fn:=f65) rfl rfl ?_
 have hl:=Cb hr
 have wv:Bi [90,83,67,79,82,69]=(3,3,4):=rfl
 rw[wv] at hl
 dsimp only at hl
 obtain⟨k,x,rfl⟩: ∃k x,r=[k,x]:=by
  match r,hl with
  | [],hl=>exact absurd hl (by simp)
  | [a0],hl=>exact absurd hl (by simp)
  | [k,x],_=>exact⟨k,x,rfl⟩
  |k::x::z::ts,hl=>exact absurd hl (by simp only[List.length_cons];omega)
 have hk:k.length≤40:=ha k (by simp)
 have hx:x.length≤40:=ha x (by simp)
 have p1:=Fj b ([[90,83,67,79,82,69],k,x]) hb.sm (by simp only[List.length_cons,List.length_nil];omega) (by simp)
 rw[hr] at p1
 have p2:=Fe [90,83,67,79,82,69]
 rw[wv] at p2
 have p3:=Bf4 b k x hb hk hx
 have re:Df b [90,83,67,79,82,69] [k,x]=X5 b k x:=rfl
 rw[re]
 generalize X5 b k x=P at*
 simp only[Bf,List.map_cons,List.map_nil] at p1 p3
 simp(maxSteps:=1000000) [Ca,-List.getD_eq_getElem?_getD,-List.map_map,f65,p1,p2,p3,Bo]
theorem Bmg (b:Ba) (r:List Bq) (hb:BaG b) (ha: ∀x∈r,x.length≤40) (hr:Cr b ([90,82,65,78,75]::r)=[]):Bc (ev R) 65 [.d (Db b), .d (Bf ([90,82,65,78,75]::r))]=some (Bo (Df b [90,82,65,78,75] r)):=Bb fun H=>by
 refine Bh (fn:=f65) rfl rfl ?_
 have hl:=Cb hr
 have wv:Bi [90,82,65,78,75]=(3,3,4):=rfl
 rw[wv] at hl
 dsimp only at hl
 obtain⟨k,x,rfl⟩: ∃k x,r=[k,x]:=by
  match r,hl with
  | [],hl=>exact absurd hl (by simp)
  | [a0],hl=>exact absurd hl (by simp)
  | [k,x],_=>exact⟨k,x,rfl⟩
  |k::x::z::ts,hl=>exact absurd hl (by simp only[List.length_cons];omega)
 have hk:k.length≤40:=ha k (by simp)
 have hx:x.length≤40:=ha x (by simp)
 have p1:=Fj b ([[90,82,65,78,75],k,x]) hb.sm (by simp only[List.length_cons,List.length_nil];omega) (by simp)
 rw[hr] at p1
 have p2:=Fe [90,82,65,78,75]
 rw[wv] at p2
 have p3:=Bh7 b k x hb hk hx
 have re:Df b [90,82,65,78,75] [k,x]=Bcq b k x:=rfl
 rw[re]
 generalize Bcq b k x=P at*
 simp only[Bf,List.map_cons,List.map_nil] at p1 p3
 simp(maxSteps:=1000000) [Ca,-List.getD_eq_getElem?_getD,-List.map_map,f65,p1,p2,p3,Bo]
theorem Bmf (b:Ba) (r:List Bq) (hb:BaG b) (ha: ∀x∈r,x.length≤40) (hr:Cr b ([90,67,65,82,68]::r)=[]):Bc (ev R) 65 [.d (Db b), .d (Bf ([90,67,65,82,68]::r))]=some (Bo (Df b [90,67,65,82,68] r)):=Bb fun H=>by
 refine Bh (fn:=f65) rfl rfl ?_
 have hl:=Cb hr
 have wv:Bi [90,67,65,82,68]=(2,2,4):=rfl
 rw[wv] at hl
 dsimp only at hl
 obtain⟨k,rfl⟩: ∃k,r=[k]:=by
  match r,hl with
  | [],hl=>exact absurd hl (by simp)
  | [k],_=>exact⟨k,rfl⟩
  |k::z::ts,hl=>exact absurd hl (by simp only[List.length_cons];omega)
 have hk:k.length≤40:=ha k (by simp)
 have p1:=Fj b ([[90,67,65,82,68],k]) hb.sm (by simp only[List.length_cons,List.length_nil];omega) (by simp)
 rw[hr] at p1
 have p2:=Fe [90,67,65,82,68]
 rw[wv] at p2
 have p3:=Bh6 b k hb hk
 have re:Df b [90,67,65,82,68] [k]=Bcp b k:=rfl
 rw[re]
 generalize Bcp b k=P at*
 simp only[Bf,List.map_cons,List.map_nil] at p1 p3
 simp(maxSteps:=1000000) [Ca,-List.getD_eq_getElem?_getD,-List.map_map,f65,p1,p2,p3,Bo]
theorem Bql (b:Ba) (r:List Bq) (hb:BaG b) (ha: ∀x∈r,x.length≤40) (hr:Cr b ([72,83,69,84]::r)=[]):Bc (ev R) 65 [.d (Db b), .d (Bf ([72,83,69,84]::r))]=some (Bo (Df b [72,83,69,84] r)):=Bb fun H=>by
 refine Bh (fn:=f65) rfl rfl ?_
 have hl:=Cb hr
 have wv:Bi [72,83,69,84]=(4,4,5):=rfl
 rw[wv] at hl
 dsimp only at hl
 obtain⟨k,x,y,rfl⟩: ∃k x y,r=[k,x,y]:=by
  match r,hl with
  | [],hl=>exact absurd hl (by simp)
  | [a0],hl=>exact absurd hl (by simp)
  | [a0,a1],hl=>exact absurd hl (by simp)
  | [k,x,y],_=>exact⟨k,x,y,rfl⟩
  |k::x::y::z::ts,hl=>exact absurd hl (by simp only[List.length_cons];omega)
 have hk:k.length≤40:=ha k (by simp)
 have hx:x.length≤40:=ha x (by simp)
 have hy:y.length≤40:=ha y (by simp)
 have p1:=Fj b ([[72,83,69,84],k,x,y]) hb.sm (by simp only[List.length_cons,List.length_nil];omega) (by simp)
 rw[hr] at p1
 have p2:=Fe [72,83,69,84]
 rw[wv] at p2
 have p3:=Bld b k x y hb hk hx hy
 have re:Df b [72,83,69,84] [k,x,y]=Bem b k x y:=rfl
 rw[re]
 generalize Bem b k x y=P at*
 simp only[Bf,List.map_cons,List.map_nil] at p1 p3
 simp(maxSteps:=1000000) [Ca,-List.getD_eq_getElem?_getD,-List.map_map,f65,p1,p2,p3,Bo]
theorem Bqj (b:Ba) (r:List Bq) (hb:BaG b) (ha: ∀x∈r,x.length≤40) (hr:Cr b ([72,71,69,84]::r)=[]):Bc (ev R) 65 [.d (Db b), .d (Bf ([72,71,69,84]::r))]=some (Bo (Df b [72,71,69,84] r)):=Bb fun H=>by
 refine Bh (fn:=f65) rfl rfl ?_
 have hl:=Cb hr
 have wv:Bi [72,71,69,84]=(3,3,5):=rfl
 rw[wv] at hl
 dsimp only at hl
 obtain⟨k,x,rfl⟩: ∃k x,r=[k,x]:=by
  match r,hl with
  | [],hl=>exact absurd hl (by simp)
  | [a0],hl=>exact absurd hl (by simp)
  | [k,x],_=>exact⟨k,x,rfl⟩
  |k::x::z::ts,hl=>exact absurd hl (by simp only[List.length_cons];omega)
 have hk:k.length≤40:=ha k (by simp)
 have hx:x.length≤40:=ha x (by simp)
 have p1:=Fj b ([[72,71,69,84],k,x]) hb.sm (by simp only[List.length_cons,List.length_nil];omega) (by simp)
 rw[hr] at p1
 have p2:=Fe [72,71,69,84]
 rw[wv] at p2
 have p3:=Blb b k x hb hk hx
 have re:Df b [72,71,69,84] [k,x]=Bie b k x:=rfl
 rw[re]
 generalize Bie b k x=P at*
 simp only[Bf,List.map_cons,List.map_nil] at p1 p3
 simp(maxSteps:=1000000) [Ca,-List.getD_eq_getElem?_getD,-List.map_map,f65,p1,p2,p3,Bo]
theorem Bqi (b:Ba) (r:List Bq) (hb:BaG b) (ha: ∀x∈r,x.length≤40) (hr:Cr b ([72,68,69,76]::r)=[]):Bc (ev R) 65 [.d (Db b), .d (Bf ([72,68,69,76]::r))]=some (Bo (Df b [72,68,69,76] r)):=Bb fun H=>by
 refine Bh (fn:=f65) rfl rfl ?_
 have hl:=Cb hr
 have wv:Bi [72,68,69,76]=(3,3,5):=rfl
 rw[wv] at hl
 dsimp only at hl
 obtain⟨k,x,rfl⟩: ∃k x,r=[k,x]:=by
  match r,hl with
  | [],hl=>exact absurd hl (by simp)
  | [a0],hl=>exact absurd hl (by simp)
  | [k,x],_=>exact⟨k,x,rfl⟩
  |k::x::z::ts,hl=>exact absurd hl (by simp only[List.length_cons];omega)
 have hk:k.length≤40:=ha k (by simp)
 have hx:x.length≤40:=ha x (by simp)
 have p1:=Fj b ([[72,68,69,76],k,x]) hb.sm (by simp only[List.length_cons,List.length_nil];omega) (by simp)
 rw[hr] at p1
 have p2:=Fe [72,68,69,76]
 rw[wv] at p2
 have p3:=Bla b k x hb hk hx
 have re:Df b [72,68,69,76] [k,x]=Bel b k x:=rfl
 rw[re]
 generalize Bel b k x=P at*
 simp only[Bf,List.map_cons,List.map_nil] at p1 p3
 simp(maxSteps:=1000000) [Ca,-List.getD_eq_getElem?_getD,-List.map_map,f65,p1,p2,p3,Bo]
theorem Bgm (b:Ba) (r:List Bq) (hb:BaG b) (ha: ∀x∈r,x.length≤40) (hr:Cr b ([72,71,69,84,65,76,76]::r)=[]):Bc (ev R) 65 [.d (Db b), .d (Bf ([72,71,69,84,65,76,76]::r))]=some (Bo (Df b [72,71,69,84,65,76,76] r)):=Bb fun H=>by
 refine Bh (fn:=f65) rfl rfl ?_
 have hl:=Cb hr
 have wv:Bi [72,71,69,84,65,76,76]=(2,2,5):=rfl
 rw[wv] at hl
 dsimp only at hl
 obtain⟨k,rfl⟩: ∃k,r=[k]:=by
  match r,hl with
  | [],hl=>exact absurd hl (by simp)
  | [k],_=>exact⟨k,rfl⟩
  |k::z::ts,hl=>exact absurd hl (by simp only[List.length_cons];omega)
 have hk:k.length≤40:=ha k (by simp)
 have p1:=Fj b ([[72,71,69,84,65,76,76],k]) hb.sm (by simp only[List.length_cons,List.length_nil];omega) (by simp)
 rw[hr] at p1
 have p2:=Fe [72,71,69,84,65,76,76]
 rw[wv] at p2
 have p3:=Bdc b k hb hk
 have re:Df b [72,71,69,84,65,76,76] [k]=Tk b k:=rfl
 rw[re]
 generalize Tk b k=P at*
 simp only[Bf,List.map_cons,List.map_nil] at p1 p3
 simp(maxSteps:=1000000) [Ca,-List.getD_eq_getElem?_getD,-List.map_map,f65,p1,p2,p3,Bo]
theorem Bqk (b:Ba) (r:List Bq) (hb:BaG b) (ha: ∀x∈r,x.length≤40) (hr:Cr b ([72,76,69,78]::r)=[]):Bc (ev R) 65 [.d (Db b), .d (Bf ([72,76,69,78]::r))]=some (Bo (Df b [72,76,69,78] r)):=Bb fun H=>by
 refine Bh (fn:=f65) rfl rfl ?_
 have hl:=Cb hr
 have wv:Bi [72,76,69,78]=(2,2,5):=rfl
 rw[wv] at hl
 dsimp only at hl
 obtain⟨k,rfl⟩: ∃k,r=[k]:=by
  match r,hl with
  | [],hl=>exact absurd hl (by simp)
  | [k],_=>exact⟨k,rfl⟩
  |k::z::ts,hl=>exact absurd hl (by simp only[List.length_cons];omega)
 have hk:k.length≤40:=ha k (by simp)
 have p1:=Fj b ([[72,76,69,78],k]) hb.sm (by simp only[List.length_cons,List.length_nil];omega) (by simp)
 rw[hr] at p1
 have p2:=Fe [72,76,69,78]
 rw[wv] at p2
 have p3:=Blc b k hb hk
 have re:Df b [72,76,69,78] [k]=Bif b k:=rfl
 rw[re]
 generalize Bif b k=P at*
 simp only[Bf,List.map_cons,List.map_nil] at p1 p3
 simp(maxSteps:=1000000) [Ca,-List.getD_eq_getElem?_getD,-List.map_map,f65,p1,p2,p3,Bo]
theorem Bgn (b:Ba) (r:List Bq) (hb:BaG b) (ha: ∀x∈r,x.length≤40) (hr:Cr b ([72,73,78,67,82,66,89]::r)=[]):Bc (ev R) 65 [.d (Db b), .d (Bf ([72,73,78,67,82,66,89]::r))]=some (Bo (Df b [72,73,78,67,82,66,89] r)):=Bb fun H=>by
 refine Bh (fn:=f65) rfl rfl ?_
 have hl:=Cb hr
 have wv:Bi [72,73,78,67,82,66,89]=(4,4,5):=rfl
 rw[wv] at hl
 dsimp only at hl
 obtain⟨k,x,y,rfl⟩: ∃k x y,r=[k,x,y]:=by
  match r,hl with
  | [],hl=>exact absurd hl (by simp)
  | [a0],hl=>exact absurd hl (by simp)
  | [a0,a1],hl=>exact absurd hl (by simp)
  | [k,x,y],_=>exact⟨k,x,y,rfl⟩
  |k::x::y::z::ts,hl=>exact absurd hl (by simp only[List.length_cons];omega)
 have hk:k.length≤40:=ha k (by simp)
 have hx:x.length≤40:=ha x (by simp)
 have hy:y.length≤40:=ha y (by simp)
 have p1:=Fj b ([[72,73,78,67,82,66,89],k,x,y]) hb.sm (by simp only[List.length_cons,List.length_nil];omega) (by simp)
 rw[hr] at p1
 have p2:=Fe [72,73,78,67,82,66,89]
 rw[wv] at p2
 have p3:=Bdd b k x y hb hk hx hy
 have re:Df b [72,73,78,67,82,66,89] [k,x,y]=Q9 b k x y:=rfl
 rw[re]
 generalize Q9 b k x y=P at*
 simp only[Bf,List.map_cons,List.map_nil] at p1 p3
 simp(maxSteps:=1000000) [Ca,-List.getD_eq_getElem?_getD,-List.map_map,f65,p1,p2,p3,Bo]
theorem Bvg (b:Ba) (r:List Bq) (hb:BaG b) (ha: ∀x∈r,x.length≤40) (hr:Cr b ([68,69,76]::r)=[]):Bc (ev R) 65 [.d (Db b), .d (Bf ([68,69,76]::r))]=some (Bo (Df b [68,69,76] r)):=Bb fun H=>by
 refine Bh (fn:=f65) rfl rfl ?_
 have hl:=Cb hr
 have wv:Bi [68,69,76]=(2,8,0):=rfl
 rw[wv] at hl
 dsimp only at hl
 have p1:=Fj b ([68,69,76]::r) hb.sm (by simp only[List.length_cons,List.length_nil];omega) (by simp)
 rw[hr] at p1
 have p2:=Fe [68,69,76]
 rw[wv] at p2
 have p3:=Bo9 b r hb (by omega)
 have re:Df b [68,69,76] r=Bpm b r:=rfl
 rw[re]
 generalize Bpm b r=P at*
 simp only[Bf,List.map_cons,List.map_nil] at p1 p3
 simp(maxSteps:=1000000) [Ca,-List.getD_eq_getElem?_getD,-List.map_map,f65,p1,p2,p3,Bo]
theorem Bje (b:Ba) (r:List Bq) (hb:BaG b) (ha: ∀x∈r,x.length≤40) (hr:Cr b ([69,88,73,83,84,83]::r)=[]):Bc (ev R) 65 [.d (Db b), .d (Bf ([69,88,73,83,84,83]::r))]=some (Bo (Df b [69,88,73,83,84,83] r)):=Bb fun H=>by
 refine Bh (fn:=f65) rfl rfl ?_
 have hl:=Cb hr
 have wv:Bi [69,88,73,83,84,83]=(2,8,0):=rfl
 rw[wv] at hl
 dsimp only at hl
 have p1:=Fj b ([69,88,73,83,84,83]::r) hb.sm (by simp only[List.length_cons,List.length_nil];omega) (by simp)
 rw[hr] at p1
 have p2:=Fe [69,88,73,83,84,83]
 rw[wv] at p2
 have p3:=Bf6 b r hb (by omega)
 have re:Df b [69,88,73,83,84,83] r=Ul b r:=rfl
 rw[re]
 generalize Ul b r=P at*
 simp only[Bf,List.map_cons,List.map_nil] at p1 p3
 simp(maxSteps:=1000000) [Ca,-List.getD_eq_getElem?_getD,-List.map_map,f65,p1,p2,p3,Bo]
theorem Bqv (b:Ba) (r:List Bq) (hb:BaG b) (ha: ∀x∈r,x.length≤40) (hr:Cr b ([84,89,80,69]::r)=[]):Bc (ev R) 65 [.d (Db b), .d (Bf ([84,89,80,69]::r))]=some (Bo (Df b [84,89,80,69] r)):=Bb fun H=>by
 refine Bh (fn:=f65) rfl rfl ?_
 have hl:=Cb hr
 have wv:Bi [84,89,80,69]=(2,2,0):=rfl
 rw[wv] at hl
 dsimp only at hl
 obtain⟨k,rfl⟩: ∃k,r=[k]:=by
  match r,hl with
  | [],hl=>exact absurd hl (by simp)
  | [k],_=>exact⟨k,rfl⟩
  |k::z::ts,hl=>exact absurd hl (by simp only[List.length_cons];omega)
 have hk:k.length≤40:=ha k (by simp)
 have p1:=Fj b ([[84,89,80,69],k]) hb.sm (by simp only[List.length_cons,List.length_nil];omega) (by simp)
 rw[hr] at p1
 have p2:=Fe [84,89,80,69]
 rw[wv] at p2
 have p3:=Blf b k hb hk
 have re:Df b [84,89,80,69] [k]=Bij b k:=rfl
 rw[re]
 generalize Bij b k=P at*
 simp only[Bf,List.map_cons,List.map_nil] at p1 p3
 simp(maxSteps:=1000000) [Ca,-List.getD_eq_getElem?_getD,-List.map_map,f65,p1,p2,p3,Bo]
theorem Bvj (b:Ba) (r:List Bq) (hb:BaG b) (ha: ∀x∈r,x.length≤40) (hr:Cr b ([84,84,76]::r)=[]):Bc (ev R) 65 [.d (Db b), .d (Bf ([84,84,76]::r))]=some (Bo (Df b [84,84,76] r)):=Bb fun H=>by
 refine Bh (fn:=f65) rfl rfl ?_
 have hl:=Cb hr
 have wv:Bi [84,84,76]=(2,2,0):=rfl
 rw[wv] at hl
 dsimp only at hl
 obtain⟨k,rfl⟩: ∃k,r=[k]:=by
  match r,hl with
  | [],hl=>exact absurd hl (by simp)
  | [k],_=>exact⟨k,rfl⟩
  |k::z::ts,hl=>exact absurd hl (by simp only[List.length_cons];omega)
 have hk:k.length≤40:=ha k (by simp)
 have p1:=Fj b ([[84,84,76],k]) hb.sm (by simp only[List.length_cons,List.length_nil];omega) (by simp)
 rw[hr] at p1
 have p2:=Fe [84,84,76]
 rw[wv] at p2
 have p3:=Bpa b k hb hk
 have re:Df b [84,84,76] [k]=Bs3 b k:=rfl
 rw[re]
 generalize Bs3 b k=P at*
 simp only[Bf,List.map_cons,List.map_nil] at p1 p3
 simp(maxSteps:=1000000) [Ca,-List.getD_eq_getElem?_getD,-List.map_map,f65,p1,p2,p3,Bo]
theorem Bgo (b:Ba) (r:List Bq) (hb:BaG b) (ha: ∀x∈r,x.length≤40) (hr:Cr b ([80,69,82,83,73,83,84]::r)=[]):Bc (ev R) 65 [.d (Db b), .d (Bf ([80,69,82,83,73,83,84]::r))]=some (Bo (Df b [80,69,82,83,73,83,84] r)):=Bb fun H=>by
 refine Bh (fn:=f65) rfl rfl ?_
 have hl:=Cb hr
 have wv:Bi [80,69,82,83,73,83,84]=(2,2,0):=rfl
 rw[wv] at hl
 dsimp only at hl
 obtain⟨k,rfl⟩: ∃k,r=[k]:=by
  match r,hl with
  | [],hl=>exact absurd hl (by simp)
  | [k],_=>exact⟨k,rfl⟩
  |k::z::ts,hl=>exact absurd hl (by simp only[List.length_cons];omega)
 have hk:k.length≤40:=ha k (by simp)
 have p1:=Fj b ([[80,69,82,83,73,83,84],k]) hb.sm (by simp only[List.length_cons,List.length_nil];omega) (by simp)
 rw[hr] at p1
 have p2:=Fe [80,69,82,83,73,83,84]
 rw[wv] at p2
 have p3:=Bde b k hb hk
 have re:Df b [80,69,82,83,73,83,84] [k]=Ra b k:=rfl
 rw[re]
 generalize Ra b k=P at*
 simp only[Bf,List.map_cons,List.map_nil] at p1 p3
 simp(maxSteps:=1000000) [Ca,-List.getD_eq_getElem?_getD,-List.map_map,f65,p1,p2,p3,Bo]
theorem Bjf (b:Ba) (r:List Bq) (hb:BaG b) (ha: ∀x∈r,x.length≤40) (hr:Cr b ([69,88,80,73,82,69]::r)=[]):Bc (ev R) 65 [.d (Db b), .d (Bf ([69,88,80,73,82,69]::r))]=some (Bo (Df b [69,88,80,73,82,69] r)):=Bb fun H=>by
 refine Bh (fn:=f65) rfl rfl ?_
 have hl:=Cb hr
 have wv:Bi [69,88,80,73,82,69]=(3,3,0):=rfl
 rw[wv] at hl
 dsimp only at hl
 obtain⟨k,x,rfl⟩: ∃k x,r=[k,x]:=by
  match r,hl with
  | [],hl=>exact absurd hl (by simp)
  | [a0],hl=>exact absurd hl (by simp)
  | [k,x],_=>exact⟨k,x,rfl⟩
  |k::x::z::ts,hl=>exact absurd hl (by simp only[List.length_cons];omega)
 have hk:k.length≤40:=ha k (by simp)
 have hx:x.length≤40:=ha x (by simp)
 have p1:=Fj b ([[69,88,80,73,82,69],k,x]) hb.sm (by simp only[List.length_cons,List.length_nil];omega) (by simp)
 rw[hr] at p1
 have p2:=Fe [69,88,80,73,82,69]
 rw[wv] at p2
 have p3:=Bf7 b k x hb hk hx
 have re:Df b [69,88,80,73,82,69] [k,x]=Um b k x:=rfl
 rw[re]
 generalize Um b k x=P at*
 simp only[Bf,List.map_cons,List.map_nil] at p1 p3
 simp(maxSteps:=1000000) [Ca,-List.getD_eq_getElem?_getD,-List.map_map,f65,p1,p2,p3,Bo]
theorem Bdj (b:Ba) (r:List Bq) (hb:BaG b) (ha: ∀x∈r,x.length≤40) (hr:Cr b ([69,88,80,73,82,69,65,84]::r)=[]):Bc (ev R) 65 [.d (Db b), .d (Bf ([69,88,80,73,82,69,65,84]::r))]=some (Bo (Df b [69,88,80,73,82,69,65,84] r)):=Bb fun H=>by
 refine Bh (fn:=f65) rfl rfl ?_
 have hl:=Cb hr
 have wv:Bi [69,88,80,73,82,69,65,84]=(3,3,0):=rfl
 rw[wv] at hl
 dsimp only at hl
 obtain⟨k,x,rfl⟩: ∃k x,r=[k,x]:=by
  match r,hl with
  | [],hl=>exact absurd hl (by simp)
  | [a0],hl=>exact absurd hl (by simp)
  | [k,x],_=>exact⟨k,x,rfl⟩
  |k::x::z::ts,hl=>exact absurd hl (by simp only[List.length_cons];omega)
 have hk:k.length≤40:=ha k (by simp)
 have hx:x.length≤40:=ha x (by simp)
 have p1:=Fj b ([[69,88,80,73,82,69,65,84],k,x]) hb.sm (by simp only[List.length_cons,List.length_nil];omega) (by simp)
 rw[hr] at p1
 have p2:=Fe [69,88,80,73,82,69,65,84]
 rw[wv] at p2
 have p3:=Bcd b k x hb hk hx
 have re:Df b [69,88,80,73,82,69,65,84] [k,x]=Pg b k x:=rfl
 rw[re]
 generalize Pg b k x=P at*
 simp only[Bf,List.map_cons,List.map_nil] at p1 p3
 simp(maxSteps:=1000000) [Ca,-List.getD_eq_getElem?_getD,-List.map_map,f65,p1,p2,p3,Bo]
theorem Bji (b:Ba) (r:List Bq) (hb:BaG b) (ha: ∀x∈r,x.length≤40) (hr:Cr b ([82,69,78,65,77,69]::r)=[]):Bc (ev R) 65 [.d (Db b), .d (Bf ([82,69,78,65,77,69]::r))]=some (Bo (Df b [82,69,78,65,77,69] r)):=Bb fun H=>by
 refine Bh (fn:=f65) rfl rfl ?_
 have hl:=Cb hr
 have wv:Bi [82,69,78,65,77,69]=(3,3,0):=rfl
 rw[wv] at hl
 dsimp only at hl
 obtain⟨k,x,rfl⟩: ∃k x,r=[k,x]:=by
  match r,hl with
  | [],hl=>exact absurd hl (by simp)
  | [a0],hl=>exact absurd hl (by simp)
  | [k,x],_=>exact⟨k,x,rfl⟩
  |k::x::z::ts,hl=>exact absurd hl (by simp only[List.length_cons];omega)
 have hk:k.length≤40:=ha k (by simp)
 have hx:x.length≤40:=ha x (by simp)
 have p1:=Fj b ([[82,69,78,65,77,69],k,x]) hb.sm (by simp only[List.length_cons,List.length_nil];omega) (by simp)
 rw[hr] at p1
 have p2:=Fe [82,69,78,65,77,69]
 rw[wv] at p2
 have p3:=Bf8 b k x hb hk hx
 have re:Df b [82,69,78,65,77,69] [k,x]=Uo b k x:=rfl
 rw[re]
 generalize Uo b k x=P at*
 simp only[Bf,List.map_cons,List.map_nil] at p1 p3
 simp(maxSteps:=1000000) [Ca,-List.getD_eq_getElem?_getD,-List.map_map,f65,p1,p2,p3,Bo]
theorem Bqn (b:Ba) (r:List Bq) (hb:BaG b) (ha: ∀x∈r,x.length≤40) (hr:Cr b ([75,69,89,83]::r)=[]):Bc (ev R) 65 [.d (Db b), .d (Bf ([75,69,89,83]::r))]=some (Bo (Df b [75,69,89,83] r)):=Bb fun H=>by
 refine Bh (fn:=f65) rfl rfl ?_
 have hl:=Cb hr
 have wv:Bi [75,69,89,83]=(2,2,0):=rfl
 rw[wv] at hl
 dsimp only at hl
 obtain⟨k,rfl⟩: ∃k,r=[k]:=by
  match r,hl with
  | [],hl=>exact absurd hl (by simp)
  | [k],_=>exact⟨k,rfl⟩
  |k::z::ts,hl=>exact absurd hl (by simp only[List.length_cons];omega)
 have hk:k.length≤40:=ha k (by simp)
 have p1:=Fj b ([[75,69,89,83],k]) hb.sm (by simp only[List.length_cons,List.length_nil];omega) (by simp)
 rw[hr] at p1
 have p2:=Fe [75,69,89,83]
 rw[wv] at p2
 have p3:=Ble b k hb hk
 have re:Df b [75,69,89,83] [k]=Bih b k:=rfl
 rw[re]
 generalize Bih b k=P at*
 simp only[Bf,List.map_cons,List.map_nil] at p1 p3
 simp(maxSteps:=1000000) [Ca,-List.getD_eq_getElem?_getD,-List.map_map,f65,p1,p2,p3,Bo]
theorem Bjd (b:Ba) (r:List Bq) (hb:BaG b) (ha: ∀x∈r,x.length≤40) (hr:Cr b ([68,66,83,73,90,69]::r)=[]):Bc (ev R) 65 [.d (Db b), .d (Bf ([68,66,83,73,90,69]::r))]=some (Bo (Df b [68,66,83,73,90,69] r)):=Bb fun H=>by
 refine Bh (fn:=f65) rfl rfl ?_
 have hl:=Cb hr
 have wv:Bi [68,66,83,73,90,69]=(1,1,0):=rfl
 rw[wv] at hl
 dsimp only at hl
 obtain rfl:r=[]:=by
  match r,hl with
  | [],_=>rfl
  |k::ts,hl=>simp only[List.length_cons] at hl;omega
 have p1:=Fj b ([[68,66,83,73,90,69]]) hb.sm (by simp only[List.length_cons,List.length_nil];omega) (by simp)
 rw[hr] at p1
 have p2:=Fe [68,66,83,73,90,69]
 rw[wv] at p2
 have p3:=Bf5 b hb
 have re:Df b [68,66,83,73,90,69] []=Xy b:=rfl
 rw[re]
 generalize Xy b=P at*
 simp only[Bf,List.map_cons,List.map_nil] at p1 p3
 simp(maxSteps:=1000000) [Ca,-List.getD_eq_getElem?_getD,-List.map_map,f65,p1,p2,p3,Bo]
theorem Bl9 (b:Ba) (r:List Bq) (hb:BaG b) (ha: ∀x∈r,x.length≤40) (hr:Cr b ([70,76,85,83,72]::r)=[]):Bc (ev R) 65 [.d (Db b), .d (Bf ([70,76,85,83,72]::r))]=some (Bo (Df b [70,76,85,83,72] r)):=Bb fun H=>by
 refine Bh (fn:=f65) rfl rfl ?_
 have hl:=Cb hr
 have wv:Bi [70,76,85,83,72]=(1,1,0):=rfl
 rw[wv] at hl
 dsimp only at hl
 obtain rfl:r=[]:=by
  match r,hl with
  | [],_=>rfl
  |k::ts,hl=>simp only[List.length_cons] at hl;omega
 have p1:=Fj b ([[70,76,85,83,72]]) hb.sm (by simp only[List.length_cons,List.length_nil];omega) (by simp)
 rw[hr] at p1
 have p2:=Fe [70,76,85,83,72]
 rw[wv] at p2
 have p3:=Bh8 b hb
 have re:Df b [70,76,85,83,72] []=Y2 b:=rfl
 rw[re]
 generalize Y2 b=P at*
 simp only[Bf,List.map_cons,List.map_nil] at p1 p3
 simp(maxSteps:=1000000) [Ca,-List.getD_eq_getElem?_getD,-List.map_map,f65,p1,p2,p3,Bo]
theorem B98 (b:Ba) (args:List Bq) (hb:BaG b) (ha:Pv args=true):Bc (ev R) 65 [.d (Db b), .d (Bf args)]=some (Bo (rDo b args)):=by
 have hl:=Bb5 ha
 have hx:=Bhu ha
 obtain⟨w,r,rfl⟩: ∃w r,args=w::r:=by
  cases args with
  |nil=>simp at hl
  |cons w r=>exact⟨w,r,rfl⟩
 by_cases hr:Cr b (w::r)=[]
 ·have hd:rDo b (w::r)=Df b w r:=by unfold rDo;rw[if_pos hr];rfl
  rw[hd]
  have hx': ∀x∈r,x.length≤40:=fun x h=>hx x (by simp[h])
  by_cases h0:w=[71,69,84]
  ·subst h0;exact Bvh b r hb hx' hr
  by_cases h1:w=[83,84,82,76,69,78]
  ·subst h1;exact Bjk b r hb hx' hr
  by_cases h2:w=[73,78,67,82]
  ·subst h2;exact Bqm b r hb hx' hr
  by_cases h3:w=[83,69,84]
  ·subst h3;exact Bvi b r hb hx' hr
  by_cases h4:w=[65,80,80,69,78,68]
  ·subst h4;exact Bjc b r hb hx' hr
  by_cases h5:w=[73,78,67,82,66,89]
  ·subst h5;exact Bjg b r hb hx' hr
  by_cases h6:w=[71,69,84,82,65,78,71,69]
  ·subst h6;exact Bdk b r hb hx' hr
  by_cases h7:w=[76,80,85,83,72]
  ·subst h7;exact Bma b r hb hx' hr
  by_cases h8:w=[82,80,85,83,72]
  ·subst h8;exact Bmc b r hb hx' hr
  by_cases h9:w=[76,80,79,80]
  ·subst h9;exact Bqp b r hb hx' hr
  by_cases h10:w=[82,80,79,80]
  ·subst h10;exact Bqs b r hb hx' hr
  by_cases h11:w=[76,76,69,78]
  ·subst h11;exact Bqo b r hb hx' hr
  by_cases h12:w=[76,82,65,78,71,69]
  ·subst h12;exact Bjh b r hb hx' hr
  by_cases h13:w=[76,84,82,73,77]
  ·subst h13;exact Bmb b r hb hx' hr
  by_cases h14:w=[76,83,69,84]
  ·subst h14;exact Bqr b r hb hx' hr
  by_cases h15:w=[76,82,69,77]
  ·subst h15;exact Bqq b r hb hx' hr
  by_cases h16:w=[83,65,68,68]
  ·subst h16;exact Bqt b r hb hx' hr
  by_cases h17:w=[83,82,69,77]
  ·subst h17;exact Bqu b r hb hx' hr
  by_cases h18:w=[83,77,69,77,66,69,82,83]
  ·subst h18;exact Bdl b r hb hx' hr
  by_cases h19:w=[83,67,65,82,68]
  ·subst h19;exact Bmd b r hb hx' hr
  by_cases h20:w=[83,73,83,77,69,77,66,69,82]
  ·subst h20;exact Bc6 b r hb hx' hr
  by_cases h21:w=[83,73,78,84,69,82]
  ·subst h21;exact Bjj b r hb hx' hr
  by_cases h22:w=[83,85,78,73,79,78]
  ·subst h22;exact Bjl b r hb hx' hr
  by_cases h23:w=[83,68,73,70,70]
  ·subst h23;exact Bme b r hb hx' hr
  by_cases h24:w=[90,65,68,68]
  ·subst h24;exact Bqw b r hb hx' hr
  by_cases h25:w=[90,73,78,67,82,66,89]
  ·subst h25;exact Bgp b r hb hx' hr
  by_cases h26:w=[90,82,65,78,71,69]
  ·subst h26;exact Bjm b r hb hx' hr
  by_cases h27:w=[90,82,65,78,71,69,66,89,83,67,79,82,69]
  ·subst h27;exact Wx b r hb hx' hr
  by_cases h28:w=[90,82,69,77]
  ·subst h28;exact Bqx b r hb hx' hr
  by_cases h29:w=[90,83,67,79,82,69]
  ·subst h29;exact Bjn b r hb hx' hr
  by_cases h30:w=[90,82,65,78,75]
  ·subst h30;exact Bmg b r hb hx' hr
  by_cases h31:w=[90,67,65,82,68]
  ·subst h31;exact Bmf b r hb hx' hr
  by_cases h32:w=[72,83,69,84]
  ·subst h32;exact Bql b r hb hx' hr
  by_cases h33:w=[72,71,69,84]
  ·subst h33;exact Bqj b r hb hx' hr
  by_cases h34:w=[72,68,69,76]
  ·subst h34;exact Bqi b r hb hx' hr
  by_cases h35:w=[72,71,69,84,65,76,76]
  ·subst h35;exact Bgm b r hb hx' hr
  by_cases h36:w=[72,76,69,78]
  ·subst h36;exact Bqk b r hb hx' hr
  by_cases h37:w=[72,73,78,67,82,66,89]
  ·subst h37;exact Bgn b r hb hx' hr
  by_cases h38:w=[68,69,76]
  ·subst h38;exact Bvg b r hb hx' hr
  by_cases h39:w=[69,88,73,83,84,83]
  ·subst h39;exact Bje b r hb hx' hr
  by_cases h40:w=[84,89,80,69]
  ·subst h40;exact Bqv b r hb hx' hr
  by_cases h41:w=[84,84,76]
  ·subst h41;exact Bvj b r hb hx' hr
  by_cases h42:w=[80,69,82,83,73,83,84]
  ·subst h42;exact Bgo b r hb hx' hr
  by_cases h43:w=[69,88,80,73,82,69]
  ·subst h43;exact Bjf b r hb hx' hr
  by_cases h44:w=[69,88,80,73,82,69,65,84]
  ·subst h44;exact Bdj b r hb hx' hr
  by_cases h45:w=[82,69,78,65,77,69]
  ·subst h45;exact Bji b r hb hx' hr
  by_cases h46:w=[75,69,89,83]
  ·subst h46;exact Bqn b r hb hx' hr
  by_cases h47:w=[68,66,83,73,90,69]
  ·subst h47;exact Bjd b r hb hx' hr
  by_cases h48:w=[70,76,85,83,72]
  ·subst h48;exact Bl9 b r hb hx' hr
  exfalso
  have hw:=Bjo w (eq_false h0) (eq_false h1) (eq_false h2) (eq_false h3) (eq_false h4) (eq_false h5) (eq_false h6) (eq_false h7) (eq_false h8) (eq_false h9) (eq_false h10) (eq_false h11) (eq_false h12) (eq_false h13) (eq_false h14) (eq_false h15) (eq_false h16) (eq_false h17) (eq_false h18) (eq_false h19) (eq_false h20) (eq_false h21) (eq_false h22) (eq_false h23) (eq_false h24) (eq_false h25) (eq_false h26) (eq_false h27) (eq_false h28) (eq_false h29) (eq_false h30) (eq_false h31) (eq_false h32) (eq_false h33) (eq_false h34) (eq_false h35) (eq_false h36) (eq_false h37) (eq_false h38) (eq_false h39) (eq_false h40) (eq_false h41) (eq_false h42) (eq_false h43) (eq_false h44) (eq_false h45) (eq_false h46) (eq_false h47) (eq_false h48)
  unfold Cr at hr
  rw[show(w::r).getD 0 []=w from rfl,hw] at hr
  simp at hr
 ·have hd:rDo b (w::r)=(b,Dp (Cr b (w::r))):=by unfold rDo;rw[if_neg hr]
  rw[hd]
  refine Bb fun H=> ?_
  refine Bh (fn:=f65) rfl rfl ?_
  have p1:=Fj b (w::r) hb.sm (by omega) (by simp)
  have p2:=Bv (Cr b (w::r))
  generalize Cr b (w::r)=t at*
  simp only[Bf,List.map_cons,List.map_nil] at p1
  simp(maxSteps:=1000000) [Ca,-List.getD_eq_getElem?_getD,-List.map_map,f65,p1,p2,eq_false hr,Bo,Dp]
end Go.Proofs.YtpajcoanfkeibaaGreatDoor.Code

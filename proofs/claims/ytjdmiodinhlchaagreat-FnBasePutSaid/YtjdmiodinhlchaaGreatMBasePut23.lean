/- Lemmas (several texts in one). -/
import Derived.Test.YtjdmiodinhlchaaGreatMBasePut7
import Derived.Test.YtjdmiodinhlchaaGreatMBasePut19
set_option maxRecDepth 100000
set_option maxHeartbeats 2000000
set_option linter.unusedSimpArgs false
set_option linter.unusedVariables false
namespace Go.Proofs.YtjdmiodinhlchaaGreat.Code
open Go Go.Ev Go.Proofs
def Dc (n:Int):Re:= .mk 2 n [] [] []
def K8 (s:Bp):Re:= .mk 3 0 s [] []
def M5:Re:= .mk 4 0 [] [] []
def Jj (xs:List Bp):Re:= .mk 5 0 [] xs []
def Rw:Re:= .mk 0 0 [] [] []
def Bl (p:Ba×Re):V:= .tup [.d (Dx p.1), .d (Z4 p.2)]
def Dk (e:En) (s:Bp):En:=⟨e.key,e.till,1,s,e.list,e.scores,e.fields⟩
def Br2 (b:Ba) (k:Bp):Ba×Re:=(b,if(Ca b k).kind=1 then K8 (Ca b k).text else M5)
def Xj (b:Ba) (k:Bp):Ba×Re:=(b,Dc (Ca b k).text.length)
def Bou (b:Ba) (k t:Bp):Ba×Re:=Fq b ⟨k,0,1,t,[],[],[]⟩ Rw
def Tp (b:Ba) (k t:Bp):Ba×Re:=if 40< ((Ca b k).text++t).length then(b,Du [108,111,110,103]) else Fq b (Dk (Ca b k) ((Ca b k).text++t)) (Dc ((Ca b k).text++t).length)
def Bwv (s:Bp) (f t:Int):Bp:=(s.take (Kb s.length f t).2.toNat).drop (Kb s.length f t).1.toNat
def Nk (b:Ba) (k f t:Bp):Ba×Re:=if(Fe f).2=true∧(Fe t).2=true then(b,K8 (Bwv (Ca b k).text (Fe f).1 (Fe t).1)) else(b,Du [110,117,109,98,101,114])
def Bbx (b:Ba) (k y:Bp):Ba×Re:=if(Xw (Ca b k).text (decide ((Ca b k).kind=1)) y).2=true then Fq b (Dk (Ca b k) (K5 (Xw (Ca b k).text (decide ((Ca b k).kind=1)) y).1)) (Dc (Xw (Ca b k).text (decide ((Ca b k).kind=1)) y).1) else(b,Du [110,117,109,98,101,114])
theorem Boe (b:Ba) (k:Bp) (hb:BaG b) (hk:k.length≤40):Be (ev R) 110 [.d (Dx b), .d (Bf [[71,69,84],k])]=some (Bl (Br2 b k)):=Bb fun H=>by
 refine Bh (fn:=f110) rfl rfl ?_
 have p1:=G9 b k hb.sm
 unfold Br2
 generalize Ca b k=e at*
 have p2:=Gj
 have p3:=Bdn e.text
 by_cases a:e.kind=1
 ·simp(maxSteps:=1000000) [Cm,-List.getD_eq_getElem?_getD,-List.map_map,f110,p1,p2,p3,eq_true a,Bl,K8,M5]
 ·simp(maxSteps:=1000000) [Cm,-List.getD_eq_getElem?_getD,-List.map_map,f110,p1,p2,p3,eq_false a,Bl,K8,M5]
theorem Be3 (b:Ba) (k:Bp) (hb:BaG b) (hk:k.length≤40):Be (ev R) 110 [.d (Dx b), .d (Bf [[83,84,82,76,69,78],k])]=some (Bl (Xj b k)):=Bb fun H=>by
 refine Bh (fn:=f110) rfl rfl ?_
 have p1:=G9 b k hb.sm
 unfold Xj
 generalize Ca b k=e at*
 have p2:=Jl e.text.length
 simp(maxSteps:=1000000) [Cm,-List.getD_eq_getElem?_getD,-List.map_map,f110,p1,p2,Bl,Dc]
theorem Bof (b:Ba) (k t:Bp) (hb:BaG b) (hk:k.length≤40) (ht:t.length≤40):Be (ev R) 110 [.d (Dx b), .d (Bf [[83,69,84],k,t])]=some (Bl (Bou b k t)):=Bb fun H=>by
 refine Bh (fn:=f110) rfl rfl ?_
 have p1:=G9 b k hb.sm
 unfold Bou
 have q:EnQ ⟨k,0,1,t,[],[],[]⟩:=⟨by simp;omega,by simp;omega,by simp,by simp,by simp,by simp,by simp,by simp,by simp,by simp⟩
 have p2:=Ku b ⟨k,0,1,t,[],[],[]⟩ Rw hb.sm q.sm q.fit
 generalize Fq b ⟨k,0,1,t,[],[],[]⟩ Rw=P at*
 unfold Rw at p2
 simp(maxSteps:=1000000) [Cm,-List.getD_eq_getElem?_getD,-List.map_map,f110,p1,p2,Bl]
theorem Be1 (b:Ba) (k t:Bp) (hb:BaG b) (hk:k.length≤40) (ht:t.length≤40):Be (ev R) 110 [.d (Dx b), .d (Bf [[65,80,80,69,78,68],k,t])]=some (Bl (Tp b k t)):=Bb fun H=>by
 refine Bh (fn:=f110) rfl rfl ?_
 have p1:=G9 b k hb.sm
 have q:=Dz hb (t:=k) (by omega)
 unfold Tp
 have p4:=Bu [108,111,110,103]
 generalize Ca b k=e at*
 obtain⟨key,till,kind,text,list,scores,fields⟩:=e
 obtain⟨q1,q2,q3,q4,q5,q6,q7,q8,q9,q10⟩:=q
 dsimp only[Dk] at*
 have r:text.length+t.length≤Gr:=by unfold Gr;omega
 by_cases a:40< (text++t).length
 ·have a': (40:Int)< (text.length:Int)+(t.length:Int):=by rw[List.length_append] at a;omega
  rw[if_pos a]
  simp(maxSteps:=1000000) [Cm,-List.getD_eq_getElem?_getD,-List.map_map,f110,p1,p4,a',r,Bl,Du]
 ·have a': ¬ (40:Int)< (text.length:Int)+(t.length:Int):=by rw[List.length_append] at a;omega
  rw[if_neg a]
  have q:EnQ ⟨key,till,1,text++t,list,scores,fields⟩:=⟨q1,by dsimp only;omega,q3,q4,q5,q6,q7,q8,q9,by dsimp only;omega⟩
  have p2:=Jl ((text.length:Int)+(t.length:Int))
  have p3:=Ku b _ (Dc (text++t).length) hb.sm q.sm q.fit
  generalize Fq b ⟨key,till,1,text++t,list,scores,fields⟩ (Dc (text++t).length)=P at*
  have hc: (((text++t).length:Nat):Int)=(text.length:Int)+(t.length:Int):=by rw[List.length_append];omega
  rw[hc] at p3
  unfold Dc at p3
  simp(maxSteps:=1000000) [Cm,-List.getD_eq_getElem?_getD,-List.map_map,f110,p1,p2,p3,a',r,Bl]
theorem Bbt (b:Ba) (k f t:Bp) (hb:BaG b) (hk:k.length≤40) (hf:f.length≤40) (ht:t.length≤40):Be (ev R) 110 [.d (Dx b), .d (Bf [[71,69,84,82,65,78,71,69],k,f,t])]=some (Bl (Nk b k f t)):=Bb fun H=>by
 refine Bh (fn:=f110) rfl rfl ?_
 have p1:=G9 b k hb.sm
 have q:=Dz hb (t:=k) (by omega)
 unfold Nk
 have p2:=Lx f (by omega)
 have p3:=Lx t (by omega)
 have i2:=Ji f
 have i3:=Ji t
 have p4:=Bu [110,117,109,98,101,114]
 generalize Ca b k=e at*
 generalize Fe f=F at*
 generalize Fe t=T at*
 obtain⟨m,mo⟩:=F
 obtain⟨n,no⟩:=T
 dsimp only at*
 have p5:=Brs e.text.length m n (by have:=q.text;omega) i2 i3
 obtain⟨b1,b2,b3⟩:=Ban e.text.length m n
 have hr:Bwv e.text m n=((e.text.take (Kb e.text.length m n).2.toNat).drop (Kb e.text.length m n).1.toNat):=rfl
 have p6:=Bdn (Bwv e.text m n)
 generalize(Kb e.text.length m n).1=x at*
 generalize(Kb e.text.length m n).2=y at*
 obtain⟨A,rfl⟩: ∃A:Nat,x=(A:Int):=⟨x.toNat,by omega⟩
 obtain⟨B,rfl⟩: ∃B:Nat,y=(B:Int):=⟨y.toNat,by omega⟩
 simp only[Int.toNat_natCast] at hr
 have hr:=hr.symm
 generalize Bwv e.text m n=S at*
 have b4: (0:Int)≤(B:Int):=by omega
 have b5:A≤B:=by omega
 have b6:B≤e.text.length:=by omega
 cases mo<;>cases no
 ·simp(maxSteps:=1000000) [Cm,-List.getD_eq_getElem?_getD,-List.map_map,f110,p1,p2,p3,p4,Bl,Du]
 ·simp(maxSteps:=1000000) [Cm,-List.getD_eq_getElem?_getD,-List.map_map,f110,p1,p2,p3,p4,Bl,Du]
 ·simp(maxSteps:=1000000) [Cm,-List.getD_eq_getElem?_getD,-List.map_map,f110,p1,p2,p3,p4,Bl,Du]
 ·simp(maxSteps:=1000000) [Cm,-List.getD_eq_getElem?_getD,-List.map_map,f110,p1,p2,p3,p5,p6,b1,b2,b3,b4,b5,b6,hr,Bl,K8]
theorem R3: ∀ (k n:Nat),n<10 ^ (k+1)→(Qf n).length≤k+1
 |0,n,h=>by
  rw[Qf];split
  ·simp
  ·omega
 |k+1,n,h=>by
  rw[Qf];split
  ·simp
  ·have:=R3 k (n / 10) (by rw[Nat.pow_succ] at h;omega)
   rw[List.length_append];simp;omega
theorem Bal (z:Int) (h: -1000000000≤z∧z≤1000000000): (K5 z).length≤1000000:=by
 unfold K5
 split
 ·have:=R3 9 z.natAbs (by omega)
  rw[List.length_cons];omega
 ·have:=R3 9 z.toNat (by omega)
  omega
theorem Bkm (z:Int) (h: -1000000000≤z∧z≤1000000000):Be (ev R) 83 [.d (.int .i64 z)]=some (.d (.str (K5 z))):=Bb fun H=>B09 H z h
theorem Bec (t:Bp) (th:Bool) (y:Bp): -1000000000≤(Xw t th y).1∧(Xw t th y).1≤1000000000:=by
 unfold Xw
 split
 ·dsimp only;omega
 ·by_cases h: (Fe y).2=true∧ -1000000000≤(if th=true then(Fe t).1 else 0)+(Fe y).1∧(if th=true then(Fe t).1 else 0)+(Fe y).1≤1000000000
  ·rw[if_pos h];exact⟨h.2.1,h.2.2⟩
  ·rw[if_neg h];dsimp only;omega
theorem Bj5 (b:Ba) (k:Bp) (hb:BaG b) (hk:k.length≤40):Be (ev R) 110 [.d (Dx b), .d (Bf [[73,78,67,82],k])]=some (Bl (Bbx b k [49])):=Bb fun H=>by
 refine Bh (fn:=f110) rfl rfl ?_
 have p1:=G9 b k hb.sm
 have q:=Dz hb (t:=k) (by omega)
 unfold Bbx
 have p4:=Bu [110,117,109,98,101,114]
 generalize Ca b k=e at*
 obtain⟨key,till,kind,text,list,scores,fields⟩:=e
 obtain⟨q1,q2,q3,q4,q5,q6,q7,q8,q9,q10⟩:=q
 dsimp only[Dk] at*
 have p5:=Brt text (decide (kind=1)) [49] q2 (by decide)
 have ai:=Bec text (decide (kind=1)) [49]
 generalize Xw text (decide (kind=1)) [49]=A at*
 obtain⟨a,ao⟩:=A
 dsimp only at*
 have p6:=Bkm a ai
 have dl:=Bal a ai
 have q:EnQ ⟨key,till,1,K5 a,list,scores,fields⟩:=⟨q1,dl,q3,q4,q5,q6,q7,q8,q9,by dsimp only;omega⟩
 have p2:=Jl a
 have p3:=Ku b _ (Dc a) hb.sm q.sm q.fit
 generalize Fq b ⟨key,till,1,K5 a,list,scores,fields⟩ (Dc a)=P at*
 unfold Dc at p3
 cases ao
 ·simp(maxSteps:=1000000) [Cm,-List.getD_eq_getElem?_getD,-List.map_map,f110,p1,p5,p4,Bl,Du]
 ·simp(maxSteps:=1000000) [Cm,-List.getD_eq_getElem?_getD,-List.map_map,f110,p1,p5,p6,p2,p3,Bl]
theorem Be2 (b:Ba) (k y:Bp) (hb:BaG b) (hk:k.length≤40) (hy:y.length≤40):Be (ev R) 110 [.d (Dx b), .d (Bf [[73,78,67,82,66,89],k,y])]=some (Bl (Bbx b k y)):=Bb fun H=>by
 refine Bh (fn:=f110) rfl rfl ?_
 have p1:=G9 b k hb.sm
 have q:=Dz hb (t:=k) (by omega)
 unfold Bbx
 have p4:=Bu [110,117,109,98,101,114]
 generalize Ca b k=e at*
 obtain⟨key,till,kind,text,list,scores,fields⟩:=e
 obtain⟨q1,q2,q3,q4,q5,q6,q7,q8,q9,q10⟩:=q
 dsimp only[Dk] at*
 have p5:=Brt text (decide (kind=1)) y q2 (by omega)
 have ai:=Bec text (decide (kind=1)) y
 generalize Xw text (decide (kind=1)) y=A at*
 obtain⟨a,ao⟩:=A
 dsimp only at*
 have p6:=Bkm a ai
 have dl:=Bal a ai
 have q:EnQ ⟨key,till,1,K5 a,list,scores,fields⟩:=⟨q1,dl,q3,q4,q5,q6,q7,q8,q9,by dsimp only;omega⟩
 have p2:=Jl a
 have p3:=Ku b _ (Dc a) hb.sm q.sm q.fit
 generalize Fq b ⟨key,till,1,K5 a,list,scores,fields⟩ (Dc a)=P at*
 unfold Dc at p3
 cases ao
 ·simp(maxSteps:=1000000) [Cm,-List.getD_eq_getElem?_getD,-List.map_map,f110,p1,p5,p4,Bl,Du]
 ·simp(maxSteps:=1000000) [Cm,-List.getD_eq_getElem?_getD,-List.map_map,f110,p1,p5,p6,p2,p3,Bl]
def Un (xs:List Bp) (f:Bool) (ts:List Bp):List Bp×Bool:=if Cq xs=true then(if Cq ts=true∧xs.length+ts.length≤16 then(Bhl xs f ts,true) else(xs,false)) else([],false)
def Bcj (xs:List Bp) (f:Bool):List Bp×Bp×Bool:=if Cq xs=true∧0<xs.length then(if f=true then(xs.tail,xs.getD 0 [],true) else(xs.take (xs.length - 1),xs.getD (xs.length - 1) [],true)) else([],[],false)
def Bic (xs:List Bp) (k:Int) (t:Bp):List Bp×Bool:=if Cq xs=true then(match Zr xs k t with|some ys=> (ys,true) |none=> (xs,false)) else([],false)
def Zi (xs:List Bp) (c:Int) (t:Bp):List Bp×Int:=if Cq xs=true∧J6 c=true then((Yg xs c t).1,(Yg xs c t).2) else([],0)
def U4 (xs:List Bp) (f t:Int):List Bp:=if Cq xs=true∧J6 f=true∧J6 t=true then Sq xs f t else[]
def Uo (xs ts:List Bp):List Bp×Int×Bool:=if Gi xs=true then(if Cq ts=true∧(Ms xs ts).length≤16 then(Ms xs ts,(Ms xs ts).length - xs.length,true) else(xs,0,false)) else([],0,false)
def Td (xs ys:List Bp):List Bp×Int:=if Gi xs=true then(Mt xs ys,xs.length - (Mt xs ys).length) else([],0)
def Bs3 (xs ys:List Bp):List Bp:=if Gi xs=true∧Gi ys=true then Br1 xs ys else[]
def Bzy (xs ys:List Bp):List Bp:=if Gi xs=true∧Gi ys=true then Ms xs ys else[]
def Bs5 (xs ys:List Bp):List Bp:=if Gi xs=true∧Gi ys=true then Mt xs ys else[]
def Te (xs:List Sc) (t:Bp):List Sc×Bool:=if Dg xs=true then(F7 xs t,decide ((F7 xs t).length<xs.length)) else([],false)
def Bs9 (xs:List Sc) (f t:Int):List Sc:=if Dg xs=true∧J6 f=true∧J6 t=true then Bb3 xs f t else[]
def Ta (xs:List Pr) (t:Bp):List Pr×Bool:=if Dw xs=true then(if Ma xs t=true then G6 xs (Rv xs t) else xs,Ma xs t) else([],false)
def Tc (xs:List Pr) (t:Bp):Bp×Bool:=if Dw xs=true∧Ma xs t=true then((xs.getD (Rv xs t) ([],[])).2,true) else([],false)
theorem Byh (xs:List Bp) (f:Bool) (ts:List Bp) (hx:xs.length≤1000000) (ht:ts.length≤1000000):Be (ev R) 136 [.d (Bf xs), .d (.bool f), .d (Bf ts)]=some (.tup [.d (Bf (Un xs f ts).1), .d (.bool (Un xs f ts).2)]):=by
 rw[B3l xs f ts hx ht];unfold Un;split<;> (try split)<;>rfl
theorem Byi (xs:List Bp) (f:Bool) (hx:xs.length≤1000000):Be (ev R) 137 [.d (Bf xs), .d (.bool f)]=some (.tup [.d (Bf (Bcj xs f).1), .d (.str (Bcj xs f).2.1), .d (.bool (Bcj xs f).2.2)]):=by
 rw[B3m xs f hx];unfold Bcj;split<;> (try split)<;>rfl
theorem B4g (xs:List Bp) (k:Int) (t:Bp) (hx:xs.length≤1000000) (hk:Bp4 k):Be (ev R) 138 [.d (Bf xs), .d (.int .i64 k), .d (.str t)]=some (.tup [.d (Bf (Bic xs k t).1), .d (.bool (Bic xs k t).2)]):=by
 rw[B3n xs k t hx hk];unfold Bic;cases Cq xs<;>cases Zr xs k t<;>rfl
theorem B4h (xs:List Bp) (c:Int) (t:Bp) (hx:xs.length≤1000000):Be (ev R) 139 [.d (Bf xs), .d (.int .i64 c), .d (.str t)]=some (.tup [.d (Bf (Zi xs c t).1), .d (.int .i64 (Zi xs c t).2)]):=by
 rw[B3o xs c t hx];unfold Zi;split<;> (try split)<;>rfl
theorem Byj (xs:List Bp) (f t:Int) (hx:xs.length≤1000000):Be (ev R) 140 [.d (Bf xs), .d (.int .i64 f), .d (.int .i64 t)]=some (.d (Bf (U4 xs f t))):=B3p xs f t hx
theorem B4i (xs ts:List Bp) (hx:xs.length≤500000) (ht:ts.length≤500000):Be (ev R) 142 [.d (Bf xs), .d (Bf ts)]=some (.tup [.d (Bf (Uo xs ts).1), .d (.int .i64 (Uo xs ts).2.1), .d (.bool (Uo xs ts).2.2)]):=by
 rw[B3q xs ts hx ht];unfold Uo;split<;> (try split)<;>rfl
theorem B4j (xs ys:List Bp) (hx:xs.length≤1000000) (hy:ys.length≤1000000):Be (ev R) 143 [.d (Bf xs), .d (Bf ys)]=some (.tup [.d (Bf (Td xs ys).1), .d (.int .i64 (Td xs ys).2)]):=by
 rw[B3r xs ys hx hy];unfold Td;split<;> (try split)<;>rfl
theorem B4k (xs ys:List Bp) (hx:xs.length≤1000000) (hy:ys.length≤1000000):Be (ev R) 146 [.d (Bf xs), .d (Bf ys)]=some (.d (Bf (Bs3 xs ys))):=B3s xs ys hx hy
theorem B4l (xs ys:List Bp) (hx:xs.length≤500000) (hy:ys.length≤500000):Be (ev R) 147 [.d (Bf xs), .d (Bf ys)]=some (.d (Bf (Bzy xs ys))):=B3t xs ys hx hy
theorem B4m (xs ys:List Bp) (hx:xs.length≤1000000) (hy:ys.length≤1000000):Be (ev R) 148 [.d (Bf xs), .d (Bf ys)]=some (.d (Bf (Bs5 xs ys))):=B3u xs ys hx hy
theorem B4n (xs:List Sc) (t:Bp) (hx:xs.length≤1000000):Be (ev R) 149 [.d (Dr xs), .d (.str t)]=some (.tup [.d (Dr (Te xs t).1), .d (.bool (Te xs t).2)]):=by
 rw[B3v xs t hx];unfold Te;split<;> (try split)<;>rfl
theorem B4o (xs:List Sc) (f t:Int) (hx:xs.length≤1000000):Be (ev R) 152 [.d (Dr xs), .d (.int .i64 f), .d (.int .i64 t)]=some (.d (Dr (Bs9 xs f t))):=B3w xs f t hx
theorem B4p (xs:List Pr) (t:Bp) (hx:xs.length≤1000000):Be (ev R) 155 [.d (Fs xs), .d (.str t)]=some (.tup [.d (Fs (Ta xs t).1), .d (.bool (Ta xs t).2)]):=by
 rw[B3z xs t hx];unfold Ta;split<;> (try split)<;>rfl
theorem Byk (xs:List Pr) (t:Bp) (hx:xs.length≤1000000):Be (ev R) 154 [.d (Fs xs), .d (.str t)]=some (.tup [.d (.str (Tc xs t).1), .d (.bool (Tc xs t).2)]):=by
 rw[B3y xs t hx];unfold Tc;split<;> (try split)<;>rfl
def TxQ (xs:List Bp):Prop:=xs.length≤1000∧∀x∈xs,x.length≤1000000
theorem TxQ.nil:TxQ []:=⟨by simp,by simp⟩
theorem TxQ.of {xs ys:List Bp} (h:TxQ xs) (hl:ys.length≤xs.length) (hm: ∀y∈ys,y∈xs):TxQ ys:=⟨Nat.le_trans hl h.1,fun y hy=>h.2 y (hm y hy)⟩
theorem Bna (xs:List Bp) (f:Bool) (ts:List Bp) (hx:TxQ xs):TxQ (Un xs f ts).1:=by
 unfold Un
 split
 ·split
  ·rename_i h1 h2
   refine⟨?_,fun x hm=> ?_⟩
   ·cases f<;>simp[Bhl]<;>omega
   ·have:x∈xs∨x∈ts:=by
     cases f<;>simp[Bhl] at hm
     ·exact hm
     ·exact hm.symm
    rcases this with h|h
    ·have:=Ng h1 x h;omega
    ·have:=Ng h2.1 x h;omega
  ·exact hx
 ·exact TxQ.nil
theorem Bs6 (xs:List Bp) (f:Bool) (hx:TxQ xs):TxQ (Bcj xs f).1:=by
 unfold Bcj
 split
 ·split
  ·exact hx.of (by simp) fun y hy=>List.mem_of_mem_tail hy
  ·exact hx.of (by simp) fun y hy=>List.mem_of_mem_take hy
 ·exact TxQ.nil
theorem Bzz (xs:List Bp) (k:Int) (t:Bp) (hx:TxQ xs):TxQ (Bic xs k t).1:=by
 unfold Bic
 split
 ·split
  ·rename_i ys hy
   unfold Zr at hy
   split at hy
   ·rename_i h
    simp only[Option.some.injEq] at hy
    subst hy
    refine⟨by rw[List.length_set];exact hx.1,fun y hy=> ?_⟩
    rcases List.mem_or_eq_of_mem_set hy with h1|h1
    ·exact hx.2 y h1
    ·subst h1;have:=h.2.1;omega
   ·simp at hy
  ·exact hx
 ·exact TxQ.nil
theorem Yx (xs:List Bp) (t:Bp) (c m:Int): (Kc xs t c m).1.length≤xs.length∧∀y∈(Kc xs t c m).1,y∈xs:=by
 unfold Kc
 have key: ∀ (n i:Nat) (s:List Bp×Nat),i+n=xs.length→s.1.length≤i→(∀y∈s.1,y∈xs)→((List.range' i n).foldl (fun s i=>K9 xs t c m i s) s).1.length≤xs.length∧∀y∈((List.range' i n).foldl (fun s i=>K9 xs t c m i s) s).1,y∈xs:=by
  intro n
  induction n with
  |zero=>intro i s h1 h2 h3;exact⟨by simp only[List.range'_zero,List.foldl_nil];omega,h3⟩
  |succ n ih=>
   intro i s h1 h2 h3
   rw[List.range'_succ,List.foldl_cons]
   refine ih (i+1) _ (by omega) ?_ ?_
   ·unfold K9
    split
    ·dsimp only;omega
    ·dsimp only;rw[List.length_append];simp;omega
   ·unfold K9
    split
    ·exact h3
    ·intro y hy
     simp only[List.mem_append,List.mem_singleton] at hy
     rcases hy with hy|rfl
     ·exact h3 y hy
     ·exact Gp (by omega)
 exact key xs.length 0 ([],0) (by omega) (by simp) (by simp)
theorem Bw0 (xs:List Bp) (c:Int) (t:Bp) (hx:TxQ xs):TxQ (Zi xs c t).1:=by
 unfold Zi
 split
 ·unfold Yg
  split
  ·have:=Yx xs.reverse t c (-c)
   refine hx.of ?_ fun y hy=> ?_
   ·simpa using this.1
   ·have:=this.2 y (by simpa using hy)
    simpa using this
  ·have:=Yx xs t c c
   exact hx.of this.1 this.2
 ·exact TxQ.nil
theorem Bs7 (xs:List Bp) (f t:Int) (hx:TxQ xs):TxQ (U4 xs f t):=by
 unfold U4
 split
 ·unfold Sq
  refine hx.of ?_ fun y hy=> ?_
  ·rw[List.length_drop,List.length_take];omega
  ·exact List.mem_of_mem_take (List.mem_of_mem_drop hy)
 ·exact TxQ.nil
theorem Br3 {xs:List Bp} {t y:Bp} (h:y∈Yi xs t):y=t∨y∈xs:=by
 unfold Yi at h
 split at h
 ·exact .inr h
 ·exact Bdi h
theorem Bhh: ∀ {ts xs:List Bp} {y:Bp},y∈Ms xs ts→y∈xs∨y∈ts
 | [],xs,y,h=> .inl h
 |t::ts,xs,y,h=>by
  have h:y∈Ms (Yi xs t) ts:=h
  rcases Bhh h with h1|h1
  ·rcases Br3 h1 with rfl|h2
   ·exact .inr (by simp)
   ·exact .inl h2
  ·exact .inr (by simp[h1])
theorem Bw1 (xs ts:List Bp) (hx:TxQ xs):TxQ (Uo xs ts).1:=by
 unfold Uo
 split
 ·split
  ·rename_i h1 h2
   refine⟨by dsimp only;omega,fun y hy=> ?_⟩
   rcases Bhh hy with h|h
   ·exact hx.2 y h
   ·have:=Ng h2.1 y h;omega
  ·exact hx
 ·exact TxQ.nil
theorem Bs8 (xs ys:List Bp) (hx:TxQ xs):TxQ (Td xs ys).1:=by
 unfold Td
 split
 ·exact hx.of (List.length_filter_le _ _) fun y hy=> (List.mem_filter.1 hy).1
 ·exact TxQ.nil
def ScQ (xs:List Sc):Prop:=xs.length≤1000∧∀x∈xs,x.1.length≤1000000∧ -2000000000≤x.2∧x.2≤2000000000
theorem ScQ.nil:ScQ []:=⟨by simp,by simp⟩
theorem ScQ.of {xs ys:List Sc} (h:ScQ xs) (hl:ys.length≤xs.length) (hm: ∀y∈ys,y∈xs):ScQ ys:=⟨Nat.le_trans hl h.1,fun y hy=>h.2 y (hm y hy)⟩
theorem Bnb (xs:List Sc) (x:Sc) (hx:ScQ xs):ScQ (Jy xs x).1:=by
 unfold Jy
 split
 ·split
  ·rename_i h1 h2
   have:=Rl h2
   exact⟨by dsimp only;omega,fun y hy=>by have:=this.2 y hy;omega⟩
  ·exact hx
 ·exact ScQ.nil
theorem Bta (xs:List Sc) (t:Bp) (hx:ScQ xs):ScQ (Te xs t).1:=by
 unfold Te
 split
 ·exact hx.of (List.length_filter_le _ _) fun y hy=> (List.mem_filter.1 hy).1
 ·exact ScQ.nil
theorem Bz0 (xs:List Sc) (f t:Int) (hx:ScQ xs):ScQ (Bs9 xs f t):=by
 unfold Bs9
 split
 ·unfold Bb3
  refine hx.of ?_ fun y hy=> ?_
  ·rw[List.length_drop,List.length_take];omega
  ·exact List.mem_of_mem_take (List.mem_of_mem_drop hy)
 ·exact ScQ.nil
theorem B38 (xs:List Sc) (f t:Int) (hx:ScQ xs):ScQ (rBy xs f t):=by
 unfold rBy
 split
 ·exact hx.of (List.length_filter_le _ _) fun y hy=> (List.mem_filter.1 hy).1
 ·exact ScQ.nil
def PrQ (xs:List Pr):Prop:=xs.length≤1000∧∀x∈xs,x.1.length≤1000000∧x.2.length≤1000000
theorem PrQ.nil:PrQ []:=⟨by simp,by simp⟩
theorem PrQ.of {xs ys:List Pr} (h:PrQ xs) (hl:ys.length≤xs.length) (hm: ∀y∈ys,y∈xs):PrQ ys:=⟨Nat.le_trans hl h.1,fun y hy=>h.2 y (hm y hy)⟩
theorem Bm9 (xs:List Pr) (x:Pr) (hx:PrQ xs):PrQ (Jw xs x).1:=by
 unfold Jw
 split
 ·split
  ·rename_i h1 h2
   have:=Ba6 h2
   exact⟨by dsimp only;omega,fun y hy=>by have:=this.2 y hy;omega⟩
  ·exact hx
 ·exact PrQ.nil
theorem Bno {α:Type} {xs:List α} {k:Nat} {y:α} (h:y∈G6 xs k):y∈xs:=by
 unfold G6 at h
 rw[List.mem_append] at h
 rcases h with h|h
 ·exact List.mem_of_mem_take h
 ·exact List.mem_of_mem_drop h
theorem Bqs {α:Type} (xs:List α) (k:Nat): (G6 xs k).length≤xs.length:=by
 unfold G6
 rw[List.length_append,List.length_take,List.length_drop];omega
theorem Bs4 (xs:List Pr) (t:Bp) (hx:PrQ xs):PrQ (Ta xs t).1:=by
 unfold Ta
 split
 ·dsimp only
  split
  ·exact hx.of (Bqs _ _) fun y hy=>Bno hy
  ·exact hx
 ·exact PrQ.nil
end Go.Proofs.YtjdmiodinhlchaaGreat.Code

/- Lemmas (several texts in one). -/
import Derived.Test.YtjdmiodinhlchaaGreatMBaseDrop7
import Derived.Test.YtjdmiodinhlchaaGreatMBaseDrop19
set_option maxRecDepth 100000
set_option maxHeartbeats 2000000
set_option linter.unusedSimpArgs false
set_option linter.unusedVariables false
namespace Go.Proofs.YtjdmiodinhlchaaGreat.Code
open Go Go.Ev Go.Proofs
def Cf (n:Int):Re:= .mk 2 n [] [] []
def Jd (s:Bm):Re:= .mk 3 0 s [] []
def Kn:Re:= .mk 4 0 [] [] []
def F1 (xs:List Bm):Re:= .mk 5 0 [] xs []
def Nk:Re:= .mk 0 0 [] [] []
def Bk (p:Ba×Re):V:= .tup [.d (Cv p.1), .d (T4 p.2)]
def Cj (e:En) (s:Bm):En:=⟨e.key,e.till,1,s,e.list,e.scores,e.fields⟩
def Bmh (b:Ba) (k:Bm):Ba×Re:=(b,if(Bt b k).kind=1 then Jd (Bt b k).text else Kn)
def Rm (b:Ba) (k:Bm):Ba×Re:=(b,Cf (Bt b k).text.length)
def Bjf (b:Ba) (k t:Bm):Ba×Re:=Dg b ⟨k,0,1,t,[],[],[]⟩ Nk
def Pm (b:Ba) (k t:Bm):Ba×Re:=if 40< ((Bt b k).text++t).length then(b,Cu [108,111,110,103]) else Dg b (Cj (Bt b k) ((Bt b k).text++t)) (Cf ((Bt b k).text++t).length)
def Bqz (s:Bm) (f t:Int):Bm:=(s.take (Gm s.length f t).2.toNat).drop (Gm s.length f t).1.toNat
def K5 (b:Ba) (k f t:Bm):Ba×Re:=if(C8 f).2=true∧(C8 t).2=true then(b,Jd (Bqz (Bt b k).text (C8 f).1 (C8 t).1)) else(b,Cu [110,117,109,98,101,114])
def Wt (b:Ba) (k y:Bm):Ba×Re:=if(R0 (Bt b k).text (decide ((Bt b k).kind=1)) y).2=true then Dg b (Cj (Bt b k) (Mv (R0 (Bt b k).text (decide ((Bt b k).kind=1)) y).1)) (Cf (R0 (Bt b k).text (decide ((Bt b k).kind=1)) y).1) else(b,Cu [110,117,109,98,101,114])
theorem Bi0 (b:Ba) (k:Bm) (hb:BaG b) (hk:k.length≤40):Be (ev R) 110 [.d (Cv b), .d (Bf [[71,69,84],k])]=some (Bk (Bmh b k)):=Bb fun H=>by
 refine Bi (fn:=f110) rfl rfl ?_
 have p1:=Fm b k hb.sm
 unfold Bmh
 generalize Bt b k=e at*
 have p2:=Fa
 have p3:=Ym e.text
 by_cases a:e.kind=1
 ·simp(maxSteps:=1000000) [Ca,-List.getD_eq_getElem?_getD,-List.map_map,f110,p1,p2,p3,eq_true a,Bk,Jd,Kn]
 ·simp(maxSteps:=1000000) [Ca,-List.getD_eq_getElem?_getD,-List.map_map,f110,p1,p2,p3,eq_false a,Bk,Jd,Kn]
theorem Z1 (b:Ba) (k:Bm) (hb:BaG b) (hk:k.length≤40):Be (ev R) 110 [.d (Cv b), .d (Bf [[83,84,82,76,69,78],k])]=some (Bk (Rm b k)):=Bb fun H=>by
 refine Bi (fn:=f110) rfl rfl ?_
 have p1:=Fm b k hb.sm
 unfold Rm
 generalize Bt b k=e at*
 have p2:=F6 e.text.length
 simp(maxSteps:=1000000) [Ca,-List.getD_eq_getElem?_getD,-List.map_map,f110,p1,p2,Bk,Cf]
theorem Bi1 (b:Ba) (k t:Bm) (hb:BaG b) (hk:k.length≤40) (ht:t.length≤40):Be (ev R) 110 [.d (Cv b), .d (Bf [[83,69,84],k,t])]=some (Bk (Bjf b k t)):=Bb fun H=>by
 refine Bi (fn:=f110) rfl rfl ?_
 have p1:=Fm b k hb.sm
 unfold Bjf
 have q:EnQ ⟨k,0,1,t,[],[],[]⟩:=⟨by simp;omega,by simp;omega,by simp,by simp,by simp,by simp,by simp,by simp,by simp,by simp⟩
 have p2:=G5 b ⟨k,0,1,t,[],[],[]⟩ Nk hb.sm q.sm q.fit
 generalize Dg b ⟨k,0,1,t,[],[],[]⟩ Nk=P at*
 unfold Nk at p2
 simp(maxSteps:=1000000) [Ca,-List.getD_eq_getElem?_getD,-List.map_map,f110,p1,p2,Bk]
theorem Zz (b:Ba) (k t:Bm) (hb:BaG b) (hk:k.length≤40) (ht:t.length≤40):Be (ev R) 110 [.d (Cv b), .d (Bf [[65,80,80,69,78,68],k,t])]=some (Bk (Pm b k t)):=Bb fun H=>by
 refine Bi (fn:=f110) rfl rfl ?_
 have p1:=Fm b k hb.sm
 have q:=C0 hb (t:=k) (by omega)
 unfold Pm
 have p4:=Br [108,111,110,103]
 generalize Bt b k=e at*
 obtain⟨key,till,kind,text,list,scores,fields⟩:=e
 obtain⟨q1,q2,q3,q4,q5,q6,q7,q8,q9,q10⟩:=q
 dsimp only[Cj] at*
 have r:text.length+t.length≤Gz:=by unfold Gz;omega
 by_cases a:40< (text++t).length
 ·have a': (40:Int)< (text.length:Int)+(t.length:Int):=by rw[List.length_append] at a;omega
  rw[if_pos a]
  simp(maxSteps:=1000000) [Ca,-List.getD_eq_getElem?_getD,-List.map_map,f110,p1,p4,a',r,Bk,Cu]
 ·have a': ¬ (40:Int)< (text.length:Int)+(t.length:Int):=by rw[List.length_append] at a;omega
  rw[if_neg a]
  have q:EnQ ⟨key,till,1,text++t,list,scores,fields⟩:=⟨q1,by dsimp only;omega,q3,q4,q5,q6,q7,q8,q9,by dsimp only;omega⟩
  have p2:=F6 ((text.length:Int)+(t.length:Int))
  have p3:=G5 b _ (Cf (text++t).length) hb.sm q.sm q.fit
  generalize Dg b ⟨key,till,1,text++t,list,scores,fields⟩ (Cf (text++t).length)=P at*
  have hc: (((text++t).length:Nat):Int)=(text.length:Int)+(t.length:Int):=by rw[List.length_append];omega
  rw[hc] at p3
  unfold Cf at p3
  simp(maxSteps:=1000000) [Ca,-List.getD_eq_getElem?_getD,-List.map_map,f110,p1,p2,p3,a',r,Bk]
theorem Wp (b:Ba) (k f t:Bm) (hb:BaG b) (hk:k.length≤40) (hf:f.length≤40) (ht:t.length≤40):Be (ev R) 110 [.d (Cv b), .d (Bf [[71,69,84,82,65,78,71,69],k,f,t])]=some (Bk (K5 b k f t)):=Bb fun H=>by
 refine Bi (fn:=f110) rfl rfl ?_
 have p1:=Fm b k hb.sm
 have q:=C0 hb (t:=k) (by omega)
 unfold K5
 have p2:=Jx f (by omega)
 have p3:=Jx t (by omega)
 have i2:=F0 f
 have i3:=F0 t
 have p4:=Br [110,117,109,98,101,114]
 generalize Bt b k=e at*
 generalize C8 f=F at*
 generalize C8 t=T at*
 obtain⟨m,mo⟩:=F
 obtain⟨n,no⟩:=T
 dsimp only at*
 have p5:=Bl8 e.text.length m n (by have:=q.text;omega) i2 i3
 obtain⟨b1,b2,b3⟩:=Ul e.text.length m n
 have hr:Bqz e.text m n=((e.text.take (Gm e.text.length m n).2.toNat).drop (Gm e.text.length m n).1.toNat):=rfl
 have p6:=Ym (Bqz e.text m n)
 generalize(Gm e.text.length m n).1=x at*
 generalize(Gm e.text.length m n).2=y at*
 obtain⟨A,rfl⟩: ∃A:Nat,x=(A:Int):=⟨x.toNat,by omega⟩
 obtain⟨B,rfl⟩: ∃B:Nat,y=(B:Int):=⟨y.toNat,by omega⟩
 simp only[Int.toNat_natCast] at hr
 have hr:=hr.symm
 generalize Bqz e.text m n=S at*
 have b4: (0:Int)≤(B:Int):=by omega
 have b5:A≤B:=by omega
 have b6:B≤e.text.length:=by omega
 cases mo<;>cases no
 ·simp(maxSteps:=1000000) [Ca,-List.getD_eq_getElem?_getD,-List.map_map,f110,p1,p2,p3,p4,Bk,Cu]
 ·simp(maxSteps:=1000000) [Ca,-List.getD_eq_getElem?_getD,-List.map_map,f110,p1,p2,p3,p4,Bk,Cu]
 ·simp(maxSteps:=1000000) [Ca,-List.getD_eq_getElem?_getD,-List.map_map,f110,p1,p2,p3,p4,Bk,Cu]
 ·simp(maxSteps:=1000000) [Ca,-List.getD_eq_getElem?_getD,-List.map_map,f110,p1,p2,p3,p5,p6,b1,b2,b3,b4,b5,b6,hr,Bk,Jd]
theorem No: ∀ (k n:Nat),n<10 ^ (k+1)→(Nn n).length≤k+1
 |0,n,h=>by
  rw[Nn];split
  ·simp
  ·omega
 |k+1,n,h=>by
  rw[Nn];split
  ·simp
  ·have:=No k (n / 10) (by rw[Nat.pow_succ] at h;omega)
   rw[List.length_append];simp;omega
theorem Uj (z:Int) (h: -1000000000≤z∧z≤1000000000): (Mv z).length≤1000000:=by
 unfold Mv
 split
 ·have:=No 9 z.natAbs (by omega)
  rw[List.length_cons];omega
 ·have:=No 9 z.toNat (by omega)
  omega
theorem Bqc (z:Int) (h: -1000000000≤z∧z≤1000000000):Be (ev R) 83 [.d (.int .i64 z)]=some (.d (.str (Mv z))):=Bb fun H=>Bu4 H z h
theorem Za (t:Bm) (th:Bool) (y:Bm): -1000000000≤(R0 t th y).1∧(R0 t th y).1≤1000000000:=by
 unfold R0
 split
 ·dsimp only;omega
 ·by_cases h: (C8 y).2=true∧ -1000000000≤(if th=true then(C8 t).1 else 0)+(C8 y).1∧(if th=true then(C8 t).1 else 0)+(C8 y).1≤1000000000
  ·rw[if_pos h];exact⟨h.2.1,h.2.2⟩
  ·rw[if_neg h];dsimp only;omega
theorem Bew (b:Ba) (k:Bm) (hb:BaG b) (hk:k.length≤40):Be (ev R) 110 [.d (Cv b), .d (Bf [[73,78,67,82],k])]=some (Bk (Wt b k [49])):=Bb fun H=>by
 refine Bi (fn:=f110) rfl rfl ?_
 have p1:=Fm b k hb.sm
 have q:=C0 hb (t:=k) (by omega)
 unfold Wt
 have p4:=Br [110,117,109,98,101,114]
 generalize Bt b k=e at*
 obtain⟨key,till,kind,text,list,scores,fields⟩:=e
 obtain⟨q1,q2,q3,q4,q5,q6,q7,q8,q9,q10⟩:=q
 dsimp only[Cj] at*
 have p5:=Bl9 text (decide (kind=1)) [49] q2 (by decide)
 have ai:=Za text (decide (kind=1)) [49]
 generalize R0 text (decide (kind=1)) [49]=A at*
 obtain⟨a,ao⟩:=A
 dsimp only at*
 have p6:=Bqc a ai
 have dl:=Uj a ai
 have q:EnQ ⟨key,till,1,Mv a,list,scores,fields⟩:=⟨q1,dl,q3,q4,q5,q6,q7,q8,q9,by dsimp only;omega⟩
 have p2:=F6 a
 have p3:=G5 b _ (Cf a) hb.sm q.sm q.fit
 generalize Dg b ⟨key,till,1,Mv a,list,scores,fields⟩ (Cf a)=P at*
 unfold Cf at p3
 cases ao
 ·simp(maxSteps:=1000000) [Ca,-List.getD_eq_getElem?_getD,-List.map_map,f110,p1,p5,p4,Bk,Cu]
 ·simp(maxSteps:=1000000) [Ca,-List.getD_eq_getElem?_getD,-List.map_map,f110,p1,p5,p6,p2,p3,Bk]
theorem Z0 (b:Ba) (k y:Bm) (hb:BaG b) (hk:k.length≤40) (hy:y.length≤40):Be (ev R) 110 [.d (Cv b), .d (Bf [[73,78,67,82,66,89],k,y])]=some (Bk (Wt b k y)):=Bb fun H=>by
 refine Bi (fn:=f110) rfl rfl ?_
 have p1:=Fm b k hb.sm
 have q:=C0 hb (t:=k) (by omega)
 unfold Wt
 have p4:=Br [110,117,109,98,101,114]
 generalize Bt b k=e at*
 obtain⟨key,till,kind,text,list,scores,fields⟩:=e
 obtain⟨q1,q2,q3,q4,q5,q6,q7,q8,q9,q10⟩:=q
 dsimp only[Cj] at*
 have p5:=Bl9 text (decide (kind=1)) y q2 (by omega)
 have ai:=Za text (decide (kind=1)) y
 generalize R0 text (decide (kind=1)) y=A at*
 obtain⟨a,ao⟩:=A
 dsimp only at*
 have p6:=Bqc a ai
 have dl:=Uj a ai
 have q:EnQ ⟨key,till,1,Mv a,list,scores,fields⟩:=⟨q1,dl,q3,q4,q5,q6,q7,q8,q9,by dsimp only;omega⟩
 have p2:=F6 a
 have p3:=G5 b _ (Cf a) hb.sm q.sm q.fit
 generalize Dg b ⟨key,till,1,Mv a,list,scores,fields⟩ (Cf a)=P at*
 unfold Cf at p3
 cases ao
 ·simp(maxSteps:=1000000) [Ca,-List.getD_eq_getElem?_getD,-List.map_map,f110,p1,p5,p4,Bk,Cu]
 ·simp(maxSteps:=1000000) [Ca,-List.getD_eq_getElem?_getD,-List.map_map,f110,p1,p5,p6,p2,p3,Bk]
def Qa (xs:List Bm) (f:Bool) (ts:List Bm):List Bm×Bool:=if B5 xs=true then(if B5 ts=true∧xs.length+ts.length≤16 then(Bch xs f ts,true) else(xs,false)) else([],false)
def Xg (xs:List Bm) (f:Bool):List Bm×Bm×Bool:=if B5 xs=true∧0<xs.length then(if f=true then(xs.tail,xs.getD 0 [],true) else(xs.take (xs.length - 1),xs.getD (xs.length - 1) [],true)) else([],[],false)
def Bc7 (xs:List Bm) (k:Int) (t:Bm):List Bm×Bool:=if B5 xs=true then(match Tt xs k t with|some ys=> (ys,true) |none=> (xs,false)) else([],false)
def Tj (xs:List Bm) (c:Int) (t:Bm):List Bm×Int:=if B5 xs=true∧Gh c=true then((Sj xs c t).1,(Sj xs c t).2) else([],0)
def Qq (xs:List Bm) (f t:Int):List Bm:=if B5 xs=true∧Gh f=true∧Gh t=true then N3 xs f t else[]
def Qb (xs ts:List Bm):List Bm×Int×Bool:=if D9 xs=true then(if B5 ts=true∧(Ke xs ts).length≤16 then(Ke xs ts,(Ke xs ts).length - xs.length,true) else(xs,0,false)) else([],0,false)
def Pb (xs ys:List Bm):List Bm×Int:=if D9 xs=true then(Kg xs ys,xs.length - (Kg xs ys).length) else([],0)
def Bnh (xs ys:List Bm):List Bm:=if D9 xs=true∧D9 ys=true then Bmg xs ys else[]
def Btt (xs ys:List Bm):List Bm:=if D9 xs=true∧D9 ys=true then Ke xs ys else[]
def Bnj (xs ys:List Bm):List Bm:=if D9 xs=true∧D9 ys=true then Kg xs ys else[]
def Mq (xs:List Sc) (x:Sc):List Sc×Bool×Bool:=if Cq xs=true then(if Cq (Bci xs x)=true then(Bci xs x,decide ((Fv xs x.1).length=xs.length),true) else(xs,false,false)) else([],false,false)
def Pc (xs:List Sc) (t:Bm):List Sc×Bool:=if Cq xs=true then(Fv xs t,decide ((Fv xs t).length<xs.length)) else([],false)
def Bnn (xs:List Sc) (f t:Int):List Sc:=if Cq xs=true∧Gh f=true∧Gh t=true then Wz xs f t else[]
def Mp (xs:List Pr) (x:Pr):List Pr×Bool×Bool:=if Cx xs=true then(if Cx (S8 xs x)=true then(S8 xs x, !Lk xs x.1,true) else(xs,false,false)) else([],false,false)
def N9 (xs:List Pr) (t:Bm):List Pr×Bool:=if Cx xs=true then(if Lk xs t=true then Fs xs (Sd xs t) else xs,Lk xs t) else([],false)
def Pa (xs:List Pr) (t:Bm):Bm×Bool:=if Cx xs=true∧Lk xs t=true then((xs.getD (Sd xs t) ([],[])).2,true) else([],false)
theorem Bsj (xs:List Bm) (f:Bool) (ts:List Bm) (hx:xs.length≤1000000) (ht:ts.length≤1000000):Be (ev R) 136 [.d (Bf xs), .d (.bool f), .d (Bf ts)]=some (.tup [.d (Bf (Qa xs f ts).1), .d (.bool (Qa xs f ts).2)]):=by
 rw[Bxc xs f ts hx ht];unfold Qa;split<;> (try split)<;>rfl
theorem Bsk (xs:List Bm) (f:Bool) (hx:xs.length≤1000000):Be (ev R) 137 [.d (Bf xs), .d (.bool f)]=some (.tup [.d (Bf (Xg xs f).1), .d (.str (Xg xs f).2.1), .d (.bool (Xg xs f).2.2)]):=by
 rw[Bxd xs f hx];unfold Xg;split<;> (try split)<;>rfl
theorem Bx8 (xs:List Bm) (k:Int) (t:Bm) (hx:xs.length≤1000000) (hk:Bko k):Be (ev R) 138 [.d (Bf xs), .d (.int .i64 k), .d (.str t)]=some (.tup [.d (Bf (Bc7 xs k t).1), .d (.bool (Bc7 xs k t).2)]):=by
 rw[Bxe xs k t hx hk];unfold Bc7;cases B5 xs<;>cases Tt xs k t<;>rfl
theorem Bx9 (xs:List Bm) (c:Int) (t:Bm) (hx:xs.length≤1000000):Be (ev R) 139 [.d (Bf xs), .d (.int .i64 c), .d (.str t)]=some (.tup [.d (Bf (Tj xs c t).1), .d (.int .i64 (Tj xs c t).2)]):=by
 rw[Bxf xs c t hx];unfold Tj;split<;> (try split)<;>rfl
theorem Bsl (xs:List Bm) (f t:Int) (hx:xs.length≤1000000):Be (ev R) 140 [.d (Bf xs), .d (.int .i64 f), .d (.int .i64 t)]=some (.d (Bf (Qq xs f t))):=Bxg xs f t hx
theorem Bya (xs ts:List Bm) (hx:xs.length≤500000) (ht:ts.length≤500000):Be (ev R) 142 [.d (Bf xs), .d (Bf ts)]=some (.tup [.d (Bf (Qb xs ts).1), .d (.int .i64 (Qb xs ts).2.1), .d (.bool (Qb xs ts).2.2)]):=by
 rw[Bxh xs ts hx ht];unfold Qb;split<;> (try split)<;>rfl
theorem Byb (xs ys:List Bm) (hx:xs.length≤1000000) (hy:ys.length≤1000000):Be (ev R) 143 [.d (Bf xs), .d (Bf ys)]=some (.tup [.d (Bf (Pb xs ys).1), .d (.int .i64 (Pb xs ys).2)]):=by
 rw[Bxi xs ys hx hy];unfold Pb;split<;> (try split)<;>rfl
theorem Byc (xs ys:List Bm) (hx:xs.length≤1000000) (hy:ys.length≤1000000):Be (ev R) 146 [.d (Bf xs), .d (Bf ys)]=some (.d (Bf (Bnh xs ys))):=Bxj xs ys hx hy
theorem Byd (xs ys:List Bm) (hx:xs.length≤500000) (hy:ys.length≤500000):Be (ev R) 147 [.d (Bf xs), .d (Bf ys)]=some (.d (Bf (Btt xs ys))):=Bxk xs ys hx hy
theorem Bye (xs ys:List Bm) (hx:xs.length≤1000000) (hy:ys.length≤1000000):Be (ev R) 148 [.d (Bf xs), .d (Bf ys)]=some (.d (Bf (Bnj xs ys))):=Bxl xs ys hx hy
theorem Bsi (xs:List Sc) (x:Sc) (hx:xs.length≤1000000):Be (ev R) 126 [.d (Cs xs), .d (G1 x)]=some (.tup [.d (Cs (Mq xs x).1), .d (.bool (Mq xs x).2.1), .d (.bool (Mq xs x).2.2)]):=by
 rw[Bxa xs x hx];unfold Mq;split<;> (try split)<;>rfl
theorem Byf (xs:List Sc) (t:Bm) (hx:xs.length≤1000000):Be (ev R) 149 [.d (Cs xs), .d (.str t)]=some (.tup [.d (Cs (Pc xs t).1), .d (.bool (Pc xs t).2)]):=by
 rw[Bxm xs t hx];unfold Pc;split<;> (try split)<;>rfl
theorem Byg (xs:List Sc) (f t:Int) (hx:xs.length≤1000000):Be (ev R) 152 [.d (Cs xs), .d (.int .i64 f), .d (.int .i64 t)]=some (.d (Cs (Bnn xs f t))):=Bxn xs f t hx
theorem Bsh (xs:List Pr) (x:Pr) (hx:xs.length≤1000000):Be (ev R) 105 [.d (Dp xs), .d (Jh x)]=some (.tup [.d (Dp (Mp xs x).1), .d (.bool (Mp xs x).2.1), .d (.bool (Mp xs x).2.2)]):=by
 rw[Bw9 xs x hx];unfold Mp;split<;> (try split)<;>rfl
theorem Byh (xs:List Pr) (t:Bm) (hx:xs.length≤1000000):Be (ev R) 155 [.d (Dp xs), .d (.str t)]=some (.tup [.d (Dp (N9 xs t).1), .d (.bool (N9 xs t).2)]):=by
 rw[Bxq xs t hx];unfold N9;split<;> (try split)<;>rfl
theorem Bsm (xs:List Pr) (t:Bm) (hx:xs.length≤1000000):Be (ev R) 154 [.d (Dp xs), .d (.str t)]=some (.tup [.d (.str (Pa xs t).1), .d (.bool (Pa xs t).2)]):=by
 rw[Bxp xs t hx];unfold Pa;split<;> (try split)<;>rfl
def TxQ (xs:List Bm):Prop:=xs.length≤1000∧∀x∈xs,x.length≤1000000
theorem TxQ.nil:TxQ []:=⟨by simp,by simp⟩
theorem TxQ.of {xs ys:List Bm} (h:TxQ xs) (hl:ys.length≤xs.length) (hm: ∀y∈ys,y∈xs):TxQ ys:=⟨Nat.le_trans hl h.1,fun y hy=>h.2 y (hm y hy)⟩
theorem Bhz (xs:List Bm) (f:Bool) (ts:List Bm) (hx:TxQ xs):TxQ (Qa xs f ts).1:=by
 unfold Qa
 split
 ·split
  ·rename_i h1 h2
   refine⟨?_,fun x hm=> ?_⟩
   ·cases f<;>simp[Bch]<;>omega
   ·have:x∈xs∨x∈ts:=by
     cases f<;>simp[Bch] at hm
     ·exact hm
     ·exact hm.symm
    rcases this with h|h
    ·have:=K0 h1 x h;omega
    ·have:=K0 h2.1 x h;omega
  ·exact hx
 ·exact TxQ.nil
theorem Bnk (xs:List Bm) (f:Bool) (hx:TxQ xs):TxQ (Xg xs f).1:=by
 unfold Xg
 split
 ·split
  ·exact hx.of (by simp) fun y hy=>List.mem_of_mem_tail hy
  ·exact hx.of (by simp) fun y hy=>List.mem_of_mem_take hy
 ·exact TxQ.nil
theorem Btu (xs:List Bm) (k:Int) (t:Bm) (hx:TxQ xs):TxQ (Bc7 xs k t).1:=by
 unfold Bc7
 split
 ·split
  ·rename_i ys hy
   unfold Tt at hy
   split at hy
   ·rename_i h
    simp only[Option.some.injEq] at hy
    subst hy
    refine⟨by rw[List.length_set];exact hx.1,fun y hy=> ?_⟩
    rcases List.mem_or_eq_of_mem_set hy with h1|h1
    ·exact hx.2 y h1
    ·subst h1;have:=h.2.1;omega
   ·simp at hy
  ·exact hx
 ·exact TxQ.nil
theorem Sy (xs:List Bm) (t:Bm) (c m:Int): (Gn xs t c m).1.length≤xs.length∧∀y∈(Gn xs t c m).1,y∈xs:=by
 unfold Gn
 have key: ∀ (n i:Nat) (s:List Bm×Nat),i+n=xs.length→s.1.length≤i→(∀y∈s.1,y∈xs)→((List.range' i n).foldl (fun s i=>Je xs t c m i s) s).1.length≤xs.length∧∀y∈((List.range' i n).foldl (fun s i=>Je xs t c m i s) s).1,y∈xs:=by
  intro n
  induction n with
  |zero=>intro i s h1 h2 h3;exact⟨by simp only[List.range'_zero,List.foldl_nil];omega,h3⟩
  |succ n ih=>
   intro i s h1 h2 h3
   rw[List.range'_succ,List.foldl_cons]
   refine ih (i+1) _ (by omega) ?_ ?_
   ·unfold Je
    split
    ·dsimp only;omega
    ·dsimp only;rw[List.length_append];simp;omega
   ·unfold Je
    split
    ·exact h3
    ·intro y hy
     simp only[List.mem_append,List.mem_singleton] at hy
     rcases hy with hy|rfl
     ·exact h3 y hy
     ·exact Fz (by omega)
 exact key xs.length 0 ([],0) (by omega) (by simp) (by simp)
theorem Bq4 (xs:List Bm) (c:Int) (t:Bm) (hx:TxQ xs):TxQ (Tj xs c t).1:=by
 unfold Tj
 split
 ·unfold Sj
  split
  ·have:=Sy xs.reverse t c (-c)
   refine hx.of ?_ fun y hy=> ?_
   ·simpa using this.1
   ·have:=this.2 y (by simpa using hy)
    simpa using this
  ·have:=Sy xs t c c
   exact hx.of this.1 this.2
 ·exact TxQ.nil
theorem Bnl (xs:List Bm) (f t:Int) (hx:TxQ xs):TxQ (Qq xs f t):=by
 unfold Qq
 split
 ·unfold N3
  refine hx.of ?_ fun y hy=> ?_
  ·rw[List.length_drop,List.length_take];omega
  ·exact List.mem_of_mem_take (List.mem_of_mem_drop hy)
 ·exact TxQ.nil
theorem Bmj {xs:List Bm} {t y:Bm} (h:y∈Xs xs t):y=t∨y∈xs:=by
 unfold Xs at h
 split at h
 ·exact .inr h
 ·exact Yh h
theorem Bcd: ∀ {ts xs:List Bm} {y:Bm},y∈Ke xs ts→y∈xs∨y∈ts
 | [],xs,y,h=> .inl h
 |t::ts,xs,y,h=>by
  have h:y∈Ke (Xs xs t) ts:=h
  rcases Bcd h with h1|h1
  ·rcases Bmj h1 with rfl|h2
   ·exact .inr (by simp)
   ·exact .inl h2
  ·exact .inr (by simp[h1])
theorem Bq5 (xs ts:List Bm) (hx:TxQ xs):TxQ (Qb xs ts).1:=by
 unfold Qb
 split
 ·split
  ·rename_i h1 h2
   refine⟨by dsimp only;omega,fun y hy=> ?_⟩
   rcases Bcd hy with h|h
   ·exact hx.2 y h
   ·have:=K0 h2.1 y h;omega
  ·exact hx
 ·exact TxQ.nil
theorem Bnm (xs ys:List Bm) (hx:TxQ xs):TxQ (Pb xs ys).1:=by
 unfold Pb
 split
 ·exact hx.of (List.length_filter_le _ _) fun y hy=> (List.mem_filter.1 hy).1
 ·exact TxQ.nil
def ScQ (xs:List Sc):Prop:=xs.length≤1000∧∀x∈xs,x.1.length≤1000000∧ -2000000000≤x.2∧x.2≤2000000000
theorem ScQ.nil:ScQ []:=⟨by simp,by simp⟩
theorem ScQ.of {xs ys:List Sc} (h:ScQ xs) (hl:ys.length≤xs.length) (hm: ∀y∈ys,y∈xs):ScQ ys:=⟨Nat.le_trans hl h.1,fun y hy=>h.2 y (hm y hy)⟩
theorem Bh0 (xs:List Sc) (x:Sc) (hx:ScQ xs):ScQ (Mq xs x).1:=by
 unfold Mq
 split
 ·split
  ·rename_i h1 h2
   have:=W9 h2
   exact⟨by dsimp only;omega,fun y hy=>by have:=this.2 y hy;omega⟩
  ·exact hx
 ·exact ScQ.nil
theorem Bno (xs:List Sc) (t:Bm) (hx:ScQ xs):ScQ (Pc xs t).1:=by
 unfold Pc
 split
 ·exact hx.of (List.length_filter_le _ _) fun y hy=> (List.mem_filter.1 hy).1
 ·exact ScQ.nil
theorem Btv (xs:List Sc) (f t:Int) (hx:ScQ xs):ScQ (Bnn xs f t):=by
 unfold Bnn
 split
 ·unfold Wz
  refine hx.of ?_ fun y hy=> ?_
  ·rw[List.length_drop,List.length_take];omega
  ·exact List.mem_of_mem_take (List.mem_of_mem_drop hy)
 ·exact ScQ.nil
theorem Bx0 (xs:List Sc) (f t:Int) (hx:ScQ xs):ScQ (rBy xs f t):=by
 unfold rBy
 split
 ·exact hx.of (List.length_filter_le _ _) fun y hy=> (List.mem_filter.1 hy).1
 ·exact ScQ.nil
def PrQ (xs:List Pr):Prop:=xs.length≤1000∧∀x∈xs,x.1.length≤1000000∧x.2.length≤1000000
theorem PrQ.nil:PrQ []:=⟨by simp,by simp⟩
theorem PrQ.of {xs ys:List Pr} (h:PrQ xs) (hl:ys.length≤xs.length) (hm: ∀y∈ys,y∈xs):PrQ ys:=⟨Nat.le_trans hl h.1,fun y hy=>h.2 y (hm y hy)⟩
theorem Bhy (xs:List Pr) (x:Pr) (hx:PrQ xs):PrQ (Mp xs x).1:=by
 unfold Mp
 split
 ·split
  ·rename_i h1 h2
   have:=U1 h2
   exact⟨by dsimp only;omega,fun y hy=>by have:=this.2 y hy;omega⟩
  ·exact hx
 ·exact PrQ.nil
theorem Bic {α:Type} {xs:List α} {k:Nat} {y:α} (h:y∈Fs xs k):y∈xs:=by
 unfold Fs at h
 rw[List.mem_append] at h
 rcases h with h|h
 ·exact List.mem_of_mem_take h
 ·exact List.mem_of_mem_drop h
theorem Blc {α:Type} (xs:List α) (k:Nat): (Fs xs k).length≤xs.length:=by
 unfold Fs
 rw[List.length_append,List.length_take,List.length_drop];omega
theorem Bni (xs:List Pr) (t:Bm) (hx:PrQ xs):PrQ (N9 xs t).1:=by
 unfold N9
 split
 ·dsimp only
  split
  ·exact hx.of (Blc _ _) fun y hy=>Bic hy
  ·exact hx
 ·exact PrQ.nil
end Go.Proofs.YtjdmiodinhlchaaGreat.Code

/- Lemmas (several texts in one). -/
import Derived.Test.YtpajcoanfkeibaaGreatDoorMDoKind6
import Derived.Test.YtpajcoanfkeibaaGreatDoorMDoKind9
import Derived.Test.YtpajcoanfkeibaaGreatDoorMDoKind11
import Derived.Test.YtpajcoanfkeibaaGreatDoorMDoKind19
set_option maxRecDepth 100000
set_option maxHeartbeats 2000000
set_option linter.unusedSimpArgs false
set_option linter.unusedVariables false
open List renaming mem_cons → Cdj, getD_eq_getElem?_getD → Cda, map_map → Cdb, map_cons → Cdd, length_cons → Cdc, getElem?_eq_getElem → Cdh, length_append → Cdi
open Bool renaming and_eq_true → Cdv, not_eq_true' → Cdy
open Option renaming getD_some → Cdu
namespace Go.Proofs.YtpajcoanfkeibaaGreatDoor.Code
open Go Go.Ev Go.Proofs
theorem Bb9 {xs:List Br} (h:Pk xs=true):1≤xs.length∧xs.length≤8:=by
 have:=(Wj xs).1 h
 exact this.2
theorem Bh6 {xs:List Br} (h:Pk xs=true): ∀x∈xs,x.length≤40:=((Wj xs).1 h).1
theorem B62 (xs:List Br) (hx:xs.length≤9223372036854775807):Be (ev R) 252 [.d (Bf xs)]=some (.d (.bool (Pk xs))):=Bb fun H=>B28 H xs hx
theorem Caq (s:Br):Be (ev R) 59 [.d (.str s)]=some (.d (.bool (Gm s))):=Bb fun H=>Bhg H s
theorem Bxk {α:Type} {P:α→Prop} {c:Prop} [Decidable c] {a b:α} (ha:P a) (hb:P b):P (if c then a else b):=by split<;>assumption
def Brg (x:Int×Int×Int):Prop:=0≤x.1∧x.1≤4∧x.2.1≤8∧0≤x.2.2∧x.2.2≤5
theorem Bv8 (w:Br):Brg (Bj w):=by
 unfold Bj
 repeat (refine Bxk (P:=Brg) ⟨by decide,by decide,by decide,by decide,by decide⟩ ?_)
 exact⟨by decide,by decide,by decide,by decide,by decide⟩
def P9:List Br:=[[83,73,78,84,69,82],[83,85,78,73,79,78],[83,68,73,70,70],[82,69,78,65,77,69]]
theorem B1o {w:Br} (h:w∈P9): (Bj w).1=3:=by
 simp only[P9,Cdj,List.not_mem_nil,or_false] at h
 rcases h with rfl|rfl|rfl|rfl<;>rfl
def Bby (args:List Br):List Br:=
 if Pk args=true then
  if(Bj (args.getD 0 [])).1=0∨¬ ((Bj (args.getD 0 [])).1≤(args.length:Int)∧(args.length:Int)≤(Bj (args.getD 0 [])).2.1)∨(Bj (args.getD 0 [])).1=1∨args.getD 0 []=[75,69,89,83] then[] else
  if args.getD 0 []=[68,69,76]∨args.getD 0 []=[69,88,73,83,84,83] then args.drop 1 else
  if args.getD 0 []∈P9 then[args.getD 1 [],args.getD 2 []] else[args.getD 1 []]
 else[]
theorem B6i (args:List Br) (hx:args.length≤1000000):Be (ev R) 198 [.d (Bf args)]=some (.d (Bf (Bby args))):=Bb fun H=>by
 refine Bh (fn:=f198) rfl rfl ?_
 have p0:=B62 args (by omega)
 unfold Bby
 cases h0:Pk args with
 |false=>rw[h0] at p0;simp[Cg,-Cda,-Cdb,f198,p0,Bf]
 |true=>
  rw[h0] at p0
  have hl:=Bb9 h0
  clear h0
  obtain⟨w,r,rfl⟩: ∃w r,args=w::r:=by
   cases args with
   |nil=>simp at hl
   |cons w r=>exact⟨w,r,rfl⟩
  have e0: (w::r).getD 0 []=w:=rfl
  have e1: (w::r).length=r.length+1:=rfl
  have e2: ((w::r).length:Int)=(r.length:Int)+1:=by rw[e1];omega
  rw[e0,e2]
  rw[e1] at hl
  simp only[Bf,Cdd] at p0
  have p1:=Dz w
  have wi:=Bv8 w
  have wt:=fun h:w∈P9=>B1o h
  have p3:=Bim P9 w (by decide)
  have hge: ∀lo:Int,0≤lo→¬lo=0→¬lo=1→lo≤(r.length:Int)+1→1≤r.length:=fun lo a b c d=>by omega
  generalize Bj w=W at*
  obtain⟨lo,hi,kd⟩:=W
  have p2:=Pt ((r.length:Int)+1) lo hi
  dsimp only at*
  by_cases a0:lo=0
  ·simp(maxSteps:=1000000) [Ci,-Cda,-Cdb,f198,p0,p1,eq_true a0,Bf]
  by_cases a1:lo≤(r.length:Int)+1
  rotate_left
  ·simp(maxSteps:=1000000) [Ci,-Cda,-Cdb,f198,p0,p1,p2,eq_false a0,eq_false a1,Bf]
  by_cases a2: (r.length:Int)+1≤hi
  rotate_left
  ·simp(maxSteps:=1000000) [Ci,-Cda,-Cdb,f198,p0,p1,p2,eq_false a0,eq_true a1,eq_false a2,Bf]
  by_cases a3:lo=1
  ·simp(maxSteps:=1000000) [Ci,-Cda,-Cdb,f198,p0,p1,p2,eq_false a0,eq_true a1,eq_true a2,eq_true a3,Bf]
  have hr:=hge lo wi.1 a0 a3 a1
  obtain⟨k,r',rfl⟩: ∃k r',r=k::r':=by
   cases r with
   |nil=>simp at hr
   |cons w r=>exact⟨w,r,rfl⟩
  have f2: (((k::r').length:Nat):Int)=(r'.length:Int)+1:=by rw[Cdc];omega
  have f1: (k::r').length=r'.length+1:=rfl
  rw[f2] at a1 a2 p2
  rw[f1] at hl
  clear hge
  have q1:=Bdm (k::r') (by rw[f1];omega)
  have q1n:=Uy (k::r') (by rw[f1];omega)
  simp only[Bf,Cdd] at p0 q1 q1n
  have b1: (1:Int)≤(r'.length:Int)+1+1:=by omega
  have b0: (0:Int)≤(r'.length:Int)+1+1:=by omega
  have b00: (0:Int)< (r'.length:Int)+1+1:=by omega
  have b2: (1:Int)< (r'.length:Int)+1+1:=by omega
  by_cases a4:w=[75,69,89,83]
  ·simp(maxSteps:=1000000) [Ci,-Cda,-Cdb,f198,p0,p1,p2,eq_false a0,eq_true a1,eq_true a2,eq_false a3,eq_true a4,b0,b00,b1,b2,Bf]
  by_cases a5:w=[68,69,76]
  ·simp(maxSteps:=1000000) [Ci,-Cda,-Cdb,f198,p0,p1,p2,q1,q1n,eq_false a0,eq_true a1,eq_true a2,eq_false a3,eq_false a4,eq_true a5,b0,b00,b1,b2,Bf]
  by_cases a6:w=[69,88,73,83,84,83]
  ·simp(maxSteps:=1000000) [Ci,-Cda,-Cdb,f198,p0,p1,p2,q1,q1n,eq_false a0,eq_true a1,eq_true a2,eq_false a3,eq_false a4,eq_false a5,eq_true a6,b0,b00,b1,b2,Bf]
  by_cases a7:w∈P9
  ·have:=wt a7
   subst this
   obtain⟨k2,r2,rfl⟩: ∃k2 r2,r'=k2::r2:=by
    cases r' with
    |nil=>simp at a1
    |cons w r=>exact⟨w,r,rfl⟩
   have q2:=Bdm [k,k2] (by simp)
   have q2n:=Uy [k,k2] (by simp)
   rw[decide_eq_true a7] at p3
   simp only[P9,Bf,Cdd,List.map_nil] at p0 p3 q2 q2n
   have g2: (((k2::r2).length:Nat):Int)=(r2.length:Int)+1:=by rw[Cdc];omega
   rw[g2] at a1 a2 p2 b0 b00 b1 b2
   have b3: (3:Int)≤(r2.length:Int)+1+1+1:=by omega
   simp(maxSteps:=1000000) [Ci,-Cda,-Cdb,f198,p0,p1,p2,p3,q2,q2n,eq_false a0,eq_true a1,eq_true a2,eq_false a3,eq_false a4,eq_false a5,eq_false a6,eq_true a7,b0,b00,b1,b2,b3,Bf]
  ·rw[decide_eq_false a7] at p3
   simp only[P9,Bf,Cdd,List.map_nil] at p3
   simp(maxSteps:=1000000) [Ci,-Cda,-Cdb,f198,p0,p1,p2,p3,eq_false a0,eq_true a1,eq_true a2,eq_false a3,eq_false a4,eq_false a5,eq_false a6,eq_false a7,b0,b00,b1,b2,Bf]
def Yj (t:Br) (there:Bool) (by':Br):Int×Bool:=
 if there=true∧(Dw t).2=false then(0,false) else
 if(Dw by').2=true∧ -1000000000≤(if there=true then(Dw t).1 else 0)+(Dw by').1∧(if there=true then(Dw t).1 else 0)+(Dw by').1≤1000000000 then((if there=true then(Dw t).1 else 0)+(Dw by').1,true) else(0,false)
theorem Jd (t:Br): -1000000000≤(Dw t).1∧(Dw t).1≤1000000000:=by
 unfold Dw
 repeat' split
 all_goals (dsimp only;omega)
theorem Md (s:Br) (hs:s.length≤1000000):Be (ev R) 203 [.d (.str s)]=some (.tup [.d (.int .i64 (Dw s).1), .d (.bool (Dw s).2)]):=Bb fun H=>B22 H s (by omega)
theorem Bs7 (t:Br) (there:Bool) (y:Br) (ht:t.length≤1000000) (hy:y.length≤1000000):Be (ev R) 205 [.d (.str t), .d (.bool there), .d (.str y)]=some (.tup [.d (.int .i64 (Yj t there y).1), .d (.bool (Yj t there y).2)]):=Bb fun H=>by
 refine Bh (fn:=f205) rfl rfl ?_
 have p1:=Md t ht
 have p2:=Md y hy
 have i1:=Jd t
 have i2:=Jd y
 unfold Yj
 generalize Dw t=T at*
 generalize Dw y=Y at*
 obtain⟨m,mo⟩:=T
 obtain⟨n,no⟩:=Y
 dsimp only at*
 have w:IntKind.i64.wrap (m+n)=m+n:=IntWalk.i64_in _ (by omega)
 have w0:IntKind.i64.wrap (0+n)=n:=by rw[IntWalk.i64_in _ (by omega)];omega
 have w1:IntKind.i64.wrap n=n:=IntWalk.i64_in _ (by omega)
 have p3:=Pt (m+n) (-1000000000) 1000000000
 have p4:=Pt n (-1000000000) 1000000000
 cases there<;>cases mo<;>cases no
 all_goals try (simp[Cg,-Cda,-Cdb,f205,p1,p2];done)
 ·have a: -1000000000≤n:=by omega
  have b:n≤1000000000:=by omega
  simp[Cg,-Cda,-Cdb,f205,p1,p2,p4,w,w0,w1,a,b]
 ·have a: -1000000000≤n:=by omega
  have b:n≤1000000000:=by omega
  simp[Cg,-Cda,-Cdb,f205,p1,p2,p4,w,w0,w1,a,b]
 ·by_cases a: -1000000000≤m+n
  ·by_cases b:m+n≤1000000000
   ·simp[Cg,-Cda,-Cdb,f205,p1,p2,p3,w,w0,w1,eq_true a,eq_true b]
   ·simp[Cg,-Cda,-Cdb,f205,p1,p2,p3,w,w0,w1,eq_true a,eq_false b]
  ·simp[Cg,-Cda,-Cdb,f205,p1,p2,p3,w,w0,w1,eq_false a]
def Bkc (b:Ba) (kind:Int) (k:Br):Br:=if Gm k=false then[107,101,121] else if kind≠0∧(Bz b k).kind≠0∧(Bz b k).kind≠kind then[107,105,110,100] else[]
def K7 (b:Ba) (kind:Int):List Br→Br
 | []=> []
 |k::r=>if Bkc b kind k=[] then K7 b kind r else Bkc b kind k
def Cq (b:Ba) (args:List Br):Br:=
 if(Bj (args.getD 0 [])).1=0 then[117,110,107,110,111,119,110] else
 if ¬ ((Bj (args.getD 0 [])).1≤(args.length:Int)∧(args.length:Int)≤(Bj (args.getD 0 [])).2.1) then[119,111,114,100,115] else
 K7 b (Bj (args.getD 0 [])).2.2 (Bby args)
theorem Bo7 (args:List Br): (Bby args).length≤args.length+2:=by
 unfold Bby
 repeat' split
 all_goals (simp only[List.length_nil,Cdc,List.length_drop];omega)
theorem Bhe {α:Type} (xs:List α) (i:Nat) (d:α) (h:i<xs.length):xs.drop i=xs.getD i d::xs.drop (i+1):=by
 rw[List.drop_eq_getElem_cons h]
 simp[Cda,h]
theorem B3k (H:Hp) (b:Ba) (kd:Int) (ks:List Br) (hk:ks.length≤1000000) (hb:BaSm b):
  Gives (fun o e X=> (o= .exit 1∧K7 b kd ks=[]∧X=ap H [.row 0 2 [.d (Df b)]])∨(o= .ret∧e.get 4= .d (.str (K7 b kd ks))∧Cx X (Bc H)=H)) (Bg (Bq (ev R) R.glob (Bc H) Bg Rc) [2,7,8,9] ⟨[(2, .ptr (Bc H) 0 0 0),(7, .d (.int .i64 kd)),(8, .d (Bf ks)),(9, .d (.int .i64 0))],ap H [.row 0 2 [.d (Df b)]]⟩):=by
 refine C9 (F:=Bq (ev R) R.glob (Bc H) Bg Rc) (lv:=[2,7,8,9]) ks.length
  (fun i e X=>X=ap H [.row 0 2 [.d (Df b)]]∧e.get 2= .ptr (Bc H) 0 0 0∧e.get 7= .d (.int .i64 kd)∧e.get 8= .d (Bf ks)∧e.get 9= .d (.int .i64 i)∧K7 b kd ks=K7 b kd (ks.drop i))
  _ ?_ ?_ ks.length 0 _ _ (by omega) ⟨rfl,rfl,rfl,rfl,rfl,rfl⟩
 ·rintro e X ⟨rfl,g2,g7,g8,g9,hr⟩
  rw[List.drop_length] at hr
  have hr:K7 b kd ks=[]:=hr
  simp[Cg,-Cda,-Cdb,Rc,g2,g7,g8,g9,hr,Bf]
 ·rintro i e X hi ⟨rfl,g2,g7,g8,g9,hr⟩
  have c: (i:Int)< (ks.length:Int):=by omega
  have g:=Dk ks i hi
  rw[Bhe ks i [] hi] at hr
  simp only[K7] at hr
  have p1:=Caq (ks.getD i [])
  have p2:=Gv b (ks.getD i []) hb
  have w1:IntKind.i64.wrap ((i:Int)+1)=((i+1:Nat):Int):=by rw[IntWalk.i64_in _ (by omega)];rfl
  unfold Bkc at hr
  generalize ks.getD i []=k at*
  cases h1:Gm k with
  |false=>
   rw[h1] at p1 hr
   have hr:K7 b kd ks=[107,101,121]:=hr
   simp[Cg,-Cda,-Cdb,Rc,g2,g7,g8,g9,c,g,hi,p1,hr,Bf]
  |true=>
   rw[h1] at p1 hr
   generalize Bz b k=E at*
   by_cases a1:kd=0
   ·have hr:K7 b kd ks=K7 b kd (ks.drop (i+1)):=by simpa[a1] using hr
    simp[Cg,-Cda,-Cdb,Rc,g2,g7,g8,g9,c,g,hi,p1,p2,eq_true a1,w1,eq_true hr,Bf]
   ·by_cases a2:E.kind=0
    ·have hr:K7 b kd ks=K7 b kd (ks.drop (i+1)):=by simpa[a1,a2] using hr
     simp[Cg,-Cda,-Cdb,Rc,g2,g7,g8,g9,c,g,hi,p1,p2,eq_false a1,eq_true a2,w1,eq_true hr,Bf]
    ·by_cases a3:E.kind=kd
     ·have hr:K7 b kd ks=K7 b kd (ks.drop (i+1)):=by simpa[a1,a2,a3] using hr
      simp[Cg,-Cda,-Cdb,Rc,g2,g7,g8,g9,c,g,hi,p1,p2,eq_false a1,eq_false a2,eq_true a3,w1,eq_true hr,Bf]
     ·have hr:K7 b kd ks=[107,105,110,100]:=by simpa[a1,a2,a3] using hr
      simp[Cg,-Cda,-Cdb,Rc,g2,g7,g8,g9,c,g,hi,p1,p2,eq_false a1,eq_false a2,eq_false a3,w1,hr,Bf]
theorem D5 (b:Ba) (args:List Br) (hb:BaSm b) (hx:args.length≤1000) (h1:1≤args.length):Be (ev R) 163 [.d (Df b), .d (Bf args)]=some (.d (.str (Cq b args))):=Bb fun H=>by
 refine Bh (fn:=f163) rfl rfl ?_
 have hkl:=Bo7 args
 have p1:=Dz (args.getD 0 [])
 have p3:=B6i args (by omega)
 have g0:=Dk args 0 (by omega)
 have c0: (0:Int)< (args.length:Int):=by omega
 have c0':0<args.length:=by omega
 have lp:=B3k H b (Bj (args.getD 0 [])).2.2 (Bby args) (by omega) hb
 have p2:=Pt (args.length:Int) (Bj (args.getD 0 [])).1 (Bj (args.getD 0 [])).2.1
 unfold Cq
 generalize Bby args=ks at*
 generalize args.getD 0 []=w at*
 generalize Bj w=W at*
 obtain⟨lo,hi,kd⟩:=W
 dsimp only at*
 by_cases a0:lo=0
 ·simp[Cg,-Cda,-Cdb,f163,p1,g0,c0,c0',eq_true a0,Bf]
 by_cases a1:lo≤(args.length:Int)
 rotate_left
 ·simp[Cg,-Cda,-Cdb,f163,p1,p2,g0,c0,c0',eq_false a0,eq_false a1,Bf]
 by_cases a2: (args.length:Int)≤hi
 rotate_left
 ·simp[Cg,-Cda,-Cdb,f163,p1,p2,g0,c0,c0',eq_false a0,eq_true a1,eq_false a2,Bf]
 obtain⟨o,e',X',he,hq⟩:=lp.out
 rcases hq with⟨rfl,hq,rfl⟩ | ⟨rfl,g4,ht⟩
 ·simp[Cg,-Cda,-Cdb,f163,p1,p2,p3,g0,c0,c0',eq_false a0,eq_true a1,eq_true a2,he,hq,Bf]
 ·simp[Cg,-Cda,-Cdb,f163,p1,p2,p3,g0,c0,c0',eq_false a0,eq_true a1,eq_true a2,he,g4,ht,Bf]
structure EnQ (e:En):Prop where
 key:e.key.length≤1000000
 text:e.text.length≤1000000
 list:e.list.length≤1000
 lists: ∀x∈e.list,x.length≤1000000
 scores:e.scores.length≤1000
 scoress: ∀x∈e.scores,x.1.length≤1000000∧ -2000000000≤x.2∧x.2≤2000000000
 fields:e.fields.length≤1000
 fieldss: ∀x∈e.fields,x.1.length≤1000000∧x.2.length≤1000000
 till:0≤e.till∧e.till≤10000000
 kind:0≤e.kind∧e.kind≤10
theorem EnQ.sm {e:En} (h:EnQ e):EnSm e:=⟨by have:=h.list;omega,by have:=h.scores;omega,by have:=h.fields;omega⟩
theorem Xn {α:Type} {P:α→Prop} {xs:List α} {d:α} (h: ∀x∈xs,P x) (hd:P d) (i:Nat):P (xs.getD i d):=by
 by_cases hi:i<xs.length
 ·exact h _ (Jc hi)
 ·rw[Cda,List.getElem?_eq_none (by omega)];exact hd
theorem EnQ.fit {e:En} (h:EnQ e):EnFit e:=by
 obtain⟨h1,h2,h3,h4,h5,h6,h7,h8,h9,h10⟩:=h
 refine⟨by omega,by omega,by omega, ?_,by omega, ?_,by omega, ?_,⟨by omega,by omega⟩,⟨by omega,by omega⟩⟩
 ·intro i
  have:=Xn (P:=fun x:Br=>x.length≤1000000) h4 (d:=[]) (by simp) i
  omega
 ·intro i
  have:=Xn (P:=fun x:Sc=>x.1.length≤1000000∧ -2000000000≤x.2∧x.2≤2000000000) h6 (d:=([],0)) (by simp) i
  omega
 ·intro i
  have:=Xn (P:=fun x:Pr=>x.1.length≤1000000∧x.2.length≤1000000) h8 (d:=([],[])) (by simp) i
  omega
structure BaG (b:Ba):Prop where
 len:b.ents.length≤12
 each: ∀e∈b.ents,Gl e=true
 now:0≤b.now∧b.now≤2000000
theorem Nr {xs:List Br} (h:Ch xs=true): ∀x∈xs,x.length≤40:=by
 unfold Ch at h
 simp only[Cdv,decide_eq_true_eq,Option.isNone_iff_eq_none] at h
 obtain⟨h1,h2⟩:=h
 intro x hx
 obtain⟨i,hi,rfl⟩:=List.getElem_of_mem hx
 have:=Um h1 i (by omega) (by omega)
 simp only[J7,decide_eq_false_iff_not,Cda,Cdh hi,Cdu] at this
 omega
theorem Qo {p:Nat→Bool} : ∀ {n i:Nat},D9 p n i=false→∀j,i≤j→j<i+n→p j=false
 |0,i,_,j,h1,h2=>by omega
 |n+1,i,h,j,h1,h2=>by
  simp only[D9,Bool.or_eq_false_iff] at h
  by_cases hj:j=i
  ·subst hj;exact h.1
  ·exact Qo h.2 j (by omega) (by omega)
theorem Bmy {p:Nat→Bool} : ∀ {n i:Nat},(∀j,i≤j→j<i+n→p j=false)→D9 p n i=false
 |0,i,_=>rfl
 |n+1,i,h=>by
  simp only[D9,Bool.or_eq_false_iff]
  exact⟨h i (by omega) (by omega),Bmy fun j h1 h2=>h j (by omega) (by omega)⟩
theorem Np {α:Type} {P:α→Prop} {xs:List α} (d:α) (h: ∀i,i<xs.length→P (xs.getD i d)): ∀x∈xs,P x:=by
 intro x hx
 obtain⟨i,hi,rfl⟩:=List.getElem_of_mem hx
 have:=h i hi
 rwa[Cda,Cdh hi,Cdu] at this
theorem Bc1 {xs:List Sc} (h:Dj xs=true):xs.length≤16∧∀x∈xs,x.1.length≤40∧ -1000000000≤x.2∧x.2≤1000000000:=by
 unfold Dj at h
 simp only[Cdv,decide_eq_true_eq,Cdy] at h
 refine⟨h.2,Np ([],0) fun i hi=> ?_⟩
 have:=Qo h.1 i (by omega) (by omega)
 unfold Nj at this
 simp only[Bool.or_eq_false_iff,decide_eq_false_iff_not,Bool.not_eq_false',Cdv,decide_eq_true_eq] at this
 obtain⟨⟨⟨a,b⟩,_⟩,_⟩:=this
 omega
theorem Bbq {xs:List Pr} (h:Dm xs=true):xs.length≤16∧∀x∈xs,x.1.length≤40∧x.2.length≤40:=by
 unfold Dm at h
 simp only[Cdv,decide_eq_true_eq,Cdy] at h
 refine⟨h.2,Np ([],[]) fun i hi=> ?_⟩
 have:=Qo h.1 i (by omega) (by omega)
 unfold Ni at this
 simp only[Bool.or_eq_false_iff,decide_eq_false_iff_not] at this
 obtain⟨⟨a,b⟩,_⟩:=this
 omega
theorem Byf {xs:List Br} (h:Gg xs=true):Ch xs=true:=by
 unfold Gg at h
 simp only[Cdv] at h
 exact h.2
structure EnOkS (e:En):Prop where
 key:1≤e.key.length∧e.key.length≤12
 text:e.text.length≤40
 list:Ch e.list=true
 scores:Dj e.scores=true
 fields:Dm e.fields=true
 till:0≤e.till∧e.till≤2000000
 kind:1≤e.kind∧e.kind≤5
 set:e.kind=3→Gg e.list=true
 t1:e.kind≠1→e.text=[]
 t2:e.kind≠2→e.kind≠3→e.list=[]
 t4:e.kind≠4→e.scores=[]
 t5:e.kind≠5→e.fields=[]
 n2:e.kind=2∨e.kind=3→e.list≠[]
 n4:e.kind=4→e.scores≠[]
 n5:e.kind=5→e.fields≠[]
theorem Td:Ch []=true:=by decide
theorem P6:Dj []=true:=by decide
theorem Px:Dm []=true:=by decide
theorem Bfl {e:En} (h:Gl e=true):EnOkS e:=by
 unfold Gl at h
 simp only[Cdv] at h
 obtain⟨⟨hk,ht⟩,hd⟩:=h
 unfold Gm at hk
 unfold Ff at ht
 simp only[Cdv,decide_eq_true_eq] at hk ht
 have hk1:1≤e.key.length∧e.key.length≤12:=by omega
 obtain⟨key,till,kind,text,list,scores,fields⟩:=e
 dsimp only at*
 unfold Mc at hd
 dsimp only at hd
 split at hd
 ·rename_i k
  simp only[Cdv,decide_eq_true_eq,List.isEmpty_iff] at hd
  obtain⟨⟨⟨a,rfl⟩,rfl⟩,rfl⟩:=hd
  subst k
  exact⟨hk1,a,Td,P6,Px,ht,by simp,by simp,by simp,by simp,by simp,by simp,by simp,by simp,by simp⟩
 split at hd
 ·rename_i k
  simp only[Cdv,Cdy,List.isEmpty_iff,List.isEmpty_eq_false_iff] at hd
  obtain⟨⟨⟨⟨rfl,a⟩,b⟩,rfl⟩,rfl⟩:=hd
  subst k
  exact⟨hk1,by simp,b,P6,Px,ht,by simp,by simp,by simp,by simp,by simp,by simp,fun _=>a,by simp,by simp⟩
 split at hd
 ·rename_i k
  simp only[Cdv,Cdy,List.isEmpty_iff,List.isEmpty_eq_false_iff] at hd
  obtain⟨⟨⟨⟨rfl,a⟩,b⟩,rfl⟩,rfl⟩:=hd
  subst k
  exact⟨hk1,by simp,Byf b,P6,Px,ht,by simp,fun _=>b,by simp,by simp,by simp,by simp,fun _=>a,by simp,by simp⟩
 split at hd
 ·rename_i k
  simp only[Cdv,Cdy,List.isEmpty_iff,List.isEmpty_eq_false_iff] at hd
  obtain⟨⟨⟨⟨rfl,rfl⟩,a⟩,b⟩,rfl⟩:=hd
  subst k
  exact⟨hk1,by simp,Td,b,Px,ht,by simp,by simp,by simp,by simp,by simp,by simp,by simp,fun _=>a,by simp⟩
 split at hd
 ·rename_i k
  simp only[Cdv,Cdy,List.isEmpty_iff,List.isEmpty_eq_false_iff] at hd
  obtain⟨⟨⟨⟨rfl,rfl⟩,rfl⟩,a⟩,b⟩:=hd
  subst k
  exact⟨hk1,by simp,Td,P6,b,ht,by simp,by simp,by simp,by simp,by simp,by simp,by simp,by simp,fun _=>a⟩
 ·simp at hd
theorem Bf4 {xs:List Br} (h:Ch xs=true):xs.length≤16:=Bk4 h
theorem EnOkS.q {e:En} (h:EnOkS e):EnQ e:=by
 obtain⟨h1,h2,h3,h4,h5,h6,h7,_,_,_,_,_,_,_,_⟩:=h
 have a:=Nr h3
 have b:=Bf4 h3
 have c:=Bc1 h4
 have d:=Bbq h5
 refine⟨by omega,by omega,by omega,fun x hx=> ?_,by omega,fun x hx=> ?_,by omega,fun x hx=> ?_,by omega,by omega⟩
 ·have:=a x hx;omega
 ·have:=c.2 x hx;omega
 ·have:=d.2 x hx;omega
theorem Bbc {e:En} (h:Gl e=true):EnQ e:=(Bfl h).q
theorem BaG.sm {b:Ba} (h:BaG b):BaSm b:=⟨by have:=h.len;omega,fun e he=> (Bbc (h.each e he)).sm⟩
theorem BaG.fit {b:Ba} (h:BaG b):BaFit b:=⟨by have:=h.now;exact⟨by omega,by omega⟩,by have:=h.len;omega,fun e he=> (Bbc (h.each e he)).fit⟩
theorem Bnu {b:Ba} (h:BaG b) (t:Br):Gl (Bz b t)=true∨Bz b t=⟨t,0,0,[],[],[],[]⟩:=by
 unfold Bz
 split
 ·rename_i hh
  exact .inl (h.each _ (Jc (Ls hh)))
 ·exact .inr rfl
theorem Dn {b:Ba} (h:BaG b) {t:Br} (ht:t.length≤1000000):EnQ (Bz b t):=by
 rcases Bnu h t with a|a
 ·exact Bbc a
 ·rw[a]
  exact⟨ht,by simp,by simp,by simp,by simp,by simp,by simp,by simp,by simp,by simp⟩
theorem Tf {b:Ba} (h:BaG b) (t:Br):BaG (Ga b t):=⟨Nat.le_trans (X3 b t) h.len,fun e he=>h.each e (Bir he),by rw[X4];exact h.now⟩
theorem Beh {α:Type} {xs:List α} {k:Nat} {x y:α} (h:y∈Jr xs k x):y=x∨y∈xs:=by
 unfold Jr at h
 rw[List.mem_append,Cdj] at h
 rcases h with h|h|h
 ·exact .inr (List.mem_of_mem_take h)
 ·exact .inl h
 ·exact .inr (List.mem_of_mem_drop h)
theorem Bnv {b:Ba} (h:BaG b) (e:En):BaG (P5 b e).1:=by
 unfold P5
 split
 ·exact Tf h e.key
 ·split
  ·rename_i h1
   unfold Y3 at h1
   simp only[Cdv,decide_eq_true_eq] at h1
   obtain⟨⟨h1,_⟩,h2⟩:=h1
   refine⟨?_,fun x hx=> ?_,h.now⟩
   ·rw[Ke];omega
   ·rcases Beh hx with rfl|hx
    ·exact h1
    ·exact(Tf h e.key).each x hx
  ·exact h
theorem Gw {b:Ba} (h:BaG b) (e:En) (r:Re):BaG (Fe b e r).1:=by
 unfold Fe
 split
 ·exact Bnv h e
 ·exact h
def Cs (n:Int):Re:= .mk 2 n [] [] []
def K8 (s:Br):Re:= .mk 3 0 s [] []
def Nb:Re:= .mk 4 0 [] [] []
def Je (xs:List Br):Re:= .mk 5 0 [] xs []
def Sa:Re:= .mk 0 0 [] [] []
def Bo (p:Ba×Re):V:= .tup [.d (Df p.1), .d (Qy p.2)]
def Cz (e:En) (s:Br):En:=⟨e.key,e.till,1,s,e.list,e.scores,e.fields⟩
def Btj (b:Ba) (k:Br):Ba×Re:=(b,if(Bz b k).kind=1 then K8 (Bz b k).text else Nb)
def X7 (b:Ba) (k:Br):Ba×Re:=(b,Cs (Bz b k).text.length)
def Bp0 (b:Ba) (k t:Br):Ba×Re:=Fe b ⟨k,0,1,t,[],[],[]⟩ Sa
def Ug (b:Ba) (k t:Br):Ba×Re:=if 40< ((Bz b k).text++t).length then(b,Di [108,111,110,103]) else Fe b (Cz (Bz b k) ((Bz b k).text++t)) (Cs ((Bz b k).text++t).length)
def Byj (s:Br) (f t:Int):Br:=(s.take (J2 s.length f t).2.toNat).drop (J2 s.length f t).1.toNat
def Ny (b:Ba) (k f t:Br):Ba×Re:=if(Dw f).2=true∧(Dw t).2=true then(b,K8 (Byj (Bz b k).text (Dw f).1 (Dw t).1)) else(b,Di [110,117,109,98,101,114])
def Bcm (b:Ba) (k y:Br):Ba×Re:=if(Yj (Bz b k).text (decide ((Bz b k).kind=1)) y).2=true then Fe b (Cz (Bz b k) (Qp (Yj (Bz b k).text (decide ((Bz b k).kind=1)) y).1)) (Cs (Yj (Bz b k).text (decide ((Bz b k).kind=1)) y).1) else(b,Di [110,117,109,98,101,114])
theorem Bpj (b:Ba) (k:Br) (hb:BaG b) (hk:k.length≤40):Be (ev R) 166 [.d (Df b), .d (Bf [[71,69,84],k])]=some (Bo (Btj b k)):=Bb fun H=>by
 refine Bh (fn:=f166) rfl rfl ?_
 have p1:=Gv b k hb.sm
 unfold Btj
 generalize Bz b k=e at*
 have p2:=Gh
 have p3:=Ben e.text
 by_cases a:e.kind=1
 ·simp(maxSteps:=1000000) [Ci,-Cda,-Cdb,f166,p1,p2,p3,eq_true a,Bo,K8,Nb]
 ·simp(maxSteps:=1000000) [Ci,-Cda,-Cdb,f166,p1,p2,p3,eq_false a,Bo,K8,Nb]
theorem Bf8 (b:Ba) (k:Br) (hb:BaG b) (hk:k.length≤40):Be (ev R) 166 [.d (Df b), .d (Bf [[83,84,82,76,69,78],k])]=some (Bo (X7 b k)):=Bb fun H=>by
 refine Bh (fn:=f166) rfl rfl ?_
 have p1:=Gv b k hb.sm
 unfold X7
 generalize Bz b k=e at*
 have p2:=Jf e.text.length
 simp(maxSteps:=1000000) [Ci,-Cda,-Cdb,f166,p1,p2,Bo,Cs]
theorem Bpk (b:Ba) (k t:Br) (hb:BaG b) (hk:k.length≤40) (ht:t.length≤40):Be (ev R) 166 [.d (Df b), .d (Bf [[83,69,84],k,t])]=some (Bo (Bp0 b k t)):=Bb fun H=>by
 refine Bh (fn:=f166) rfl rfl ?_
 have p1:=Gv b k hb.sm
 unfold Bp0
 have q:EnQ ⟨k,0,1,t,[],[],[]⟩:=⟨by simp;omega,by simp;omega,by simp,by simp,by simp,by simp,by simp,by simp,by simp,by simp⟩
 have p2:=Kt b ⟨k,0,1,t,[],[],[]⟩ Sa hb.sm q.sm q.fit
 generalize Fe b ⟨k,0,1,t,[],[],[]⟩ Sa=P at*
 unfold Sa at p2
 simp(maxSteps:=1000000) [Ci,-Cda,-Cdb,f166,p1,p2,Bo]
theorem Bf6 (b:Ba) (k t:Br) (hb:BaG b) (hk:k.length≤40) (ht:t.length≤40):Be (ev R) 166 [.d (Df b), .d (Bf [[65,80,80,69,78,68],k,t])]=some (Bo (Ug b k t)):=Bb fun H=>by
 refine Bh (fn:=f166) rfl rfl ?_
 have p1:=Gv b k hb.sm
 have q:=Dn hb (t:=k) (by omega)
 unfold Ug
 have p4:=Bu [108,111,110,103]
 generalize Bz b k=e at*
 obtain⟨key,till,kind,text,list,scores,fields⟩:=e
 obtain⟨q1,q2,q3,q4,q5,q6,q7,q8,q9,q10⟩:=q
 dsimp only[Cz] at*
 have r:text.length+t.length≤Kl:=by unfold Kl;omega
 by_cases a:40< (text++t).length
 ·have a': (40:Int)< (text.length:Int)+(t.length:Int):=by rw[Cdi] at a;omega
  rw[if_pos a]
  simp(maxSteps:=1000000) [Ci,-Cda,-Cdb,f166,p1,p4,a',r,Bo,Di]
 ·have a': ¬ (40:Int)< (text.length:Int)+(t.length:Int):=by rw[Cdi] at a;omega
  rw[if_neg a]
  have q:EnQ ⟨key,till,1,text++t,list,scores,fields⟩:=⟨q1,by dsimp only;omega,q3,q4,q5,q6,q7,q8,q9,by dsimp only;omega⟩
  have p2:=Jf ((text.length:Int)+(t.length:Int))
  have p3:=Kt b _ (Cs (text++t).length) hb.sm q.sm q.fit
  generalize Fe b ⟨key,till,1,text++t,list,scores,fields⟩ (Cs (text++t).length)=P at*
  have hc: (((text++t).length:Nat):Int)=(text.length:Int)+(t.length:Int):=by rw[Cdi];omega
  rw[hc] at p3
  unfold Cs at p3
  simp(maxSteps:=1000000) [Ci,-Cda,-Cdb,f166,p1,p2,p3,a',r,Bo]
theorem Bcg (b:Ba) (k f t:Br) (hb:BaG b) (hk:k.length≤40) (hf:f.length≤40) (ht:t.length≤40):Be (ev R) 166 [.d (Df b), .d (Bf [[71,69,84,82,65,78,71,69],k,f,t])]=some (Bo (Ny b k f t)):=Bb fun H=>by
 refine Bh (fn:=f166) rfl rfl ?_
 have p1:=Gv b k hb.sm
 have q:=Dn hb (t:=k) (by omega)
 unfold Ny
 have p2:=Md f (by omega)
 have p3:=Md t (by omega)
 have i2:=Jd f
 have i3:=Jd t
 have p4:=Bu [110,117,109,98,101,114]
 generalize Bz b k=e at*
 generalize Dw f=F at*
 generalize Dw t=T at*
 obtain⟨m,mo⟩:=F
 obtain⟨n,no⟩:=T
 dsimp only at*
 have p5:=Bs6 e.text.length m n (by have:=q.text;omega) i2 i3
 obtain⟨b1,b2,b3⟩:=Bbd e.text.length m n
 have hr:Byj e.text m n=((e.text.take (J2 e.text.length m n).2.toNat).drop (J2 e.text.length m n).1.toNat):=rfl
 have p6:=Ben (Byj e.text m n)
 generalize(J2 e.text.length m n).1=x at*
 generalize(J2 e.text.length m n).2=y at*
 obtain⟨A,rfl⟩: ∃A:Nat,x=(A:Int):=⟨x.toNat,by omega⟩
 obtain⟨B,rfl⟩: ∃B:Nat,y=(B:Int):=⟨y.toNat,by omega⟩
 simp only[Int.toNat_natCast] at hr
 have hr:=hr.symm
 generalize Byj e.text m n=S at*
 have b4: (0:Int)≤(B:Int):=by omega
 have b5:A≤B:=by omega
 have b6:B≤e.text.length:=by omega
 cases mo<;>cases no
 ·simp(maxSteps:=1000000) [Ci,-Cda,-Cdb,f166,p1,p2,p3,p4,Bo,Di]
 ·simp(maxSteps:=1000000) [Ci,-Cda,-Cdb,f166,p1,p2,p3,p4,Bo,Di]
 ·simp(maxSteps:=1000000) [Ci,-Cda,-Cdb,f166,p1,p2,p3,p4,Bo,Di]
 ·simp(maxSteps:=1000000) [Ci,-Cda,-Cdb,f166,p1,p2,p3,p5,p6,b1,b2,b3,b4,b5,b6,hr,Bo,K8]
theorem Sl: ∀ (k n:Nat),n<10 ^ (k+1)→(Sk n).length≤k+1
 |0,n,h=>by
  rw[Sk];split
  ·simp
  ·omega
 |k+1,n,h=>by
  rw[Sk];split
  ·simp
  ·have:=Sl k (n / 10) (by rw[Nat.pow_succ] at h;omega)
   rw[Cdi];simp;omega
theorem Bbb (z:Int) (h: -1000000000≤z∧z≤1000000000): (Qp z).length≤1000000:=by
 unfold Qp
 split
 ·have:=Sl 9 z.natAbs (by omega)
  rw[Cdc];omega
 ·have:=Sl 9 z.toNat (by omega)
  omega
theorem Bxw (z:Int) (h: -1000000000≤z∧z≤1000000000):Be (ev R) 68 [.d (.int .i64 z)]=some (.d (.str (Qp z))):=Bb fun H=>B3g H z h
theorem Bfc (t:Br) (th:Bool) (y:Br): -1000000000≤(Yj t th y).1∧(Yj t th y).1≤1000000000:=by
 unfold Yj
 split
 ·dsimp only;omega
 ·by_cases h: (Dw y).2=true∧ -1000000000≤(if th=true then(Dw t).1 else 0)+(Dw y).1∧(if th=true then(Dw t).1 else 0)+(Dw y).1≤1000000000
  ·rw[if_pos h];exact⟨h.2.1,h.2.2⟩
  ·rw[if_neg h];dsimp only;omega
theorem Bla (b:Ba) (k:Br) (hb:BaG b) (hk:k.length≤40):Be (ev R) 166 [.d (Df b), .d (Bf [[73,78,67,82],k])]=some (Bo (Bcm b k [49])):=Bb fun H=>by
 refine Bh (fn:=f166) rfl rfl ?_
 have p1:=Gv b k hb.sm
 have q:=Dn hb (t:=k) (by omega)
 unfold Bcm
 have p4:=Bu [110,117,109,98,101,114]
 generalize Bz b k=e at*
 obtain⟨key,till,kind,text,list,scores,fields⟩:=e
 obtain⟨q1,q2,q3,q4,q5,q6,q7,q8,q9,q10⟩:=q
 dsimp only[Cz] at*
 have p5:=Bs7 text (decide (kind=1)) [49] q2 (by decide)
 have ai:=Bfc text (decide (kind=1)) [49]
 generalize Yj text (decide (kind=1)) [49]=A at*
 obtain⟨a,ao⟩:=A
 dsimp only at*
 have p6:=Bxw a ai
 have dl:=Bbb a ai
 have q:EnQ ⟨key,till,1,Qp a,list,scores,fields⟩:=⟨q1,dl,q3,q4,q5,q6,q7,q8,q9,by dsimp only;omega⟩
 have p2:=Jf a
 have p3:=Kt b _ (Cs a) hb.sm q.sm q.fit
 generalize Fe b ⟨key,till,1,Qp a,list,scores,fields⟩ (Cs a)=P at*
 unfold Cs at p3
 cases ao
 ·simp(maxSteps:=1000000) [Ci,-Cda,-Cdb,f166,p1,p5,p4,Bo,Di]
 ·simp(maxSteps:=1000000) [Ci,-Cda,-Cdb,f166,p1,p5,p6,p2,p3,Bo]
theorem Bf7 (b:Ba) (k y:Br) (hb:BaG b) (hk:k.length≤40) (hy:y.length≤40):Be (ev R) 166 [.d (Df b), .d (Bf [[73,78,67,82,66,89],k,y])]=some (Bo (Bcm b k y)):=Bb fun H=>by
 refine Bh (fn:=f166) rfl rfl ?_
 have p1:=Gv b k hb.sm
 have q:=Dn hb (t:=k) (by omega)
 unfold Bcm
 have p4:=Bu [110,117,109,98,101,114]
 generalize Bz b k=e at*
 obtain⟨key,till,kind,text,list,scores,fields⟩:=e
 obtain⟨q1,q2,q3,q4,q5,q6,q7,q8,q9,q10⟩:=q
 dsimp only[Cz] at*
 have p5:=Bs7 text (decide (kind=1)) y q2 (by omega)
 have ai:=Bfc text (decide (kind=1)) y
 generalize Yj text (decide (kind=1)) y=A at*
 obtain⟨a,ao⟩:=A
 dsimp only at*
 have p6:=Bxw a ai
 have dl:=Bbb a ai
 have q:EnQ ⟨key,till,1,Qp a,list,scores,fields⟩:=⟨q1,dl,q3,q4,q5,q6,q7,q8,q9,by dsimp only;omega⟩
 have p2:=Jf a
 have p3:=Kt b _ (Cs a) hb.sm q.sm q.fit
 generalize Fe b ⟨key,till,1,Qp a,list,scores,fields⟩ (Cs a)=P at*
 unfold Cs at p3
 cases ao
 ·simp(maxSteps:=1000000) [Ci,-Cda,-Cdb,f166,p1,p5,p4,Bo,Di]
 ·simp(maxSteps:=1000000) [Ci,-Cda,-Cdb,f166,p1,p5,p6,p2,p3,Bo]
end Go.Proofs.YtpajcoanfkeibaaGreatDoor.Code

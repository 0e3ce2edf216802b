/- Lemmas (several texts in one). -/
import Derived.Test.YtpajcoanfkeibaaGreatDoorMDoSet6
import Derived.Test.YtpajcoanfkeibaaGreatDoorMDoSet9
import Derived.Test.YtpajcoanfkeibaaGreatDoorMDoSet11
import Derived.Test.YtpajcoanfkeibaaGreatDoorMDoSet19
set_option maxRecDepth 100000
set_option maxHeartbeats 2000000
set_option linter.unusedSimpArgs false
set_option linter.unusedVariables false
namespace Go.Proofs.YtpajcoanfkeibaaGreatDoor.Code
open Go Go.Ev Go.Proofs
theorem Bb5 {xs:List Bq} (h:Pv xs=true):1≤xs.length∧xs.length≤8:=by
 have:=(Wm xs).1 h
 exact this.2
theorem Bhu {xs:List Bq} (h:Pv xs=true): ∀x∈xs,x.length≤40:=((Wm xs).1 h).1
theorem B6g (xs:List Bq) (hx:xs.length≤9223372036854775807):Bc (ev R) 252 [.d (Bf xs)]=some (.d (.bool (Pv xs))):=Bb fun H=>B2t H xs hx
theorem B97 (s:Bq):Bc (ev R) 59 [.d (.str s)]=some (.d (.bool (F7 s))):=Bb fun H=>Bg3 H s
theorem Bww {α:Type} {P:α→Prop} {c:Prop} [Decidable c] {a b:α} (ha:P a) (hb:P b):P (if c then a else b):=by split<;>assumption
def Bq3 (x:Int×Int×Int):Prop:=0≤x.1∧x.1≤4∧x.2.1≤8∧0≤x.2.2∧x.2.2≤5
theorem Bvl (w:Bq):Bq3 (Bi w):=by
 unfold Bi
 repeat (refine Bww (P:=Bq3) ⟨by decide,by decide,by decide,by decide,by decide⟩ ?_)
 exact⟨by decide,by decide,by decide,by decide,by decide⟩
def Qk:List Bq:=[[83,73,78,84,69,82],[83,85,78,73,79,78],[83,68,73,70,70],[82,69,78,65,77,69]]
theorem B05 {w:Bq} (h:w∈Qk): (Bi w).1=3:=by
 simp only[Qk,List.mem_cons,List.not_mem_nil,or_false] at h
 rcases h with rfl|rfl|rfl|rfl<;>rfl
def Bbs (args:List Bq):List Bq:=
 if Pv args=true then
  if(Bi (args.getD 0 [])).1=0∨¬ ((Bi (args.getD 0 [])).1≤(args.length:Int)∧(args.length:Int)≤(Bi (args.getD 0 [])).2.1)∨(Bi (args.getD 0 [])).1=1∨args.getD 0 []=[75,69,89,83] then[] else
  if args.getD 0 []=[68,69,76]∨args.getD 0 []=[69,88,73,83,84,83] then args.drop 1 else
  if args.getD 0 []∈Qk then[args.getD 1 [],args.getD 2 []] else[args.getD 1 []]
 else[]
theorem B5y (args:List Bq) (hx:args.length≤1000000):Bc (ev R) 198 [.d (Bf args)]=some (.d (Bf (Bbs args))):=Bb fun H=>by
 refine Bh (fn:=f198) rfl rfl ?_
 have p0:=B6g args (by omega)
 unfold Bbs
 cases h0:Pv args with
 |false=>rw[h0] at p0;simp[Ch,-List.getD_eq_getElem?_getD,-List.map_map,f198,p0,Bf]
 |true=>
  rw[h0] at p0
  have hl:=Bb5 h0
  clear h0
  obtain⟨w,r,rfl⟩: ∃w r,args=w::r:=by
   cases args with
   |nil=>simp at hl
   |cons w r=>exact⟨w,r,rfl⟩
  have e0: (w::r).getD 0 []=w:=rfl
  have e1: (w::r).length=r.length+1:=rfl
  have e2: ((w::r).length:Int)=(r.length:Int)+1:=by rw[e1];omega
  rw[e0,e2]
  rw[e1] at hl
  simp only[Bf,List.map_cons] at p0
  have p1:=Fe w
  have wi:=Bvl w
  have wt:=fun h:w∈Qk=>B05 h
  have p3:=Bh9 Qk w (by decide)
  have hge: ∀lo:Int,0≤lo→¬lo=0→¬lo=1→lo≤(r.length:Int)+1→1≤r.length:=fun lo a b c d=>by omega
  generalize Bi w=W at*
  obtain⟨lo,hi,kd⟩:=W
  have p2:=P8 ((r.length:Int)+1) lo hi
  dsimp only at*
  by_cases a0:lo=0
  ·simp(maxSteps:=1000000) [Ca,-List.getD_eq_getElem?_getD,-List.map_map,f198,p0,p1,eq_true a0,Bf]
  by_cases a1:lo≤(r.length:Int)+1
  rotate_left
  ·simp(maxSteps:=1000000) [Ca,-List.getD_eq_getElem?_getD,-List.map_map,f198,p0,p1,p2,eq_false a0,eq_false a1,Bf]
  by_cases a2: (r.length:Int)+1≤hi
  rotate_left
  ·simp(maxSteps:=1000000) [Ca,-List.getD_eq_getElem?_getD,-List.map_map,f198,p0,p1,p2,eq_false a0,eq_true a1,eq_false a2,Bf]
  by_cases a3:lo=1
  ·simp(maxSteps:=1000000) [Ca,-List.getD_eq_getElem?_getD,-List.map_map,f198,p0,p1,p2,eq_false a0,eq_true a1,eq_true a2,eq_true a3,Bf]
  have hr:=hge lo wi.1 a0 a3 a1
  obtain⟨k,r',rfl⟩: ∃k r',r=k::r':=by
   cases r with
   |nil=>simp at hr
   |cons w r=>exact⟨w,r,rfl⟩
  have f2: (((k::r').length:Nat):Int)=(r'.length:Int)+1:=by rw[List.length_cons];omega
  have f1: (k::r').length=r'.length+1:=rfl
  rw[f2] at a1 a2 p2
  rw[f1] at hl
  clear hge
  have q1:=Bdf (k::r') (by rw[f1];omega)
  have q1n:=U1 (k::r') (by rw[f1];omega)
  simp only[Bf,List.map_cons] at p0 q1 q1n
  have b1: (1:Int)≤(r'.length:Int)+1+1:=by omega
  have b0: (0:Int)≤(r'.length:Int)+1+1:=by omega
  have b00: (0:Int)< (r'.length:Int)+1+1:=by omega
  have b2: (1:Int)< (r'.length:Int)+1+1:=by omega
  by_cases a4:w=[75,69,89,83]
  ·simp(maxSteps:=1000000) [Ca,-List.getD_eq_getElem?_getD,-List.map_map,f198,p0,p1,p2,eq_false a0,eq_true a1,eq_true a2,eq_false a3,eq_true a4,b0,b00,b1,b2,Bf]
  by_cases a5:w=[68,69,76]
  ·simp(maxSteps:=1000000) [Ca,-List.getD_eq_getElem?_getD,-List.map_map,f198,p0,p1,p2,q1,q1n,eq_false a0,eq_true a1,eq_true a2,eq_false a3,eq_false a4,eq_true a5,b0,b00,b1,b2,Bf]
  by_cases a6:w=[69,88,73,83,84,83]
  ·simp(maxSteps:=1000000) [Ca,-List.getD_eq_getElem?_getD,-List.map_map,f198,p0,p1,p2,q1,q1n,eq_false a0,eq_true a1,eq_true a2,eq_false a3,eq_false a4,eq_false a5,eq_true a6,b0,b00,b1,b2,Bf]
  by_cases a7:w∈Qk
  ·have:=wt a7
   subst this
   obtain⟨k2,r2,rfl⟩: ∃k2 r2,r'=k2::r2:=by
    cases r' with
    |nil=>simp at a1
    |cons w r=>exact⟨w,r,rfl⟩
   have q2:=Bdf [k,k2] (by simp)
   have q2n:=U1 [k,k2] (by simp)
   rw[decide_eq_true a7] at p3
   simp only[Qk,Bf,List.map_cons,List.map_nil] at p0 p3 q2 q2n
   have g2: (((k2::r2).length:Nat):Int)=(r2.length:Int)+1:=by rw[List.length_cons];omega
   rw[g2] at a1 a2 p2 b0 b00 b1 b2
   have b3: (3:Int)≤(r2.length:Int)+1+1+1:=by omega
   simp(maxSteps:=1000000) [Ca,-List.getD_eq_getElem?_getD,-List.map_map,f198,p0,p1,p2,p3,q2,q2n,eq_false a0,eq_true a1,eq_true a2,eq_false a3,eq_false a4,eq_false a5,eq_false a6,eq_true a7,b0,b00,b1,b2,b3,Bf]
  ·rw[decide_eq_false a7] at p3
   simp only[Qk,Bf,List.map_cons,List.map_nil] at p3
   simp(maxSteps:=1000000) [Ca,-List.getD_eq_getElem?_getD,-List.map_map,f198,p0,p1,p2,p3,eq_false a0,eq_true a1,eq_true a2,eq_false a3,eq_false a4,eq_false a5,eq_false a6,eq_false a7,b0,b00,b1,b2,Bf]
def Yg (t:Bq) (there:Bool) (by':Bq):Int×Bool:=
 if there=true∧(Fb t).2=false then(0,false) else
 if(Fb by').2=true∧ -1000000000≤(if there=true then(Fb t).1 else 0)+(Fb by').1∧(if there=true then(Fb t).1 else 0)+(Fb by').1≤1000000000 then((if there=true then(Fb t).1 else 0)+(Fb by').1,true) else(0,false)
theorem Jq (t:Bq): -1000000000≤(Fb t).1∧(Fb t).1≤1000000000:=by
 unfold Fb
 repeat' split
 all_goals (dsimp only;omega)
theorem Ml (s:Bq) (hs:s.length≤1000000):Bc (ev R) 203 [.d (.str s)]=some (.tup [.d (.int .i64 (Fb s).1), .d (.bool (Fb s).2)]):=Bb fun H=>B2m H s (by omega)
theorem Bsq (t:Bq) (there:Bool) (y:Bq) (ht:t.length≤1000000) (hy:y.length≤1000000):Bc (ev R) 205 [.d (.str t), .d (.bool there), .d (.str y)]=some (.tup [.d (.int .i64 (Yg t there y).1), .d (.bool (Yg t there y).2)]):=Bb fun H=>by
 refine Bh (fn:=f205) rfl rfl ?_
 have p1:=Ml t ht
 have p2:=Ml y hy
 have i1:=Jq t
 have i2:=Jq y
 unfold Yg
 generalize Fb t=T at*
 generalize Fb y=Y at*
 obtain⟨m,mo⟩:=T
 obtain⟨n,no⟩:=Y
 dsimp only at*
 have w:IntKind.i64.wrap (m+n)=m+n:=IntWalk.i64_in _ (by omega)
 have w0:IntKind.i64.wrap (0+n)=n:=by rw[IntWalk.i64_in _ (by omega)];omega
 have w1:IntKind.i64.wrap n=n:=IntWalk.i64_in _ (by omega)
 have p3:=P8 (m+n) (-1000000000) 1000000000
 have p4:=P8 n (-1000000000) 1000000000
 cases there<;>cases mo<;>cases no
 all_goals try (simp[Ch,-List.getD_eq_getElem?_getD,-List.map_map,f205,p1,p2];done)
 ·have a: -1000000000≤n:=by omega
  have b:n≤1000000000:=by omega
  simp[Ch,-List.getD_eq_getElem?_getD,-List.map_map,f205,p1,p2,p4,w,w0,w1,a,b]
 ·have a: -1000000000≤n:=by omega
  have b:n≤1000000000:=by omega
  simp[Ch,-List.getD_eq_getElem?_getD,-List.map_map,f205,p1,p2,p4,w,w0,w1,a,b]
 ·by_cases a: -1000000000≤m+n
  ·by_cases b:m+n≤1000000000
   ·simp[Ch,-List.getD_eq_getElem?_getD,-List.map_map,f205,p1,p2,p3,w,w0,w1,eq_true a,eq_true b]
   ·simp[Ch,-List.getD_eq_getElem?_getD,-List.map_map,f205,p1,p2,p3,w,w0,w1,eq_true a,eq_false b]
  ·simp[Ch,-List.getD_eq_getElem?_getD,-List.map_map,f205,p1,p2,p3,w,w0,w1,eq_false a]
def Bj0 (b:Ba) (kind:Int) (k:Bq):Bq:=if F7 k=false then[107,101,121] else if kind≠0∧(Bz b k).kind≠0∧(Bz b k).kind≠kind then[107,105,110,100] else[]
def Lf (b:Ba) (kind:Int):List Bq→Bq
 | []=> []
 |k::r=>if Bj0 b kind k=[] then Lf b kind r else Bj0 b kind k
def Cr (b:Ba) (args:List Bq):Bq:=
 if(Bi (args.getD 0 [])).1=0 then[117,110,107,110,111,119,110] else
 if ¬ ((Bi (args.getD 0 [])).1≤(args.length:Int)∧(args.length:Int)≤(Bi (args.getD 0 [])).2.1) then[119,111,114,100,115] else
 Lf b (Bi (args.getD 0 [])).2.2 (Bbs args)
theorem Bov (args:List Bq): (Bbs args).length≤args.length+2:=by
 unfold Bbs
 repeat' split
 all_goals (simp only[List.length_nil,List.length_cons,List.length_drop];omega)
theorem Bg2 {α:Type} (xs:List α) (i:Nat) (d:α) (h:i<xs.length):xs.drop i=xs.getD i d::xs.drop (i+1):=by
 rw[List.drop_eq_getElem_cons h]
 simp[List.getD_eq_getElem?_getD,h]
theorem B26 (H:Hp) (b:Ba) (kd:Int) (ks:List Bq) (hk:ks.length≤1000000) (hb:BaSm b):
  Gives (fun o e X=> (o= .exit 1∧Lf b kd ks=[]∧X=ap H [.row 0 2 [.d (Db b)]])∨(o= .ret∧e.get 4= .d (.str (Lf b kd ks))∧C8 X (Be H)=H)) (Bg (Bp (ev R) R.glob (Be H) Bg Rp) [2,7,8,9] ⟨[(2, .ptr (Be H) 0 0 0),(7, .d (.int .i64 kd)),(8, .d (Bf ks)),(9, .d (.int .i64 0))],ap H [.row 0 2 [.d (Db b)]]⟩):=by
 refine Di (F:=Bp (ev R) R.glob (Be H) Bg Rp) (lv:=[2,7,8,9]) ks.length
  (fun i e X=>X=ap H [.row 0 2 [.d (Db b)]]∧e.get 2= .ptr (Be H) 0 0 0∧e.get 7= .d (.int .i64 kd)∧e.get 8= .d (Bf ks)∧e.get 9= .d (.int .i64 i)∧Lf b kd ks=Lf b kd (ks.drop i))
  _ ?_ ?_ ks.length 0 _ _ (by omega) ⟨rfl,rfl,rfl,rfl,rfl,rfl⟩
 ·rintro e X ⟨rfl,g2,g7,g8,g9,hr⟩
  rw[List.drop_length] at hr
  have hr:Lf b kd ks=[]:=hr
  simp[Ch,-List.getD_eq_getElem?_getD,-List.map_map,Rp,g2,g7,g8,g9,hr,Bf]
 ·rintro i e X hi ⟨rfl,g2,g7,g8,g9,hr⟩
  have c: (i:Int)< (ks.length:Int):=by omega
  have g:=Dt ks i hi
  rw[Bg2 ks i [] hi] at hr
  simp only[Lf] at hr
  have p1:=B97 (ks.getD i [])
  have p2:=Jd b (ks.getD i []) hb
  have w1:IntKind.i64.wrap ((i:Int)+1)=((i+1:Nat):Int):=by rw[IntWalk.i64_in _ (by omega)];rfl
  unfold Bj0 at hr
  generalize ks.getD i []=k at*
  cases h1:F7 k with
  |false=>
   rw[h1] at p1 hr
   have hr:Lf b kd ks=[107,101,121]:=hr
   simp[Ch,-List.getD_eq_getElem?_getD,-List.map_map,Rp,g2,g7,g8,g9,c,g,hi,p1,hr,Bf]
  |true=>
   rw[h1] at p1 hr
   generalize Bz b k=E at*
   by_cases a1:kd=0
   ·have hr:Lf b kd ks=Lf b kd (ks.drop (i+1)):=by simpa[a1] using hr
    simp[Ch,-List.getD_eq_getElem?_getD,-List.map_map,Rp,g2,g7,g8,g9,c,g,hi,p1,p2,eq_true a1,w1,eq_true hr,Bf]
   ·by_cases a2:E.kind=0
    ·have hr:Lf b kd ks=Lf b kd (ks.drop (i+1)):=by simpa[a1,a2] using hr
     simp[Ch,-List.getD_eq_getElem?_getD,-List.map_map,Rp,g2,g7,g8,g9,c,g,hi,p1,p2,eq_false a1,eq_true a2,w1,eq_true hr,Bf]
    ·by_cases a3:E.kind=kd
     ·have hr:Lf b kd ks=Lf b kd (ks.drop (i+1)):=by simpa[a1,a2,a3] using hr
      simp[Ch,-List.getD_eq_getElem?_getD,-List.map_map,Rp,g2,g7,g8,g9,c,g,hi,p1,p2,eq_false a1,eq_false a2,eq_true a3,w1,eq_true hr,Bf]
     ·have hr:Lf b kd ks=[107,105,110,100]:=by simpa[a1,a2,a3] using hr
      simp[Ch,-List.getD_eq_getElem?_getD,-List.map_map,Rp,g2,g7,g8,g9,c,g,hi,p1,p2,eq_false a1,eq_false a2,eq_false a3,w1,hr,Bf]
theorem Fj (b:Ba) (args:List Bq) (hb:BaSm b) (hx:args.length≤1000) (h1:1≤args.length):Bc (ev R) 163 [.d (Db b), .d (Bf args)]=some (.d (.str (Cr b args))):=Bb fun H=>by
 refine Bh (fn:=f163) rfl rfl ?_
 have hkl:=Bov args
 have p1:=Fe (args.getD 0 [])
 have p3:=B5y args (by omega)
 have g0:=Dt args 0 (by omega)
 have c0: (0:Int)< (args.length:Int):=by omega
 have c0':0<args.length:=by omega
 have lp:=B26 H b (Bi (args.getD 0 [])).2.2 (Bbs args) (by omega) hb
 have p2:=P8 (args.length:Int) (Bi (args.getD 0 [])).1 (Bi (args.getD 0 [])).2.1
 unfold Cr
 generalize Bbs args=ks at*
 generalize args.getD 0 []=w at*
 generalize Bi w=W at*
 obtain⟨lo,hi,kd⟩:=W
 dsimp only at*
 by_cases a0:lo=0
 ·simp[Ch,-List.getD_eq_getElem?_getD,-List.map_map,f163,p1,g0,c0,c0',eq_true a0,Bf]
 by_cases a1:lo≤(args.length:Int)
 rotate_left
 ·simp[Ch,-List.getD_eq_getElem?_getD,-List.map_map,f163,p1,p2,g0,c0,c0',eq_false a0,eq_false a1,Bf]
 by_cases a2: (args.length:Int)≤hi
 rotate_left
 ·simp[Ch,-List.getD_eq_getElem?_getD,-List.map_map,f163,p1,p2,g0,c0,c0',eq_false a0,eq_true a1,eq_false a2,Bf]
 obtain⟨o,e',X',he,hq⟩:=lp.out
 rcases hq with⟨rfl,hq,rfl⟩ | ⟨rfl,g4,ht⟩
 ·simp[Ch,-List.getD_eq_getElem?_getD,-List.map_map,f163,p1,p2,p3,g0,c0,c0',eq_false a0,eq_true a1,eq_true a2,he,hq,Bf]
 ·simp[Ch,-List.getD_eq_getElem?_getD,-List.map_map,f163,p1,p2,p3,g0,c0,c0',eq_false a0,eq_true a1,eq_true a2,he,g4,ht,Bf]
structure EnQ (e:En):Prop where
 key:e.key.length≤1000000
 text:e.text.length≤1000000
 list:e.list.length≤1000
 lists: ∀x∈e.list,x.length≤1000000
 scores:e.scores.length≤1000
 scoress: ∀x∈e.scores,x.1.length≤1000000∧ -2000000000≤x.2∧x.2≤2000000000
 fields:e.fields.length≤1000
 fieldss: ∀x∈e.fields,x.1.length≤1000000∧x.2.length≤1000000
 till:0≤e.till∧e.till≤10000000
 kind:0≤e.kind∧e.kind≤10
theorem EnQ.sm {e:En} (h:EnQ e):EnSm e:=⟨by have:=h.list;omega,by have:=h.scores;omega,by have:=h.fields;omega⟩
theorem Xo {α:Type} {P:α→Prop} {xs:List α} {d:α} (h: ∀x∈xs,P x) (hd:P d) (i:Nat):P (xs.getD i d):=by
 by_cases hi:i<xs.length
 ·exact h _ (Jp hi)
 ·rw[List.getD_eq_getElem?_getD,List.getElem?_eq_none (by omega)];exact hd
theorem EnQ.fit {e:En} (h:EnQ e):EnFit e:=by
 obtain⟨h1,h2,h3,h4,h5,h6,h7,h8,h9,h10⟩:=h
 refine⟨by omega,by omega,by omega, ?_,by omega, ?_,by omega, ?_,⟨by omega,by omega⟩,⟨by omega,by omega⟩⟩
 ·intro i
  have:=Xo (P:=fun x:Bq=>x.length≤1000000) h4 (d:=[]) (by simp) i
  omega
 ·intro i
  have:=Xo (P:=fun x:Sc=>x.1.length≤1000000∧ -2000000000≤x.2∧x.2≤2000000000) h6 (d:=([],0)) (by simp) i
  omega
 ·intro i
  have:=Xo (P:=fun x:Pr=>x.1.length≤1000000∧x.2.length≤1000000) h8 (d:=([],[])) (by simp) i
  omega
structure BaG (b:Ba):Prop where
 len:b.ents.length≤12
 each: ∀e∈b.ents,Gq e=true
 now:0≤b.now∧b.now≤2000000
theorem Pd {xs:List Bq} (h:Ci xs=true): ∀x∈xs,x.length≤40:=by
 unfold Ci at h
 simp only[Bool.and_eq_true,decide_eq_true_eq,Option.isNone_iff_eq_none] at h
 obtain⟨h1,h2⟩:=h
 intro x hx
 obtain⟨i,hi,rfl⟩:=List.getElem_of_mem hx
 have:=Ur h1 i (by omega) (by omega)
 simp only[Km,decide_eq_false_iff_not,List.getD_eq_getElem?_getD,List.getElem?_eq_getElem hi,Option.getD_some] at this
 omega
theorem Q0 {p:Nat→Bool} : ∀ {n i:Nat},Fp p n i=false→∀j,i≤j→j<i+n→p j=false
 |0,i,_,j,h1,h2=>by omega
 |n+1,i,h,j,h1,h2=>by
  simp only[Fp,Bool.or_eq_false_iff] at h
  by_cases hj:j=i
  ·subst hj;exact h.1
  ·exact Q0 h.2 j (by omega) (by omega)
theorem Bms {p:Nat→Bool} : ∀ {n i:Nat},(∀j,i≤j→j<i+n→p j=false)→Fp p n i=false
 |0,i,_=>rfl
 |n+1,i,h=>by
  simp only[Fp,Bool.or_eq_false_iff]
  exact⟨h i (by omega) (by omega),Bms fun j h1 h2=>h j (by omega) (by omega)⟩
theorem N9 {α:Type} {P:α→Prop} {xs:List α} (d:α) (h: ∀i,i<xs.length→P (xs.getD i d)): ∀x∈xs,P x:=by
 intro x hx
 obtain⟨i,hi,rfl⟩:=List.getElem_of_mem hx
 have:=h i hi
 rwa[List.getD_eq_getElem?_getD,List.getElem?_eq_getElem hi,Option.getD_some] at this
theorem Bcy {xs:List Sc} (h:Dr xs=true):xs.length≤16∧∀x∈xs,x.1.length≤40∧ -1000000000≤x.2∧x.2≤1000000000:=by
 unfold Dr at h
 simp only[Bool.and_eq_true,decide_eq_true_eq,Bool.not_eq_true'] at h
 refine⟨h.2,N9 ([],0) fun i hi=> ?_⟩
 have:=Q0 h.1 i (by omega) (by omega)
 unfold Nu at this
 simp only[Bool.or_eq_false_iff,decide_eq_false_iff_not,Bool.not_eq_false',Bool.and_eq_true,decide_eq_true_eq] at this
 obtain⟨⟨⟨a,b⟩,_⟩,_⟩:=this
 omega
theorem Bbm {xs:List Pr} (h:Du xs=true):xs.length≤16∧∀x∈xs,x.1.length≤40∧x.2.length≤40:=by
 unfold Du at h
 simp only[Bool.and_eq_true,decide_eq_true_eq,Bool.not_eq_true'] at h
 refine⟨h.2,N9 ([],[]) fun i hi=> ?_⟩
 have:=Q0 h.1 i (by omega) (by omega)
 unfold Nt at this
 simp only[Bool.or_eq_false_iff,decide_eq_false_iff_not] at this
 obtain⟨⟨a,b⟩,_⟩:=this
 omega
theorem Bxs {xs:List Bq} (h:Gn xs=true):Ci xs=true:=by
 unfold Gn at h
 simp only[Bool.and_eq_true] at h
 exact h.2
structure EnOkS (e:En):Prop where
 key:1≤e.key.length∧e.key.length≤12
 text:e.text.length≤40
 list:Ci e.list=true
 scores:Dr e.scores=true
 fields:Du e.fields=true
 till:0≤e.till∧e.till≤2000000
 kind:1≤e.kind∧e.kind≤5
 set:e.kind=3→Gn e.list=true
 t1:e.kind≠1→e.text=[]
 t2:e.kind≠2→e.kind≠3→e.list=[]
 t4:e.kind≠4→e.scores=[]
 t5:e.kind≠5→e.fields=[]
 n2:e.kind=2∨e.kind=3→e.list≠[]
 n4:e.kind=4→e.scores≠[]
 n5:e.kind=5→e.fields≠[]
theorem Tf:Ci []=true:=by decide
theorem Qi:Dr []=true:=by decide
theorem Qc:Du []=true:=by decide
theorem Bff {e:En} (h:Gq e=true):EnOkS e:=by
 unfold Gq at h
 simp only[Bool.and_eq_true] at h
 obtain⟨⟨hk,ht⟩,hd⟩:=h
 unfold F7 at hk
 unfold Fu at ht
 simp only[Bool.and_eq_true,decide_eq_true_eq] at hk ht
 have hk1:1≤e.key.length∧e.key.length≤12:=by omega
 obtain⟨key,till,kind,text,list,scores,fields⟩:=e
 dsimp only at*
 unfold Mc at hd
 dsimp only at hd
 split at hd
 ·rename_i k
  simp only[Bool.and_eq_true,decide_eq_true_eq,List.isEmpty_iff] at hd
  obtain⟨⟨⟨a,rfl⟩,rfl⟩,rfl⟩:=hd
  subst k
  exact⟨hk1,a,Tf,Qi,Qc,ht,by simp,by simp,by simp,by simp,by simp,by simp,by simp,by simp,by simp⟩
 split at hd
 ·rename_i k
  simp only[Bool.and_eq_true,Bool.not_eq_true',List.isEmpty_iff,List.isEmpty_eq_false_iff] at hd
  obtain⟨⟨⟨⟨rfl,a⟩,b⟩,rfl⟩,rfl⟩:=hd
  subst k
  exact⟨hk1,by simp,b,Qi,Qc,ht,by simp,by simp,by simp,by simp,by simp,by simp,fun _=>a,by simp,by simp⟩
 split at hd
 ·rename_i k
  simp only[Bool.and_eq_true,Bool.not_eq_true',List.isEmpty_iff,List.isEmpty_eq_false_iff] at hd
  obtain⟨⟨⟨⟨rfl,a⟩,b⟩,rfl⟩,rfl⟩:=hd
  subst k
  exact⟨hk1,by simp,Bxs b,Qi,Qc,ht,by simp,fun _=>b,by simp,by simp,by simp,by simp,fun _=>a,by simp,by simp⟩
 split at hd
 ·rename_i k
  simp only[Bool.and_eq_true,Bool.not_eq_true',List.isEmpty_iff,List.isEmpty_eq_false_iff] at hd
  obtain⟨⟨⟨⟨rfl,rfl⟩,a⟩,b⟩,rfl⟩:=hd
  subst k
  exact⟨hk1,by simp,Tf,b,Qc,ht,by simp,by simp,by simp,by simp,by simp,by simp,by simp,fun _=>a,by simp⟩
 split at hd
 ·rename_i k
  simp only[Bool.and_eq_true,Bool.not_eq_true',List.isEmpty_iff,List.isEmpty_eq_false_iff] at hd
  obtain⟨⟨⟨⟨rfl,rfl⟩,rfl⟩,a⟩,b⟩:=hd
  subst k
  exact⟨hk1,by simp,Tf,Qi,b,ht,by simp,by simp,by simp,by simp,by simp,by simp,by simp,by simp,fun _=>a⟩
 ·simp at hd
theorem Bfv {xs:List Bq} (h:Ci xs=true):xs.length≤16:=Bkt h
theorem EnOkS.q {e:En} (h:EnOkS e):EnQ e:=by
 obtain⟨h1,h2,h3,h4,h5,h6,h7,_,_,_,_,_,_,_,_⟩:=h
 have a:=Pd h3
 have b:=Bfv h3
 have c:=Bcy h4
 have d:=Bbm h5
 refine⟨by omega,by omega,by omega,fun x hx=> ?_,by omega,fun x hx=> ?_,by omega,fun x hx=> ?_,by omega,by omega⟩
 ·have:=a x hx;omega
 ·have:=c.2 x hx;omega
 ·have:=d.2 x hx;omega
theorem Yq {e:En} (h:Gq e=true):EnQ e:=(Bff h).q
theorem BaG.sm {b:Ba} (h:BaG b):BaSm b:=⟨by have:=h.len;omega,fun e he=> (Yq (h.each e he)).sm⟩
theorem BaG.fit {b:Ba} (h:BaG b):BaFit b:=⟨by have:=h.now;exact⟨by omega,by omega⟩,by have:=h.len;omega,fun e he=> (Yq (h.each e he)).fit⟩
theorem Bnn {b:Ba} (h:BaG b) (t:Bq):Gq (Bz b t)=true∨Bz b t=⟨t,0,0,[],[],[],[]⟩:=by
 unfold Bz
 split
 ·rename_i hh
  exact .inl (h.each _ (Jp (Kl hh)))
 ·exact .inr rfl
theorem Dv {b:Ba} (h:BaG b) {t:Bq} (ht:t.length≤1000000):EnQ (Bz b t):=by
 rcases Bnn h t with a|a
 ·exact Yq a
 ·rw[a]
  exact⟨ht,by simp,by simp,by simp,by simp,by simp,by simp,by simp,by simp,by simp⟩
theorem Ti {b:Ba} (h:BaG b) (t:Bq):BaG (Co b t):=⟨Nat.le_trans (Q8 b t) h.len,fun e he=>h.each e (Bcj he),by rw[Me];exact h.now⟩
theorem Bd7 {α:Type} {xs:List α} {k:Nat} {x y:α} (h:y∈Fa xs k x):y=x∨y∈xs:=by
 unfold Fa at h
 rw[List.mem_append,List.mem_cons] at h
 rcases h with h|h|h
 ·exact .inr (List.mem_of_mem_take h)
 ·exact .inl h
 ·exact .inr (List.mem_of_mem_drop h)
theorem Bno {b:Ba} (h:BaG b) (e:En):BaG (Nc b e).1:=by
 unfold Nc
 split
 ·exact Ti h e.key
 ·split
  ·rename_i h1
   unfold Mv at h1
   simp only[Bool.and_eq_true,decide_eq_true_eq] at h1
   obtain⟨⟨h1,_⟩,h2⟩:=h1
   refine⟨?_,fun x hx=> ?_,h.now⟩
   ·rw[Gt];omega
   ·rcases Bd7 hx with rfl|hx
    ·exact h1
    ·exact(Ti h e.key).each x hx
  ·exact h
theorem Je {b:Ba} (h:BaG b) (e:En) (r:Re):BaG (Fs b e r).1:=by
 unfold Fs
 split
 ·exact Bno h e
 ·exact h
def Cu (n:Int):Re:= .mk 2 n [] [] []
def Lg (s:Bq):Re:= .mk 3 0 s [] []
def Nq:Re:= .mk 4 0 [] [] []
def Jr (xs:List Bq):Re:= .mk 5 0 [] xs []
def Sk:Re:= .mk 0 0 [] [] []
def Bo (p:Ba×Re):V:= .tup [.d (Db p.1), .d (P7 p.2)]
def Da (e:En) (s:Bq):En:=⟨e.key,e.till,1,s,e.list,e.scores,e.fields⟩
def Bsz (b:Ba) (k:Bq):Ba×Re:=(b,if(Bz b k).kind=1 then Lg (Bz b k).text else Nq)
def X3 (b:Ba) (k:Bq):Ba×Re:=(b,Cu (Bz b k).text.length)
def Bpq (b:Ba) (k t:Bq):Ba×Re:=Fs b ⟨k,0,1,t,[],[],[]⟩ Sk
def Uk (b:Ba) (k t:Bq):Ba×Re:=if 40< ((Bz b k).text++t).length then(b,Dp [108,111,110,103]) else Fs b (Da (Bz b k) ((Bz b k).text++t)) (Cu ((Bz b k).text++t).length)
def Bxw (s:Bq) (f t:Int):Bq:=(s.take (Ki s.length f t).2.toNat).drop (Ki s.length f t).1.toNat
def Ph (b:Ba) (k f t:Bq):Ba×Re:=if(Fb f).2=true∧(Fb t).2=true then(b,Lg (Bxw (Bz b k).text (Fb f).1 (Fb t).1)) else(b,Dp [110,117,109,98,101,114])
def Bcg (b:Ba) (k y:Bq):Ba×Re:=if(Yg (Bz b k).text (decide ((Bz b k).kind=1)) y).2=true then Fs b (Da (Bz b k) (Q3 (Yg (Bz b k).text (decide ((Bz b k).kind=1)) y).1)) (Cu (Yg (Bz b k).text (decide ((Bz b k).kind=1)) y).1) else(b,Dp [110,117,109,98,101,114])
theorem Bo7 (b:Ba) (k:Bq) (hb:BaG b) (hk:k.length≤40):Bc (ev R) 166 [.d (Db b), .d (Bf [[71,69,84],k])]=some (Bo (Bsz b k)):=Bb fun H=>by
 refine Bh (fn:=f166) rfl rfl ?_
 have p1:=Jd b k hb.sm
 unfold Bsz
 generalize Bz b k=e at*
 have p2:=Gp
 have p3:=Bee e.text
 by_cases a:e.kind=1
 ·simp(maxSteps:=1000000) [Ca,-List.getD_eq_getElem?_getD,-List.map_map,f166,p1,p2,p3,eq_true a,Bo,Lg,Nq]
 ·simp(maxSteps:=1000000) [Ca,-List.getD_eq_getElem?_getD,-List.map_map,f166,p1,p2,p3,eq_false a,Bo,Lg,Nq]
theorem Bfz (b:Ba) (k:Bq) (hb:BaG b) (hk:k.length≤40):Bc (ev R) 166 [.d (Db b), .d (Bf [[83,84,82,76,69,78],k])]=some (Bo (X3 b k)):=Bb fun H=>by
 refine Bh (fn:=f166) rfl rfl ?_
 have p1:=Jd b k hb.sm
 unfold X3
 generalize Bz b k=e at*
 have p2:=Js e.text.length
 simp(maxSteps:=1000000) [Ca,-List.getD_eq_getElem?_getD,-List.map_map,f166,p1,p2,Bo,Cu]
theorem Bo8 (b:Ba) (k t:Bq) (hb:BaG b) (hk:k.length≤40) (ht:t.length≤40):Bc (ev R) 166 [.d (Db b), .d (Bf [[83,69,84],k,t])]=some (Bo (Bpq b k t)):=Bb fun H=>by
 refine Bh (fn:=f166) rfl rfl ?_
 have p1:=Jd b k hb.sm
 unfold Bpq
 have q:EnQ ⟨k,0,1,t,[],[],[]⟩:=⟨by simp;omega,by simp;omega,by simp,by simp,by simp,by simp,by simp,by simp,by simp,by simp⟩
 have p2:=K6 b ⟨k,0,1,t,[],[],[]⟩ Sk hb.sm q.sm q.fit
 generalize Fs b ⟨k,0,1,t,[],[],[]⟩ Sk=P at*
 unfold Sk at p2
 simp(maxSteps:=1000000) [Ca,-List.getD_eq_getElem?_getD,-List.map_map,f166,p1,p2,Bo]
theorem Bfx (b:Ba) (k t:Bq) (hb:BaG b) (hk:k.length≤40) (ht:t.length≤40):Bc (ev R) 166 [.d (Db b), .d (Bf [[65,80,80,69,78,68],k,t])]=some (Bo (Uk b k t)):=Bb fun H=>by
 refine Bh (fn:=f166) rfl rfl ?_
 have p1:=Jd b k hb.sm
 have q:=Dv hb (t:=k) (by omega)
 unfold Uk
 have p4:=Bv [108,111,110,103]
 generalize Bz b k=e at*
 obtain⟨key,till,kind,text,list,scores,fields⟩:=e
 obtain⟨q1,q2,q3,q4,q5,q6,q7,q8,q9,q10⟩:=q
 dsimp only[Da] at*
 have r:text.length+t.length≤Kz:=by unfold Kz;omega
 by_cases a:40< (text++t).length
 ·have a': (40:Int)< (text.length:Int)+(t.length:Int):=by rw[List.length_append] at a;omega
  rw[if_pos a]
  simp(maxSteps:=1000000) [Ca,-List.getD_eq_getElem?_getD,-List.map_map,f166,p1,p4,a',r,Bo,Dp]
 ·have a': ¬ (40:Int)< (text.length:Int)+(t.length:Int):=by rw[List.length_append] at a;omega
  rw[if_neg a]
  have q:EnQ ⟨key,till,1,text++t,list,scores,fields⟩:=⟨q1,by dsimp only;omega,q3,q4,q5,q6,q7,q8,q9,by dsimp only;omega⟩
  have p2:=Js ((text.length:Int)+(t.length:Int))
  have p3:=K6 b _ (Cu (text++t).length) hb.sm q.sm q.fit
  generalize Fs b ⟨key,till,1,text++t,list,scores,fields⟩ (Cu (text++t).length)=P at*
  have hc: (((text++t).length:Nat):Int)=(text.length:Int)+(t.length:Int):=by rw[List.length_append];omega
  rw[hc] at p3
  unfold Cu at p3
  simp(maxSteps:=1000000) [Ca,-List.getD_eq_getElem?_getD,-List.map_map,f166,p1,p2,p3,a',r,Bo]
theorem Bcb (b:Ba) (k f t:Bq) (hb:BaG b) (hk:k.length≤40) (hf:f.length≤40) (ht:t.length≤40):Bc (ev R) 166 [.d (Db b), .d (Bf [[71,69,84,82,65,78,71,69],k,f,t])]=some (Bo (Ph b k f t)):=Bb fun H=>by
 refine Bh (fn:=f166) rfl rfl ?_
 have p1:=Jd b k hb.sm
 have q:=Dv hb (t:=k) (by omega)
 unfold Ph
 have p2:=Ml f (by omega)
 have p3:=Ml t (by omega)
 have i2:=Jq f
 have i3:=Jq t
 have p4:=Bv [110,117,109,98,101,114]
 generalize Bz b k=e at*
 generalize Fb f=F at*
 generalize Fb t=T at*
 obtain⟨m,mo⟩:=F
 obtain⟨n,no⟩:=T
 dsimp only at*
 have p5:=Bsp e.text.length m n (by have:=q.text;omega) i2 i3
 obtain⟨b1,b2,b3⟩:=Ba6 e.text.length m n
 have hr:Bxw e.text m n=((e.text.take (Ki e.text.length m n).2.toNat).drop (Ki e.text.length m n).1.toNat):=rfl
 have p6:=Bee (Bxw e.text m n)
 generalize(Ki e.text.length m n).1=x at*
 generalize(Ki e.text.length m n).2=y at*
 obtain⟨A,rfl⟩: ∃A:Nat,x=(A:Int):=⟨x.toNat,by omega⟩
 obtain⟨B,rfl⟩: ∃B:Nat,y=(B:Int):=⟨y.toNat,by omega⟩
 simp only[Int.toNat_natCast] at hr
 have hr:=hr.symm
 generalize Bxw e.text m n=S at*
 have b4: (0:Int)≤(B:Int):=by omega
 have b5:A≤B:=by omega
 have b6:B≤e.text.length:=by omega
 cases mo<;>cases no
 ·simp(maxSteps:=1000000) [Ca,-List.getD_eq_getElem?_getD,-List.map_map,f166,p1,p2,p3,p4,Bo,Dp]
 ·simp(maxSteps:=1000000) [Ca,-List.getD_eq_getElem?_getD,-List.map_map,f166,p1,p2,p3,p4,Bo,Dp]
 ·simp(maxSteps:=1000000) [Ca,-List.getD_eq_getElem?_getD,-List.map_map,f166,p1,p2,p3,p4,Bo,Dp]
 ·simp(maxSteps:=1000000) [Ca,-List.getD_eq_getElem?_getD,-List.map_map,f166,p1,p2,p3,p5,p6,b1,b2,b3,b4,b5,b6,hr,Bo,Lg]
theorem Su: ∀ (k n:Nat),n<10 ^ (k+1)→(Sr n).length≤k+1
 |0,n,h=>by
  rw[Sr];split
  ·simp
  ·omega
 |k+1,n,h=>by
  rw[Sr];split
  ·simp
  ·have:=Su k (n / 10) (by rw[Nat.pow_succ] at h;omega)
   rw[List.length_append];simp;omega
theorem Ba5 (z:Int) (h: -1000000000≤z∧z≤1000000000): (Q3 z).length≤1000000:=by
 unfold Q3
 split
 ·have:=Su 9 z.natAbs (by omega)
  rw[List.length_cons];omega
 ·have:=Su 9 z.toNat (by omega)
  omega
theorem Bxa (z:Int) (h: -1000000000≤z∧z≤1000000000):Bc (ev R) 68 [.d (.int .i64 z)]=some (.d (.str (Q3 z))):=Bb fun H=>B21 H z h
theorem Be4 (t:Bq) (th:Bool) (y:Bq): -1000000000≤(Yg t th y).1∧(Yg t th y).1≤1000000000:=by
 unfold Yg
 split
 ·dsimp only;omega
 ·by_cases h: (Fb y).2=true∧ -1000000000≤(if th=true then(Fb t).1 else 0)+(Fb y).1∧(if th=true then(Fb t).1 else 0)+(Fb y).1≤1000000000
  ·rw[if_pos h];exact⟨h.2.1,h.2.2⟩
  ·rw[if_neg h];dsimp only;omega
theorem Bkz (b:Ba) (k:Bq) (hb:BaG b) (hk:k.length≤40):Bc (ev R) 166 [.d (Db b), .d (Bf [[73,78,67,82],k])]=some (Bo (Bcg b k [49])):=Bb fun H=>by
 refine Bh (fn:=f166) rfl rfl ?_
 have p1:=Jd b k hb.sm
 have q:=Dv hb (t:=k) (by omega)
 unfold Bcg
 have p4:=Bv [110,117,109,98,101,114]
 generalize Bz b k=e at*
 obtain⟨key,till,kind,text,list,scores,fields⟩:=e
 obtain⟨q1,q2,q3,q4,q5,q6,q7,q8,q9,q10⟩:=q
 dsimp only[Da] at*
 have p5:=Bsq text (decide (kind=1)) [49] q2 (by decide)
 have ai:=Be4 text (decide (kind=1)) [49]
 generalize Yg text (decide (kind=1)) [49]=A at*
 obtain⟨a,ao⟩:=A
 dsimp only at*
 have p6:=Bxa a ai
 have dl:=Ba5 a ai
 have q:EnQ ⟨key,till,1,Q3 a,list,scores,fields⟩:=⟨q1,dl,q3,q4,q5,q6,q7,q8,q9,by dsimp only;omega⟩
 have p2:=Js a
 have p3:=K6 b _ (Cu a) hb.sm q.sm q.fit
 generalize Fs b ⟨key,till,1,Q3 a,list,scores,fields⟩ (Cu a)=P at*
 unfold Cu at p3
 cases ao
 ·simp(maxSteps:=1000000) [Ca,-List.getD_eq_getElem?_getD,-List.map_map,f166,p1,p5,p4,Bo,Dp]
 ·simp(maxSteps:=1000000) [Ca,-List.getD_eq_getElem?_getD,-List.map_map,f166,p1,p5,p6,p2,p3,Bo]
theorem Bfy (b:Ba) (k y:Bq) (hb:BaG b) (hk:k.length≤40) (hy:y.length≤40):Bc (ev R) 166 [.d (Db b), .d (Bf [[73,78,67,82,66,89],k,y])]=some (Bo (Bcg b k y)):=Bb fun H=>by
 refine Bh (fn:=f166) rfl rfl ?_
 have p1:=Jd b k hb.sm
 have q:=Dv hb (t:=k) (by omega)
 unfold Bcg
 have p4:=Bv [110,117,109,98,101,114]
 generalize Bz b k=e at*
 obtain⟨key,till,kind,text,list,scores,fields⟩:=e
 obtain⟨q1,q2,q3,q4,q5,q6,q7,q8,q9,q10⟩:=q
 dsimp only[Da] at*
 have p5:=Bsq text (decide (kind=1)) y q2 (by omega)
 have ai:=Be4 text (decide (kind=1)) y
 generalize Yg text (decide (kind=1)) y=A at*
 obtain⟨a,ao⟩:=A
 dsimp only at*
 have p6:=Bxa a ai
 have dl:=Ba5 a ai
 have q:EnQ ⟨key,till,1,Q3 a,list,scores,fields⟩:=⟨q1,dl,q3,q4,q5,q6,q7,q8,q9,by dsimp only;omega⟩
 have p2:=Js a
 have p3:=K6 b _ (Cu a) hb.sm q.sm q.fit
 generalize Fs b ⟨key,till,1,Q3 a,list,scores,fields⟩ (Cu a)=P at*
 unfold Cu at p3
 cases ao
 ·simp(maxSteps:=1000000) [Ca,-List.getD_eq_getElem?_getD,-List.map_map,f166,p1,p5,p4,Bo,Dp]
 ·simp(maxSteps:=1000000) [Ca,-List.getD_eq_getElem?_getD,-List.map_map,f166,p1,p5,p6,p2,p3,Bo]
end Go.Proofs.YtpajcoanfkeibaaGreatDoor.Code

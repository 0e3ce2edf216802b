/- Lemmas (several texts in one). -/
import Derived.Test.YtpajcoanfkeibaaGreatDoorMDoRename6
import Derived.Test.YtpajcoanfkeibaaGreatDoorMDoRename9
import Derived.Test.YtpajcoanfkeibaaGreatDoorMDoRename11
import Derived.Test.YtpajcoanfkeibaaGreatDoorMDoRename19
set_option maxRecDepth 100000
set_option maxHeartbeats 2000000
set_option linter.unusedSimpArgs false
set_option linter.unusedVariables false
namespace Go.Proofs.YtpajcoanfkeibaaGreatDoor.Code
open Go Go.Ev Go.Proofs
theorem Bbw {xs:List Bq} (h:Pk xs=true):1≤xs.length∧xs.length≤8:=by
 have:=(Wd xs).1 h
 exact this.2
theorem Bhf {xs:List Bq} (h:Pk xs=true): ∀x∈xs,x.length≤40:=((Wd xs).1 h).1
theorem B47 (xs:List Bq) (hx:xs.length≤9223372036854775807):Be (ev R) 252 [.d (Bf xs)]=some (.d (.bool (Pk xs))):=Bb fun H=>B1m H xs hx
theorem B8l (s:Bq):Be (ev R) 59 [.d (.str s)]=some (.d (.bool (Gb s))):=Bb fun H=>Bgl H s
theorem Bwc {α:Type} {P:α→Prop} {c:Prop} [Decidable c] {a b:α} (ha:P a) (hb:P b):P (if c then a else b):=by split<;>assumption
def Bqq (x:Int×Int×Int):Prop:=0≤x.1∧x.1≤4∧x.2.1≤8∧0≤x.2.2∧x.2.2≤5
theorem Bu5 (w:Bq):Bqq (Bi w):=by
 unfold Bi
 repeat (refine Bwc (P:=Bqq) ⟨by decide,by decide,by decide,by decide,by decide⟩ ?_)
 exact⟨by decide,by decide,by decide,by decide,by decide⟩
def Qa:List Bq:=[[83,73,78,84,69,82],[83,85,78,73,79,78],[83,68,73,70,70],[82,69,78,65,77,69]]
theorem Bz8 {w:Bq} (h:w∈Qa): (Bi w).1=3:=by
 simp only[Qa,List.mem_cons,List.not_mem_nil,or_false] at h
 rcases h with rfl|rfl|rfl|rfl<;>rfl
def Bbk (args:List Bq):List Bq:=
 if Pk args=true then
  if(Bi (args.getD 0 [])).1=0∨¬ ((Bi (args.getD 0 [])).1≤(args.length:Int)∧(args.length:Int)≤(Bi (args.getD 0 [])).2.1)∨(Bi (args.getD 0 [])).1=1∨args.getD 0 []=[75,69,89,83] then[] else
  if args.getD 0 []=[68,69,76]∨args.getD 0 []=[69,88,73,83,84,83] then args.drop 1 else
  if args.getD 0 []∈Qa then[args.getD 1 [],args.getD 2 []] else[args.getD 1 []]
 else[]
theorem B4p (args:List Bq) (hx:args.length≤1000000):Be (ev R) 198 [.d (Bf args)]=some (.d (Bf (Bbk args))):=Bb fun H=>by
 refine Bh (fn:=f198) rfl rfl ?_
 have p0:=B47 args (by omega)
 unfold Bbk
 cases h0:Pk args with
 |false=>rw[h0] at p0;simp[Ci,-List.getD_eq_getElem?_getD,-List.map_map,f198,p0,Bf]
 |true=>
  rw[h0] at p0
  have hl:=Bbw h0
  clear h0
  obtain⟨w,r,rfl⟩: ∃w r,args=w::r:=by
   cases args with
   |nil=>simp at hl
   |cons w r=>exact⟨w,r,rfl⟩
  have e0: (w::r).getD 0 []=w:=rfl
  have e1: (w::r).length=r.length+1:=rfl
  have e2: ((w::r).length:Int)=(r.length:Int)+1:=by rw[e1];omega
  rw[e0,e2]
  rw[e1] at hl
  simp only[Bf,List.map_cons] at p0
  have p1:=Dy w
  have wi:=Bu5 w
  have wt:=fun h:w∈Qa=>Bz8 h
  have p3:=Bhu Qa w (by decide)
  have hge: ∀lo:Int,0≤lo→¬lo=0→¬lo=1→lo≤(r.length:Int)+1→1≤r.length:=fun lo a b c d=>by omega
  generalize Bi w=W at*
  obtain⟨lo,hi,kd⟩:=W
  have p2:=Ps ((r.length:Int)+1) lo hi
  dsimp only at*
  by_cases a0:lo=0
  ·simp(maxSteps:=1000000) [Ce,-List.getD_eq_getElem?_getD,-List.map_map,f198,p0,p1,eq_true a0,Bf]
  by_cases a1:lo≤(r.length:Int)+1
  rotate_left
  ·simp(maxSteps:=1000000) [Ce,-List.getD_eq_getElem?_getD,-List.map_map,f198,p0,p1,p2,eq_false a0,eq_false a1,Bf]
  by_cases a2: (r.length:Int)+1≤hi
  rotate_left
  ·simp(maxSteps:=1000000) [Ce,-List.getD_eq_getElem?_getD,-List.map_map,f198,p0,p1,p2,eq_false a0,eq_true a1,eq_false a2,Bf]
  by_cases a3:lo=1
  ·simp(maxSteps:=1000000) [Ce,-List.getD_eq_getElem?_getD,-List.map_map,f198,p0,p1,p2,eq_false a0,eq_true a1,eq_true a2,eq_true a3,Bf]
  have hr:=hge lo wi.1 a0 a3 a1
  obtain⟨k,r',rfl⟩: ∃k r',r=k::r':=by
   cases r with
   |nil=>simp at hr
   |cons w r=>exact⟨w,r,rfl⟩
  have f2: (((k::r').length:Nat):Int)=(r'.length:Int)+1:=by rw[List.length_cons];omega
  have f1: (k::r').length=r'.length+1:=rfl
  rw[f2] at a1 a2 p2
  rw[f1] at hl
  clear hge
  have q1:=Bc4 (k::r') (by rw[f1];omega)
  have q1n:=Uv (k::r') (by rw[f1];omega)
  simp only[Bf,List.map_cons] at p0 q1 q1n
  have b1: (1:Int)≤(r'.length:Int)+1+1:=by omega
  have b0: (0:Int)≤(r'.length:Int)+1+1:=by omega
  have b00: (0:Int)< (r'.length:Int)+1+1:=by omega
  have b2: (1:Int)< (r'.length:Int)+1+1:=by omega
  by_cases a4:w=[75,69,89,83]
  ·simp(maxSteps:=1000000) [Ce,-List.getD_eq_getElem?_getD,-List.map_map,f198,p0,p1,p2,eq_false a0,eq_true a1,eq_true a2,eq_false a3,eq_true a4,b0,b00,b1,b2,Bf]
  by_cases a5:w=[68,69,76]
  ·simp(maxSteps:=1000000) [Ce,-List.getD_eq_getElem?_getD,-List.map_map,f198,p0,p1,p2,q1,q1n,eq_false a0,eq_true a1,eq_true a2,eq_false a3,eq_false a4,eq_true a5,b0,b00,b1,b2,Bf]
  by_cases a6:w=[69,88,73,83,84,83]
  ·simp(maxSteps:=1000000) [Ce,-List.getD_eq_getElem?_getD,-List.map_map,f198,p0,p1,p2,q1,q1n,eq_false a0,eq_true a1,eq_true a2,eq_false a3,eq_false a4,eq_false a5,eq_true a6,b0,b00,b1,b2,Bf]
  by_cases a7:w∈Qa
  ·have:=wt a7
   subst this
   obtain⟨k2,r2,rfl⟩: ∃k2 r2,r'=k2::r2:=by
    cases r' with
    |nil=>simp at a1
    |cons w r=>exact⟨w,r,rfl⟩
   have q2:=Bc4 [k,k2] (by simp)
   have q2n:=Uv [k,k2] (by simp)
   rw[decide_eq_true a7] at p3
   simp only[Qa,Bf,List.map_cons,List.map_nil] at p0 p3 q2 q2n
   have g2: (((k2::r2).length:Nat):Int)=(r2.length:Int)+1:=by rw[List.length_cons];omega
   rw[g2] at a1 a2 p2 b0 b00 b1 b2
   have b3: (3:Int)≤(r2.length:Int)+1+1+1:=by omega
   simp(maxSteps:=1000000) [Ce,-List.getD_eq_getElem?_getD,-List.map_map,f198,p0,p1,p2,p3,q2,q2n,eq_false a0,eq_true a1,eq_true a2,eq_false a3,eq_false a4,eq_false a5,eq_false a6,eq_true a7,b0,b00,b1,b2,b3,Bf]
  ·rw[decide_eq_false a7] at p3
   simp only[Qa,Bf,List.map_cons,List.map_nil] at p3
   simp(maxSteps:=1000000) [Ce,-List.getD_eq_getElem?_getD,-List.map_map,f198,p0,p1,p2,p3,eq_false a0,eq_true a1,eq_true a2,eq_false a3,eq_false a4,eq_false a5,eq_false a6,eq_false a7,b0,b00,b1,b2,Bf]
def Yb (t:Bq) (there:Bool) (by':Bq):Int×Bool:=
 if there=true∧(Dx t).2=false then(0,false) else
 if(Dx by').2=true∧ -1000000000≤(if there=true then(Dx t).1 else 0)+(Dx by').1∧(if there=true then(Dx t).1 else 0)+(Dx by').1≤1000000000 then((if there=true then(Dx t).1 else 0)+(Dx by').1,true) else(0,false)
theorem Jg (t:Bq): -1000000000≤(Dx t).1∧(Dx t).1≤1000000000:=by
 unfold Dx
 repeat' split
 all_goals (dsimp only;omega)
theorem L6 (s:Bq) (hs:s.length≤1000000):Be (ev R) 203 [.d (.str s)]=some (.tup [.d (.int .i64 (Dx s).1), .d (.bool (Dx s).2)]):=Bb fun H=>B1f H s (by omega)
theorem Br6 (t:Bq) (there:Bool) (y:Bq) (ht:t.length≤1000000) (hy:y.length≤1000000):Be (ev R) 205 [.d (.str t), .d (.bool there), .d (.str y)]=some (.tup [.d (.int .i64 (Yb t there y).1), .d (.bool (Yb t there y).2)]):=Bb fun H=>by
 refine Bh (fn:=f205) rfl rfl ?_
 have p1:=L6 t ht
 have p2:=L6 y hy
 have i1:=Jg t
 have i2:=Jg y
 unfold Yb
 generalize Dx t=T at*
 generalize Dx y=Y at*
 obtain⟨m,mo⟩:=T
 obtain⟨n,no⟩:=Y
 dsimp only at*
 have w:IntKind.i64.wrap (m+n)=m+n:=IntWalk.i64_in _ (by omega)
 have w0:IntKind.i64.wrap (0+n)=n:=by rw[IntWalk.i64_in _ (by omega)];omega
 have w1:IntKind.i64.wrap n=n:=IntWalk.i64_in _ (by omega)
 have p3:=Ps (m+n) (-1000000000) 1000000000
 have p4:=Ps n (-1000000000) 1000000000
 cases there<;>cases mo<;>cases no
 all_goals try (simp[Ci,-List.getD_eq_getElem?_getD,-List.map_map,f205,p1,p2];done)
 ·have a: -1000000000≤n:=by omega
  have b:n≤1000000000:=by omega
  simp[Ci,-List.getD_eq_getElem?_getD,-List.map_map,f205,p1,p2,p4,w,w0,w1,a,b]
 ·have a: -1000000000≤n:=by omega
  have b:n≤1000000000:=by omega
  simp[Ci,-List.getD_eq_getElem?_getD,-List.map_map,f205,p1,p2,p4,w,w0,w1,a,b]
 ·by_cases a: -1000000000≤m+n
  ·by_cases b:m+n≤1000000000
   ·simp[Ci,-List.getD_eq_getElem?_getD,-List.map_map,f205,p1,p2,p3,w,w0,w1,eq_true a,eq_true b]
   ·simp[Ci,-List.getD_eq_getElem?_getD,-List.map_map,f205,p1,p2,p3,w,w0,w1,eq_true a,eq_false b]
  ·simp[Ci,-List.getD_eq_getElem?_getD,-List.map_map,f205,p1,p2,p3,w,w0,w1,eq_false a]
def Bji (b:Ba) (kind:Int) (k:Bq):Bq:=if Gb k=false then[107,101,121] else if kind≠0∧(Bw b k).kind≠0∧(Bw b k).kind≠kind then[107,105,110,100] else[]
def K5 (b:Ba) (kind:Int):List Bq→Bq
 | []=> []
 |k::r=>if Bji b kind k=[] then K5 b kind r else Bji b kind k
def Cr (b:Ba) (args:List Bq):Bq:=
 if(Bi (args.getD 0 [])).1=0 then[117,110,107,110,111,119,110] else
 if ¬ ((Bi (args.getD 0 [])).1≤(args.length:Int)∧(args.length:Int)≤(Bi (args.getD 0 [])).2.1) then[119,111,114,100,115] else
 K5 b (Bi (args.getD 0 [])).2.2 (Bbk args)
theorem Bof (args:List Bq): (Bbk args).length≤args.length+2:=by
 unfold Bbk
 repeat' split
 all_goals (simp only[List.length_nil,List.length_cons,List.length_drop];omega)
theorem Bgk {α:Type} (xs:List α) (i:Nat) (d:α) (h:i<xs.length):xs.drop i=xs.getD i d::xs.drop (i+1):=by
 rw[List.drop_eq_getElem_cons h]
 simp[List.getD_eq_getElem?_getD,h]
theorem B1x (H:Hp) (b:Ba) (kd:Int) (ks:List Bq) (hk:ks.length≤1000000) (hb:BaSm b):
  Gives (fun o e X=> (o= .exit 1∧K5 b kd ks=[]∧X=ap H [.row 0 2 [.d (Df b)]])∨(o= .ret∧e.get 4= .d (.str (K5 b kd ks))∧Cx X (Bc H)=H)) (Bg (Bp (ev R) R.glob (Bc H) Bg Rh) [2,7,8,9] ⟨[(2, .ptr (Bc H) 0 0 0),(7, .d (.int .i64 kd)),(8, .d (Bf ks)),(9, .d (.int .i64 0))],ap H [.row 0 2 [.d (Df b)]]⟩):=by
 refine C8 (F:=Bp (ev R) R.glob (Bc H) Bg Rh) (lv:=[2,7,8,9]) ks.length
  (fun i e X=>X=ap H [.row 0 2 [.d (Df b)]]∧e.get 2= .ptr (Bc H) 0 0 0∧e.get 7= .d (.int .i64 kd)∧e.get 8= .d (Bf ks)∧e.get 9= .d (.int .i64 i)∧K5 b kd ks=K5 b kd (ks.drop i))
  _ ?_ ?_ ks.length 0 _ _ (by omega) ⟨rfl,rfl,rfl,rfl,rfl,rfl⟩
 ·rintro e X ⟨rfl,g2,g7,g8,g9,hr⟩
  rw[List.drop_length] at hr
  have hr:K5 b kd ks=[]:=hr
  simp[Ci,-List.getD_eq_getElem?_getD,-List.map_map,Rh,g2,g7,g8,g9,hr,Bf]
 ·rintro i e X hi ⟨rfl,g2,g7,g8,g9,hr⟩
  have c: (i:Int)< (ks.length:Int):=by omega
  have g:=Dj ks i hi
  rw[Bgk ks i [] hi] at hr
  simp only[K5] at hr
  have p1:=B8l (ks.getD i [])
  have p2:=Gz b (ks.getD i []) hb
  have w1:IntKind.i64.wrap ((i:Int)+1)=((i+1:Nat):Int):=by rw[IntWalk.i64_in _ (by omega)];rfl
  unfold Bji at hr
  generalize ks.getD i []=k at*
  cases h1:Gb k with
  |false=>
   rw[h1] at p1 hr
   have hr:K5 b kd ks=[107,101,121]:=hr
   simp[Ci,-List.getD_eq_getElem?_getD,-List.map_map,Rh,g2,g7,g8,g9,c,g,hi,p1,hr,Bf]
  |true=>
   rw[h1] at p1 hr
   generalize Bw b k=E at*
   by_cases a1:kd=0
   ·have hr:K5 b kd ks=K5 b kd (ks.drop (i+1)):=by simpa[a1] using hr
    simp[Ci,-List.getD_eq_getElem?_getD,-List.map_map,Rh,g2,g7,g8,g9,c,g,hi,p1,p2,eq_true a1,w1,eq_true hr,Bf]
   ·by_cases a2:E.kind=0
    ·have hr:K5 b kd ks=K5 b kd (ks.drop (i+1)):=by simpa[a1,a2] using hr
     simp[Ci,-List.getD_eq_getElem?_getD,-List.map_map,Rh,g2,g7,g8,g9,c,g,hi,p1,p2,eq_false a1,eq_true a2,w1,eq_true hr,Bf]
    ·by_cases a3:E.kind=kd
     ·have hr:K5 b kd ks=K5 b kd (ks.drop (i+1)):=by simpa[a1,a2,a3] using hr
      simp[Ci,-List.getD_eq_getElem?_getD,-List.map_map,Rh,g2,g7,g8,g9,c,g,hi,p1,p2,eq_false a1,eq_false a2,eq_true a3,w1,eq_true hr,Bf]
     ·have hr:K5 b kd ks=[107,105,110,100]:=by simpa[a1,a2,a3] using hr
      simp[Ci,-List.getD_eq_getElem?_getD,-List.map_map,Rh,g2,g7,g8,g9,c,g,hi,p1,p2,eq_false a1,eq_false a2,eq_false a3,w1,hr,Bf]
theorem D5 (b:Ba) (args:List Bq) (hb:BaSm b) (hx:args.length≤1000) (h1:1≤args.length):Be (ev R) 163 [.d (Df b), .d (Bf args)]=some (.d (.str (Cr b args))):=Bb fun H=>by
 refine Bh (fn:=f163) rfl rfl ?_
 have hkl:=Bof args
 have p1:=Dy (args.getD 0 [])
 have p3:=B4p args (by omega)
 have g0:=Dj args 0 (by omega)
 have c0: (0:Int)< (args.length:Int):=by omega
 have c0':0<args.length:=by omega
 have lp:=B1x H b (Bi (args.getD 0 [])).2.2 (Bbk args) (by omega) hb
 have p2:=Ps (args.length:Int) (Bi (args.getD 0 [])).1 (Bi (args.getD 0 [])).2.1
 unfold Cr
 generalize Bbk args=ks at*
 generalize args.getD 0 []=w at*
 generalize Bi w=W at*
 obtain⟨lo,hi,kd⟩:=W
 dsimp only at*
 by_cases a0:lo=0
 ·simp[Ci,-List.getD_eq_getElem?_getD,-List.map_map,f163,p1,g0,c0,c0',eq_true a0,Bf]
 by_cases a1:lo≤(args.length:Int)
 rotate_left
 ·simp[Ci,-List.getD_eq_getElem?_getD,-List.map_map,f163,p1,p2,g0,c0,c0',eq_false a0,eq_false a1,Bf]
 by_cases a2: (args.length:Int)≤hi
 rotate_left
 ·simp[Ci,-List.getD_eq_getElem?_getD,-List.map_map,f163,p1,p2,g0,c0,c0',eq_false a0,eq_true a1,eq_false a2,Bf]
 obtain⟨o,e',X',he,hq⟩:=lp.out
 rcases hq with⟨rfl,hq,rfl⟩ | ⟨rfl,g4,ht⟩
 ·simp[Ci,-List.getD_eq_getElem?_getD,-List.map_map,f163,p1,p2,p3,g0,c0,c0',eq_false a0,eq_true a1,eq_true a2,he,hq,Bf]
 ·simp[Ci,-List.getD_eq_getElem?_getD,-List.map_map,f163,p1,p2,p3,g0,c0,c0',eq_false a0,eq_true a1,eq_true a2,he,g4,ht,Bf]
structure EnQ (e:En):Prop where
 key:e.key.length≤1000000
 text:e.text.length≤1000000
 list:e.list.length≤1000
 lists: ∀x∈e.list,x.length≤1000000
 scores:e.scores.length≤1000
 scoress: ∀x∈e.scores,x.1.length≤1000000∧ -2000000000≤x.2∧x.2≤2000000000
 fields:e.fields.length≤1000
 fieldss: ∀x∈e.fields,x.1.length≤1000000∧x.2.length≤1000000
 till:0≤e.till∧e.till≤10000000
 kind:0≤e.kind∧e.kind≤10
theorem EnQ.sm {e:En} (h:EnQ e):EnSm e:=⟨by have:=h.list;omega,by have:=h.scores;omega,by have:=h.fields;omega⟩
theorem Xh {α:Type} {P:α→Prop} {xs:List α} {d:α} (h: ∀x∈xs,P x) (hd:P d) (i:Nat):P (xs.getD i d):=by
 by_cases hi:i<xs.length
 ·exact h _ (Gr hi)
 ·rw[List.getD_eq_getElem?_getD,List.getElem?_eq_none (by omega)];exact hd
theorem EnQ.fit {e:En} (h:EnQ e):EnFit e:=by
 obtain⟨h1,h2,h3,h4,h5,h6,h7,h8,h9,h10⟩:=h
 refine⟨by omega,by omega,by omega, ?_,by omega, ?_,by omega, ?_,⟨by omega,by omega⟩,⟨by omega,by omega⟩⟩
 ·intro i
  have:=Xh (P:=fun x:Bq=>x.length≤1000000) h4 (d:=[]) (by simp) i
  omega
 ·intro i
  have:=Xh (P:=fun x:Sc=>x.1.length≤1000000∧ -2000000000≤x.2∧x.2≤2000000000) h6 (d:=([],0)) (by simp) i
  omega
 ·intro i
  have:=Xh (P:=fun x:Pr=>x.1.length≤1000000∧x.2.length≤1000000) h8 (d:=([],[])) (by simp) i
  omega
structure BaG (b:Ba):Prop where
 len:b.ents.length≤12
 each: ∀e∈b.ents,Gn e=true
 now:0≤b.now∧b.now≤2000000
theorem Ny {xs:List Bq} (h:Cj xs=true): ∀x∈xs,x.length≤40:=by
 unfold Cj at h
 simp only[Bool.and_eq_true,decide_eq_true_eq,Option.isNone_iff_eq_none] at h
 obtain⟨h1,h2⟩:=h
 intro x hx
 obtain⟨i,hi,rfl⟩:=List.getElem_of_mem hx
 have:=Uf h1 i (by omega) (by omega)
 simp only[J9,decide_eq_false_iff_not,List.getD_eq_getElem?_getD,List.getElem?_eq_getElem hi,Option.getD_some] at this
 omega
theorem Qt {p:Nat→Bool} : ∀ {n i:Nat},D9 p n i=false→∀j,i≤j→j<i+n→p j=false
 |0,i,_,j,h1,h2=>by omega
 |n+1,i,h,j,h1,h2=>by
  simp only[D9,Bool.or_eq_false_iff] at h
  by_cases hj:j=i
  ·subst hj;exact h.1
  ·exact Qt h.2 j (by omega) (by omega)
theorem Bl6 {p:Nat→Bool} : ∀ {n i:Nat},(∀j,i≤j→j<i+n→p j=false)→D9 p n i=false
 |0,i,_=>rfl
 |n+1,i,h=>by
  simp only[D9,Bool.or_eq_false_iff]
  exact⟨h i (by omega) (by omega),Bl6 fun j h1 h2=>h j (by omega) (by omega)⟩
theorem Nn {α:Type} {P:α→Prop} {xs:List α} (d:α) (h: ∀i,i<xs.length→P (xs.getD i d)): ∀x∈xs,P x:=by
 intro x hx
 obtain⟨i,hi,rfl⟩:=List.getElem_of_mem hx
 have:=h i hi
 rwa[List.getD_eq_getElem?_getD,List.getElem?_eq_getElem hi,Option.getD_some] at this
theorem Bco {xs:List Sc} (h:Di xs=true):xs.length≤16∧∀x∈xs,x.1.length≤40∧ -1000000000≤x.2∧x.2≤1000000000:=by
 unfold Di at h
 simp only[Bool.and_eq_true,decide_eq_true_eq,Bool.not_eq_true'] at h
 refine⟨h.2,Nn ([],0) fun i hi=> ?_⟩
 have:=Qt h.1 i (by omega) (by omega)
 unfold Ng at this
 simp only[Bool.or_eq_false_iff,decide_eq_false_iff_not,Bool.not_eq_false',Bool.and_eq_true,decide_eq_true_eq] at this
 obtain⟨⟨⟨a,b⟩,_⟩,_⟩:=this
 omega
theorem Bbe {xs:List Pr} (h:Dl xs=true):xs.length≤16∧∀x∈xs,x.1.length≤40∧x.2.length≤40:=by
 unfold Dl at h
 simp only[Bool.and_eq_true,decide_eq_true_eq,Bool.not_eq_true'] at h
 refine⟨h.2,Nn ([],[]) fun i hi=> ?_⟩
 have:=Qt h.1 i (by omega) (by omega)
 unfold Nf at this
 simp only[Bool.or_eq_false_iff,decide_eq_false_iff_not] at this
 obtain⟨⟨a,b⟩,_⟩:=this
 omega
theorem Bw8 {xs:List Bq} (h:Gl xs=true):Cj xs=true:=by
 unfold Gl at h
 simp only[Bool.and_eq_true] at h
 exact h.2
structure EnOkS (e:En):Prop where
 key:1≤e.key.length∧e.key.length≤12
 text:e.text.length≤40
 list:Cj e.list=true
 scores:Di e.scores=true
 fields:Dl e.fields=true
 till:0≤e.till∧e.till≤2000000
 kind:1≤e.kind∧e.kind≤5
 set:e.kind=3→Gl e.list=true
 t1:e.kind≠1→e.text=[]
 t2:e.kind≠2→e.kind≠3→e.list=[]
 t4:e.kind≠4→e.scores=[]
 t5:e.kind≠5→e.fields=[]
 n2:e.kind=2∨e.kind=3→e.list≠[]
 n4:e.kind=4→e.scores≠[]
 n5:e.kind=5→e.fields≠[]
theorem Sv:Cj []=true:=by decide
theorem P8:Di []=true:=by decide
theorem Px:Dl []=true:=by decide
theorem Bez {e:En} (h:Gn e=true):EnOkS e:=by
 unfold Gn at h
 simp only[Bool.and_eq_true] at h
 obtain⟨⟨hk,ht⟩,hd⟩:=h
 unfold Gb at hk
 unfold D7 at ht
 simp only[Bool.and_eq_true,decide_eq_true_eq] at hk ht
 have hk1:1≤e.key.length∧e.key.length≤12:=by omega
 obtain⟨key,till,kind,text,list,scores,fields⟩:=e
 dsimp only at*
 unfold Lm at hd
 dsimp only at hd
 split at hd
 ·rename_i k
  simp only[Bool.and_eq_true,decide_eq_true_eq,List.isEmpty_iff] at hd
  obtain⟨⟨⟨a,rfl⟩,rfl⟩,rfl⟩:=hd
  subst k
  exact⟨hk1,a,Sv,P8,Px,ht,by simp,by simp,by simp,by simp,by simp,by simp,by simp,by simp,by simp⟩
 split at hd
 ·rename_i k
  simp only[Bool.and_eq_true,Bool.not_eq_true',List.isEmpty_iff,List.isEmpty_eq_false_iff] at hd
  obtain⟨⟨⟨⟨rfl,a⟩,b⟩,rfl⟩,rfl⟩:=hd
  subst k
  exact⟨hk1,by simp,b,P8,Px,ht,by simp,by simp,by simp,by simp,by simp,by simp,fun _=>a,by simp,by simp⟩
 split at hd
 ·rename_i k
  simp only[Bool.and_eq_true,Bool.not_eq_true',List.isEmpty_iff,List.isEmpty_eq_false_iff] at hd
  obtain⟨⟨⟨⟨rfl,a⟩,b⟩,rfl⟩,rfl⟩:=hd
  subst k
  exact⟨hk1,by simp,Bw8 b,P8,Px,ht,by simp,fun _=>b,by simp,by simp,by simp,by simp,fun _=>a,by simp,by simp⟩
 split at hd
 ·rename_i k
  simp only[Bool.and_eq_true,Bool.not_eq_true',List.isEmpty_iff,List.isEmpty_eq_false_iff] at hd
  obtain⟨⟨⟨⟨rfl,rfl⟩,a⟩,b⟩,rfl⟩:=hd
  subst k
  exact⟨hk1,by simp,Sv,b,Px,ht,by simp,by simp,by simp,by simp,by simp,by simp,by simp,fun _=>a,by simp⟩
 split at hd
 ·rename_i k
  simp only[Bool.and_eq_true,Bool.not_eq_true',List.isEmpty_iff,List.isEmpty_eq_false_iff] at hd
  obtain⟨⟨⟨⟨rfl,rfl⟩,rfl⟩,a⟩,b⟩:=hd
  subst k
  exact⟨hk1,by simp,Sv,P8,b,ht,by simp,by simp,by simp,by simp,by simp,by simp,by simp,by simp,fun _=>a⟩
 ·simp at hd
theorem Bfg {xs:List Bq} (h:Cj xs=true):xs.length≤16:=Bka h
theorem EnOkS.q {e:En} (h:EnOkS e):EnQ e:=by
 obtain⟨h1,h2,h3,h4,h5,h6,h7,_,_,_,_,_,_,_,_⟩:=h
 have a:=Ny h3
 have b:=Bfg h3
 have c:=Bco h4
 have d:=Bbe h5
 refine⟨by omega,by omega,by omega,fun x hx=> ?_,by omega,fun x hx=> ?_,by omega,fun x hx=> ?_,by omega,by omega⟩
 ·have:=a x hx;omega
 ·have:=c.2 x hx;omega
 ·have:=d.2 x hx;omega
theorem Yk {e:En} (h:Gn e=true):EnQ e:=(Bez h).q
theorem BaG.sm {b:Ba} (h:BaG b):BaSm b:=⟨by have:=h.len;omega,fun e he=> (Yk (h.each e he)).sm⟩
theorem BaG.fit {b:Ba} (h:BaG b):BaFit b:=⟨by have:=h.now;exact⟨by omega,by omega⟩,by have:=h.len;omega,fun e he=> (Yk (h.each e he)).fit⟩
theorem Bm3 {b:Ba} (h:BaG b) (t:Bq):Gn (Bw b t)=true∨Bw b t=⟨t,0,0,[],[],[],[]⟩:=by
 unfold Bw
 split
 ·rename_i hh
  exact .inl (h.each _ (Gr (J8 hh)))
 ·exact .inr rfl
theorem Dm {b:Ba} (h:BaG b) {t:Bq} (ht:t.length≤1000000):EnQ (Bw b t):=by
 rcases Bm3 h t with a|a
 ·exact Yk a
 ·rw[a]
  exact⟨ht,by simp,by simp,by simp,by simp,by simp,by simp,by simp,by simp,by simp⟩
theorem Sy {b:Ba} (h:BaG b) (t:Bq):BaG (Cb b t):=⟨Nat.le_trans (Qz b t) h.len,fun e he=>h.each e (S9 he),by rw[Jy];exact h.now⟩
theorem Bdu {α:Type} {xs:List α} {k:Nat} {x y:α} (h:y∈Dt xs k x):y=x∨y∈xs:=by
 unfold Dt at h
 rw[List.mem_append,List.mem_cons] at h
 rcases h with h|h|h
 ·exact .inr (List.mem_of_mem_take h)
 ·exact .inl h
 ·exact .inr (List.mem_of_mem_drop h)
theorem Bm4 {b:Ba} (h:BaG b) (e:En):BaG (Ls b e).1:=by
 unfold Ls
 split
 ·exact Sy h e.key
 ·split
  ·rename_i h1
   unfold Mf at h1
   simp only[Bool.and_eq_true,decide_eq_true_eq] at h1
   obtain⟨⟨h1,_⟩,h2⟩:=h1
   refine⟨?_,fun x hx=> ?_,h.now⟩
   ·rw[Gs];omega
   ·rcases Bdu hx with rfl|hx
    ·exact h1
    ·exact(Sy h e.key).each x hx
  ·exact h
theorem G5 {b:Ba} (h:BaG b) (e:En) (r:Re):BaG (Fb b e r).1:=by
 unfold Fb
 split
 ·exact Bm4 h e
 ·exact h
def Ct (n:Int):Re:= .mk 2 n [] [] []
def K6 (s:Bq):Re:= .mk 3 0 s [] []
def Nb:Re:= .mk 4 0 [] [] []
def Jh (xs:List Bq):Re:= .mk 5 0 [] xs []
def R7:Re:= .mk 0 0 [] [] []
def Bl (p:Ba×Re):V:= .tup [.d (Df p.1), .d (Te p.2)]
def Cz (e:En) (s:Bq):En:=⟨e.key,e.till,1,s,e.list,e.scores,e.fields⟩
def Bsg (b:Ba) (k:Bq):Ba×Re:=(b,if(Bw b k).kind=1 then K6 (Bw b k).text else Nb)
def Xv (b:Ba) (k:Bq):Ba×Re:=(b,Ct (Bw b k).text.length)
def Bpb (b:Ba) (k t:Bq):Ba×Re:=Fb b ⟨k,0,1,t,[],[],[]⟩ R7
def T9 (b:Ba) (k t:Bq):Ba×Re:=if 40< ((Bw b k).text++t).length then(b,Dh [108,111,110,103]) else Fb b (Cz (Bw b k) ((Bw b k).text++t)) (Ct ((Bw b k).text++t).length)
def Bxc (s:Bq) (f t:Int):Bq:=(s.take (J5 s.length f t).2.toNat).drop (J5 s.length f t).1.toNat
def N9 (b:Ba) (k f t:Bq):Ba×Re:=if(Dx f).2=true∧(Dx t).2=true then(b,K6 (Bxc (Bw b k).text (Dx f).1 (Dx t).1)) else(b,Dh [110,117,109,98,101,114])
def Bb8 (b:Ba) (k y:Bq):Ba×Re:=if(Yb (Bw b k).text (decide ((Bw b k).kind=1)) y).2=true then Fb b (Cz (Bw b k) (Qu (Yb (Bw b k).text (decide ((Bw b k).kind=1)) y).1)) (Ct (Yb (Bw b k).text (decide ((Bw b k).kind=1)) y).1) else(b,Dh [110,117,109,98,101,114])
theorem Bor (b:Ba) (k:Bq) (hb:BaG b) (hk:k.length≤40):Be (ev R) 166 [.d (Df b), .d (Bf [[71,69,84],k])]=some (Bl (Bsg b k)):=Bb fun H=>by
 refine Bh (fn:=f166) rfl rfl ?_
 have p1:=Gz b k hb.sm
 unfold Bsg
 generalize Bw b k=e at*
 have p2:=Gm
 have p3:=Bd0 e.text
 by_cases a:e.kind=1
 ·simp(maxSteps:=1000000) [Ce,-List.getD_eq_getElem?_getD,-List.map_map,f166,p1,p2,p3,eq_true a,Bl,K6,Nb]
 ·simp(maxSteps:=1000000) [Ce,-List.getD_eq_getElem?_getD,-List.map_map,f166,p1,p2,p3,eq_false a,Bl,K6,Nb]
theorem Bfk (b:Ba) (k:Bq) (hb:BaG b) (hk:k.length≤40):Be (ev R) 166 [.d (Df b), .d (Bf [[83,84,82,76,69,78],k])]=some (Bl (Xv b k)):=Bb fun H=>by
 refine Bh (fn:=f166) rfl rfl ?_
 have p1:=Gz b k hb.sm
 unfold Xv
 generalize Bw b k=e at*
 have p2:=Ji e.text.length
 simp(maxSteps:=1000000) [Ce,-List.getD_eq_getElem?_getD,-List.map_map,f166,p1,p2,Bl,Ct]
theorem Bos (b:Ba) (k t:Bq) (hb:BaG b) (hk:k.length≤40) (ht:t.length≤40):Be (ev R) 166 [.d (Df b), .d (Bf [[83,69,84],k,t])]=some (Bl (Bpb b k t)):=Bb fun H=>by
 refine Bh (fn:=f166) rfl rfl ?_
 have p1:=Gz b k hb.sm
 unfold Bpb
 have q:EnQ ⟨k,0,1,t,[],[],[]⟩:=⟨by simp;omega,by simp;omega,by simp,by simp,by simp,by simp,by simp,by simp,by simp,by simp⟩
 have p2:=Kt b ⟨k,0,1,t,[],[],[]⟩ R7 hb.sm q.sm q.fit
 generalize Fb b ⟨k,0,1,t,[],[],[]⟩ R7=P at*
 unfold R7 at p2
 simp(maxSteps:=1000000) [Ce,-List.getD_eq_getElem?_getD,-List.map_map,f166,p1,p2,Bl]
theorem Bfi (b:Ba) (k t:Bq) (hb:BaG b) (hk:k.length≤40) (ht:t.length≤40):Be (ev R) 166 [.d (Df b), .d (Bf [[65,80,80,69,78,68],k,t])]=some (Bl (T9 b k t)):=Bb fun H=>by
 refine Bh (fn:=f166) rfl rfl ?_
 have p1:=Gz b k hb.sm
 have q:=Dm hb (t:=k) (by omega)
 unfold T9
 have p4:=Bv [108,111,110,103]
 generalize Bw b k=e at*
 obtain⟨key,till,kind,text,list,scores,fields⟩:=e
 obtain⟨q1,q2,q3,q4,q5,q6,q7,q8,q9,q10⟩:=q
 dsimp only[Cz] at*
 have r:text.length+t.length≤Kn:=by unfold Kn;omega
 by_cases a:40< (text++t).length
 ·have a': (40:Int)< (text.length:Int)+(t.length:Int):=by rw[List.length_append] at a;omega
  rw[if_pos a]
  simp(maxSteps:=1000000) [Ce,-List.getD_eq_getElem?_getD,-List.map_map,f166,p1,p4,a',r,Bl,Dh]
 ·have a': ¬ (40:Int)< (text.length:Int)+(t.length:Int):=by rw[List.length_append] at a;omega
  rw[if_neg a]
  have q:EnQ ⟨key,till,1,text++t,list,scores,fields⟩:=⟨q1,by dsimp only;omega,q3,q4,q5,q6,q7,q8,q9,by dsimp only;omega⟩
  have p2:=Ji ((text.length:Int)+(t.length:Int))
  have p3:=Kt b _ (Ct (text++t).length) hb.sm q.sm q.fit
  generalize Fb b ⟨key,till,1,text++t,list,scores,fields⟩ (Ct (text++t).length)=P at*
  have hc: (((text++t).length:Nat):Int)=(text.length:Int)+(t.length:Int):=by rw[List.length_append];omega
  rw[hc] at p3
  unfold Ct at p3
  simp(maxSteps:=1000000) [Ce,-List.getD_eq_getElem?_getD,-List.map_map,f166,p1,p2,p3,a',r,Bl]
theorem Bb2 (b:Ba) (k f t:Bq) (hb:BaG b) (hk:k.length≤40) (hf:f.length≤40) (ht:t.length≤40):Be (ev R) 166 [.d (Df b), .d (Bf [[71,69,84,82,65,78,71,69],k,f,t])]=some (Bl (N9 b k f t)):=Bb fun H=>by
 refine Bh (fn:=f166) rfl rfl ?_
 have p1:=Gz b k hb.sm
 have q:=Dm hb (t:=k) (by omega)
 unfold N9
 have p2:=L6 f (by omega)
 have p3:=L6 t (by omega)
 have i2:=Jg f
 have i3:=Jg t
 have p4:=Bv [110,117,109,98,101,114]
 generalize Bw b k=e at*
 generalize Dx f=F at*
 generalize Dx t=T at*
 obtain⟨m,mo⟩:=F
 obtain⟨n,no⟩:=T
 dsimp only at*
 have p5:=Br5 e.text.length m n (by have:=q.text;omega) i2 i3
 obtain⟨b1,b2,b3⟩:=Baz e.text.length m n
 have hr:Bxc e.text m n=((e.text.take (J5 e.text.length m n).2.toNat).drop (J5 e.text.length m n).1.toNat):=rfl
 have p6:=Bd0 (Bxc e.text m n)
 generalize(J5 e.text.length m n).1=x at*
 generalize(J5 e.text.length m n).2=y at*
 obtain⟨A,rfl⟩: ∃A:Nat,x=(A:Int):=⟨x.toNat,by omega⟩
 obtain⟨B,rfl⟩: ∃B:Nat,y=(B:Int):=⟨y.toNat,by omega⟩
 simp only[Int.toNat_natCast] at hr
 have hr:=hr.symm
 generalize Bxc e.text m n=S at*
 have b4: (0:Int)≤(B:Int):=by omega
 have b5:A≤B:=by omega
 have b6:B≤e.text.length:=by omega
 cases mo<;>cases no
 ·simp(maxSteps:=1000000) [Ce,-List.getD_eq_getElem?_getD,-List.map_map,f166,p1,p2,p3,p4,Bl,Dh]
 ·simp(maxSteps:=1000000) [Ce,-List.getD_eq_getElem?_getD,-List.map_map,f166,p1,p2,p3,p4,Bl,Dh]
 ·simp(maxSteps:=1000000) [Ce,-List.getD_eq_getElem?_getD,-List.map_map,f166,p1,p2,p3,p4,Bl,Dh]
 ·simp(maxSteps:=1000000) [Ce,-List.getD_eq_getElem?_getD,-List.map_map,f166,p1,p2,p3,p5,p6,b1,b2,b3,b4,b5,b6,hr,Bl,K6]
theorem Sg: ∀ (k n:Nat),n<10 ^ (k+1)→(Sd n).length≤k+1
 |0,n,h=>by
  rw[Sd];split
  ·simp
  ·omega
 |k+1,n,h=>by
  rw[Sd];split
  ·simp
  ·have:=Sg k (n / 10) (by rw[Nat.pow_succ] at h;omega)
   rw[List.length_append];simp;omega
theorem Bax (z:Int) (h: -1000000000≤z∧z≤1000000000): (Qu z).length≤1000000:=by
 unfold Qu
 split
 ·have:=Sg 9 z.natAbs (by omega)
  rw[List.length_cons];omega
 ·have:=Sg 9 z.toNat (by omega)
  omega
theorem Bwp (z:Int) (h: -1000000000≤z∧z≤1000000000):Be (ev R) 68 [.d (.int .i64 z)]=some (.d (.str (Qu z))):=Bb fun H=>B1u H z h
theorem Beo (t:Bq) (th:Bool) (y:Bq): -1000000000≤(Yb t th y).1∧(Yb t th y).1≤1000000000:=by
 unfold Yb
 split
 ·dsimp only;omega
 ·by_cases h: (Dx y).2=true∧ -1000000000≤(if th=true then(Dx t).1 else 0)+(Dx y).1∧(if th=true then(Dx t).1 else 0)+(Dx y).1≤1000000000
  ·rw[if_pos h];exact⟨h.2.1,h.2.2⟩
  ·rw[if_neg h];dsimp only;omega
theorem Bkg (b:Ba) (k:Bq) (hb:BaG b) (hk:k.length≤40):Be (ev R) 166 [.d (Df b), .d (Bf [[73,78,67,82],k])]=some (Bl (Bb8 b k [49])):=Bb fun H=>by
 refine Bh (fn:=f166) rfl rfl ?_
 have p1:=Gz b k hb.sm
 have q:=Dm hb (t:=k) (by omega)
 unfold Bb8
 have p4:=Bv [110,117,109,98,101,114]
 generalize Bw b k=e at*
 obtain⟨key,till,kind,text,list,scores,fields⟩:=e
 obtain⟨q1,q2,q3,q4,q5,q6,q7,q8,q9,q10⟩:=q
 dsimp only[Cz] at*
 have p5:=Br6 text (decide (kind=1)) [49] q2 (by decide)
 have ai:=Beo text (decide (kind=1)) [49]
 generalize Yb text (decide (kind=1)) [49]=A at*
 obtain⟨a,ao⟩:=A
 dsimp only at*
 have p6:=Bwp a ai
 have dl:=Bax a ai
 have q:EnQ ⟨key,till,1,Qu a,list,scores,fields⟩:=⟨q1,dl,q3,q4,q5,q6,q7,q8,q9,by dsimp only;omega⟩
 have p2:=Ji a
 have p3:=Kt b _ (Ct a) hb.sm q.sm q.fit
 generalize Fb b ⟨key,till,1,Qu a,list,scores,fields⟩ (Ct a)=P at*
 unfold Ct at p3
 cases ao
 ·simp(maxSteps:=1000000) [Ce,-List.getD_eq_getElem?_getD,-List.map_map,f166,p1,p5,p4,Bl,Dh]
 ·simp(maxSteps:=1000000) [Ce,-List.getD_eq_getElem?_getD,-List.map_map,f166,p1,p5,p6,p2,p3,Bl]
theorem Bfj (b:Ba) (k y:Bq) (hb:BaG b) (hk:k.length≤40) (hy:y.length≤40):Be (ev R) 166 [.d (Df b), .d (Bf [[73,78,67,82,66,89],k,y])]=some (Bl (Bb8 b k y)):=Bb fun H=>by
 refine Bh (fn:=f166) rfl rfl ?_
 have p1:=Gz b k hb.sm
 have q:=Dm hb (t:=k) (by omega)
 unfold Bb8
 have p4:=Bv [110,117,109,98,101,114]
 generalize Bw b k=e at*
 obtain⟨key,till,kind,text,list,scores,fields⟩:=e
 obtain⟨q1,q2,q3,q4,q5,q6,q7,q8,q9,q10⟩:=q
 dsimp only[Cz] at*
 have p5:=Br6 text (decide (kind=1)) y q2 (by omega)
 have ai:=Beo text (decide (kind=1)) y
 generalize Yb text (decide (kind=1)) y=A at*
 obtain⟨a,ao⟩:=A
 dsimp only at*
 have p6:=Bwp a ai
 have dl:=Bax a ai
 have q:EnQ ⟨key,till,1,Qu a,list,scores,fields⟩:=⟨q1,dl,q3,q4,q5,q6,q7,q8,q9,by dsimp only;omega⟩
 have p2:=Ji a
 have p3:=Kt b _ (Ct a) hb.sm q.sm q.fit
 generalize Fb b ⟨key,till,1,Qu a,list,scores,fields⟩ (Ct a)=P at*
 unfold Ct at p3
 cases ao
 ·simp(maxSteps:=1000000) [Ce,-List.getD_eq_getElem?_getD,-List.map_map,f166,p1,p5,p4,Bl,Dh]
 ·simp(maxSteps:=1000000) [Ce,-List.getD_eq_getElem?_getD,-List.map_map,f166,p1,p5,p6,p2,p3,Bl]
end Go.Proofs.YtpajcoanfkeibaaGreatDoor.Code

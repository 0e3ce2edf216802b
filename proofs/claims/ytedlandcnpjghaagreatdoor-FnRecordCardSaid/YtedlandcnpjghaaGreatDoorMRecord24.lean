/- Lemmas (several texts in one). -/
import Derived.Test.YtedlandcnpjghaaGreatDoorMRecord7
import Derived.Test.YtedlandcnpjghaaGreatDoorMRecord8
import Derived.Test.YtedlandcnpjghaaGreatDoorMRecord10
import Derived.Test.YtedlandcnpjghaaGreatDoorMRecord11
import Derived.Test.YtedlandcnpjghaaGreatDoorMRecord23
set_option maxRecDepth 100000
set_option maxHeartbeats 2000000
set_option linter.unusedSimpArgs false
set_option linter.unusedVariables false
namespace Go.Proofs.YtedlandcnpjghaaGreatDoor.Code
open Go Go.Ev Go.Proofs
theorem Bcb {xs:List Bl} (h:Jq xs=true):1≤xs.length∧xs.length≤8:=by
 have:=(J6 xs).1 h
 exact this.2
theorem Bhq {xs:List Bl} (h:Jq xs=true): ∀x∈xs,x.length≤40:=((J6 xs).1 h).1
theorem B51 (xs:List Bl) (hx:xs.length≤9223372036854775807):Be (ev R) 27 [.d (Bf xs)]=some (.d (.bool (Jq xs))):=Bb fun H=>B02 H xs hx
theorem B57 (s:Bl):Be (ev R) 80 [.d (.str s)]=some (.d (.bool (Mg s))):=Bb fun H=>Bgr H s
theorem Bvb {α:Type} {P:α→Prop} {c:Prop} [Decidable c] {a b:α} (ha:P a) (hb:P b):P (if c then a else b):=by split<;>assumption
def Bqf (x:Int×Int×Int):Prop:=0≤x.1∧x.1≤4∧x.2.1≤8∧0≤x.2.2∧x.2.2≤5
theorem Bt7 (w:Bl):Bqf (Bh w):=by
 unfold Bh
 repeat (refine Bvb (P:=Bqf) ⟨by decide,by decide,by decide,by decide,by decide⟩ ?_)
 exact⟨by decide,by decide,by decide,by decide,by decide⟩
def P9:List Bl:=[[83,73,78,84,69,82],[83,85,78,73,79,78],[83,68,73,70,70],[82,69,78,65,77,69]]
theorem Bzo {w:Bl} (h:w∈P9): (Bh w).1=3:=by
 simp only[P9,List.mem_cons,List.not_mem_nil,or_false] at h
 rcases h with rfl|rfl|rfl|rfl<;>rfl
def Bb2 (args:List Bl):List Bl:=
 if Jq args=true then
  if(Bh (args.getD 0 [])).1=0∨¬ ((Bh (args.getD 0 [])).1≤(args.length:Int)∧(args.length:Int)≤(Bh (args.getD 0 [])).2.1)∨(Bh (args.getD 0 [])).1=1∨args.getD 0 []=[75,69,89,83] then[] else
  if args.getD 0 []=[68,69,76]∨args.getD 0 []=[69,88,73,83,84,83] then args.drop 1 else
  if args.getD 0 []∈P9 then[args.getD 1 [],args.getD 2 []] else[args.getD 1 []]
 else[]
theorem B56 (args:List Bl) (hx:args.length≤1000000):Be (ev R) 79 [.d (Bf args)]=some (.d (Bf (Bb2 args))):=Bb fun H=>by
 refine Bo (fn:=f79) rfl rfl ?_
 have p0:=B51 args (by omega)
 unfold Bb2
 cases h0:Jq args with
 |false=>rw[h0] at p0;simp[Co,-List.getD_eq_getElem?_getD,-List.map_map,f79,p0,Bf]
 |true=>
  rw[h0] at p0
  have hl:=Bcb h0
  clear h0
  obtain⟨w,r,rfl⟩: ∃w r,args=w::r:=by
   cases args with
   |nil=>simp at hl
   |cons w r=>exact⟨w,r,rfl⟩
  have e0: (w::r).getD 0 []=w:=rfl
  have e1: (w::r).length=r.length+1:=rfl
  have e2: ((w::r).length:Int)=(r.length:Int)+1:=by rw[e1];omega
  rw[e0,e2]
  rw[e1] at hl
  simp only[Bf,List.map_cons] at p0
  have p1:=Gm w
  have wi:=Bt7 w
  have wt:=fun h:w∈P9=>Bzo h
  have p3:=Bsa P9 w (by decide)
  have hge: ∀lo:Int,0≤lo→¬lo=0→¬lo=1→lo≤(r.length:Int)+1→1≤r.length:=fun lo a b c d=>by omega
  generalize Bh w=W at*
  obtain⟨lo,hi,kd⟩:=W
  have p2:=Pi ((r.length:Int)+1) lo hi
  dsimp only at*
  by_cases a0:lo=0
  ·simp(maxSteps:=1000000) [Cq,-List.getD_eq_getElem?_getD,-List.map_map,f79,p0,p1,eq_true a0,Bf]
  by_cases a1:lo≤(r.length:Int)+1
  rotate_left
  ·simp(maxSteps:=1000000) [Cq,-List.getD_eq_getElem?_getD,-List.map_map,f79,p0,p1,p2,eq_false a0,eq_false a1,Bf]
  by_cases a2: (r.length:Int)+1≤hi
  rotate_left
  ·simp(maxSteps:=1000000) [Cq,-List.getD_eq_getElem?_getD,-List.map_map,f79,p0,p1,p2,eq_false a0,eq_true a1,eq_false a2,Bf]
  by_cases a3:lo=1
  ·simp(maxSteps:=1000000) [Cq,-List.getD_eq_getElem?_getD,-List.map_map,f79,p0,p1,p2,eq_false a0,eq_true a1,eq_true a2,eq_true a3,Bf]
  have hr:=hge lo wi.1 a0 a3 a1
  obtain⟨k,r',rfl⟩: ∃k r',r=k::r':=by
   cases r with
   |nil=>simp at hr
   |cons w r=>exact⟨w,r,rfl⟩
  have f2: (((k::r').length:Nat):Int)=(r'.length:Int)+1:=by rw[List.length_cons];omega
  have f1: (k::r').length=r'.length+1:=rfl
  rw[f2] at a1 a2 p2
  rw[f1] at hl
  clear hge
  have q1:=Bc9 (k::r') (by rw[f1];omega)
  have q1n:=Uz (k::r') (by rw[f1];omega)
  simp only[Bf,List.map_cons] at p0 q1 q1n
  have b1: (1:Int)≤(r'.length:Int)+1+1:=by omega
  have b0: (0:Int)≤(r'.length:Int)+1+1:=by omega
  have b00: (0:Int)< (r'.length:Int)+1+1:=by omega
  have b2: (1:Int)< (r'.length:Int)+1+1:=by omega
  by_cases a4:w=[75,69,89,83]
  ·simp(maxSteps:=1000000) [Cq,-List.getD_eq_getElem?_getD,-List.map_map,f79,p0,p1,p2,eq_false a0,eq_true a1,eq_true a2,eq_false a3,eq_true a4,b0,b00,b1,b2,Bf]
  by_cases a5:w=[68,69,76]
  ·simp(maxSteps:=1000000) [Cq,-List.getD_eq_getElem?_getD,-List.map_map,f79,p0,p1,p2,q1,q1n,eq_false a0,eq_true a1,eq_true a2,eq_false a3,eq_false a4,eq_true a5,b0,b00,b1,b2,Bf]
  by_cases a6:w=[69,88,73,83,84,83]
  ·simp(maxSteps:=1000000) [Cq,-List.getD_eq_getElem?_getD,-List.map_map,f79,p0,p1,p2,q1,q1n,eq_false a0,eq_true a1,eq_true a2,eq_false a3,eq_false a4,eq_false a5,eq_true a6,b0,b00,b1,b2,Bf]
  by_cases a7:w∈P9
  ·have:=wt a7
   subst this
   obtain⟨k2,r2,rfl⟩: ∃k2 r2,r'=k2::r2:=by
    cases r' with
    |nil=>simp at a1
    |cons w r=>exact⟨w,r,rfl⟩
   have q2:=Bc9 [k,k2] (by simp)
   have q2n:=Uz [k,k2] (by simp)
   rw[decide_eq_true a7] at p3
   simp only[P9,Bf,List.map_cons,List.map_nil] at p0 p3 q2 q2n
   have g2: (((k2::r2).length:Nat):Int)=(r2.length:Int)+1:=by rw[List.length_cons];omega
   rw[g2] at a1 a2 p2 b0 b00 b1 b2
   have b3: (3:Int)≤(r2.length:Int)+1+1+1:=by omega
   simp(maxSteps:=1000000) [Cq,-List.getD_eq_getElem?_getD,-List.map_map,f79,p0,p1,p2,p3,q2,q2n,eq_false a0,eq_true a1,eq_true a2,eq_false a3,eq_false a4,eq_false a5,eq_false a6,eq_true a7,b0,b00,b1,b2,b3,Bf]
  ·rw[decide_eq_false a7] at p3
   simp only[P9,Bf,List.map_cons,List.map_nil] at p3
   simp(maxSteps:=1000000) [Cq,-List.getD_eq_getElem?_getD,-List.map_map,f79,p0,p1,p2,p3,eq_false a0,eq_true a1,eq_true a2,eq_false a3,eq_false a4,eq_false a5,eq_false a6,eq_false a7,b0,b00,b1,b2,Bf]
def Ym (t:Bl) (there:Bool) (by':Bl):Int×Bool:=
 if there=true∧(Dv t).2=false then(0,false) else
 if(Dv by').2=true∧ -1000000000≤(if there=true then(Dv t).1 else 0)+(Dv by').1∧(if there=true then(Dv t).1 else 0)+(Dv by').1≤1000000000 then((if there=true then(Dv t).1 else 0)+(Dv by').1,true) else(0,false)
theorem G8 (t:Bl): -1000000000≤(Dv t).1∧(Dv t).1≤1000000000:=by
 unfold Dv
 repeat' split
 all_goals (dsimp only;omega)
theorem R3 (s:Bl) (hs:s.length≤1000000):Be (ev R) 86 [.d (.str s)]=some (.tup [.d (.int .i64 (Dv s).1), .d (.bool (Dv s).2)]):=Bb fun H=>B3t H s (by omega)
theorem By5 (t:Bl) (there:Bool) (y:Bl) (ht:t.length≤1000000) (hy:y.length≤1000000):Be (ev R) 88 [.d (.str t), .d (.bool there), .d (.str y)]=some (.tup [.d (.int .i64 (Ym t there y).1), .d (.bool (Ym t there y).2)]):=Bb fun H=>by
 refine Bo (fn:=f88) rfl rfl ?_
 have p1:=R3 t ht
 have p2:=R3 y hy
 have i1:=G8 t
 have i2:=G8 y
 unfold Ym
 generalize Dv t=T at*
 generalize Dv y=Y at*
 obtain⟨m,mo⟩:=T
 obtain⟨n,no⟩:=Y
 dsimp only at*
 have w:IntKind.i64.wrap (m+n)=m+n:=IntWalk.i64_in _ (by omega)
 have w0:IntKind.i64.wrap (0+n)=n:=by rw[IntWalk.i64_in _ (by omega)];omega
 have w1:IntKind.i64.wrap n=n:=IntWalk.i64_in _ (by omega)
 have p3:=Pi (m+n) (-1000000000) 1000000000
 have p4:=Pi n (-1000000000) 1000000000
 cases there<;>cases mo<;>cases no
 all_goals try (simp[Co,-List.getD_eq_getElem?_getD,-List.map_map,f88,p1,p2];done)
 ·have a: -1000000000≤n:=by omega
  have b:n≤1000000000:=by omega
  simp[Co,-List.getD_eq_getElem?_getD,-List.map_map,f88,p1,p2,p4,w,w0,w1,a,b]
 ·have a: -1000000000≤n:=by omega
  have b:n≤1000000000:=by omega
  simp[Co,-List.getD_eq_getElem?_getD,-List.map_map,f88,p1,p2,p4,w,w0,w1,a,b]
 ·by_cases a: -1000000000≤m+n
  ·by_cases b:m+n≤1000000000
   ·simp[Co,-List.getD_eq_getElem?_getD,-List.map_map,f88,p1,p2,p3,w,w0,w1,eq_true a,eq_true b]
   ·simp[Co,-List.getD_eq_getElem?_getD,-List.map_map,f88,p1,p2,p3,w,w0,w1,eq_true a,eq_false b]
  ·simp[Co,-List.getD_eq_getElem?_getD,-List.map_map,f88,p1,p2,p3,w,w0,w1,eq_false a]
def Bjv (b:Ba) (kind:Int) (k:Bl):Bl:=if Mg k=false then[107,101,121] else if kind≠0∧(Ca b k).kind≠0∧(Ca b k).kind≠kind then[107,105,110,100] else[]
def K4 (b:Ba) (kind:Int):List Bl→Bl
 | []=> []
 |k::r=>if Bjv b kind k=[] then K4 b kind r else Bjv b kind k
def Cr (b:Ba) (args:List Bl):Bl:=
 if(Bh (args.getD 0 [])).1=0 then[117,110,107,110,111,119,110] else
 if ¬ ((Bh (args.getD 0 [])).1≤(args.length:Int)∧(args.length:Int)≤(Bh (args.getD 0 [])).2.1) then[119,111,114,100,115] else
 K4 b (Bh (args.getD 0 [])).2.2 (Bb2 args)
theorem Bn7 (args:List Bl): (Bb2 args).length≤args.length+2:=by
 unfold Bb2
 repeat' split
 all_goals (simp only[List.length_nil,List.length_cons,List.length_drop];omega)
theorem Bgq {α:Type} (xs:List α) (i:Nat) (d:α) (h:i<xs.length):xs.drop i=xs.getD i d::xs.drop (i+1):=by
 rw[List.drop_eq_getElem_cons h]
 simp[List.getD_eq_getElem?_getD,h]
theorem B3z (H:Hp) (b:Ba) (kd:Int) (ks:List Bl) (hk:ks.length≤1000000) (hb:BaSm b):
  Gives (fun o e X=> (o= .exit 1∧K4 b kd ks=[]∧X=ap H [.row 0 2 [.d (D6 b)]])∨(o= .ret∧e.get 4= .d (.str (K4 b kd ks))∧Du X (Bc H)=H)) (Bg (Bp (ev R) R.glob (Bc H) Bg Xk) [2,7,8,9] ⟨[(2, .ptr (Bc H) 0 0 0),(7, .d (.int .i64 kd)),(8, .d (Bf ks)),(9, .d (.int .i64 0))],ap H [.row 0 2 [.d (D6 b)]]⟩):=by
 refine Dw (F:=Bp (ev R) R.glob (Bc H) Bg Xk) (lv:=[2,7,8,9]) ks.length
  (fun i e X=>X=ap H [.row 0 2 [.d (D6 b)]]∧e.get 2= .ptr (Bc H) 0 0 0∧e.get 7= .d (.int .i64 kd)∧e.get 8= .d (Bf ks)∧e.get 9= .d (.int .i64 i)∧K4 b kd ks=K4 b kd (ks.drop i))
  _ ?_ ?_ ks.length 0 _ _ (by omega) ⟨rfl,rfl,rfl,rfl,rfl,rfl⟩
 ·rintro e X ⟨rfl,g2,g7,g8,g9,hr⟩
  rw[List.drop_length] at hr
  have hr:K4 b kd ks=[]:=hr
  simp[Co,-List.getD_eq_getElem?_getD,-List.map_map,Xk,g2,g7,g8,g9,hr,Bf]
 ·rintro i e X hi ⟨rfl,g2,g7,g8,g9,hr⟩
  have c: (i:Int)< (ks.length:Int):=by omega
  have g:=Dt ks i hi
  rw[Bgq ks i [] hi] at hr
  simp only[K4] at hr
  have p1:=B57 (ks.getD i [])
  have p2:=Gw b (ks.getD i []) hb
  have w1:IntKind.i64.wrap ((i:Int)+1)=((i+1:Nat):Int):=by rw[IntWalk.i64_in _ (by omega)];rfl
  unfold Bjv at hr
  generalize ks.getD i []=k at*
  cases h1:Mg k with
  |false=>
   rw[h1] at p1 hr
   have hr:K4 b kd ks=[107,101,121]:=hr
   simp[Co,-List.getD_eq_getElem?_getD,-List.map_map,Xk,g2,g7,g8,g9,c,g,hi,p1,hr,Bf]
  |true=>
   rw[h1] at p1 hr
   generalize Ca b k=E at*
   by_cases a1:kd=0
   ·have hr:K4 b kd ks=K4 b kd (ks.drop (i+1)):=by simpa[a1] using hr
    simp[Co,-List.getD_eq_getElem?_getD,-List.map_map,Xk,g2,g7,g8,g9,c,g,hi,p1,p2,eq_true a1,w1,eq_true hr,Bf]
   ·by_cases a2:E.kind=0
    ·have hr:K4 b kd ks=K4 b kd (ks.drop (i+1)):=by simpa[a1,a2] using hr
     simp[Co,-List.getD_eq_getElem?_getD,-List.map_map,Xk,g2,g7,g8,g9,c,g,hi,p1,p2,eq_false a1,eq_true a2,w1,eq_true hr,Bf]
    ·by_cases a3:E.kind=kd
     ·have hr:K4 b kd ks=K4 b kd (ks.drop (i+1)):=by simpa[a1,a2,a3] using hr
      simp[Co,-List.getD_eq_getElem?_getD,-List.map_map,Xk,g2,g7,g8,g9,c,g,hi,p1,p2,eq_false a1,eq_false a2,eq_true a3,w1,eq_true hr,Bf]
     ·have hr:K4 b kd ks=[107,105,110,100]:=by simpa[a1,a2,a3] using hr
      simp[Co,-List.getD_eq_getElem?_getD,-List.map_map,Xk,g2,g7,g8,g9,c,g,hi,p1,p2,eq_false a1,eq_false a2,eq_false a3,w1,hr,Bf]
theorem Gn (b:Ba) (args:List Bl) (hb:BaSm b) (hx:args.length≤1000) (h1:1≤args.length):Be (ev R) 57 [.d (D6 b), .d (Bf args)]=some (.d (.str (Cr b args))):=Bb fun H=>by
 refine Bo (fn:=f57) rfl rfl ?_
 have hkl:=Bn7 args
 have p1:=Gm (args.getD 0 [])
 have p3:=B56 args (by omega)
 have g0:=Dt args 0 (by omega)
 have c0: (0:Int)< (args.length:Int):=by omega
 have c0':0<args.length:=by omega
 have lp:=B3z H b (Bh (args.getD 0 [])).2.2 (Bb2 args) (by omega) hb
 have p2:=Pi (args.length:Int) (Bh (args.getD 0 [])).1 (Bh (args.getD 0 [])).2.1
 unfold Cr
 generalize Bb2 args=ks at*
 generalize args.getD 0 []=w at*
 generalize Bh w=W at*
 obtain⟨lo,hi,kd⟩:=W
 dsimp only at*
 by_cases a0:lo=0
 ·simp[Co,-List.getD_eq_getElem?_getD,-List.map_map,f57,p1,g0,c0,c0',eq_true a0,Bf]
 by_cases a1:lo≤(args.length:Int)
 rotate_left
 ·simp[Co,-List.getD_eq_getElem?_getD,-List.map_map,f57,p1,p2,g0,c0,c0',eq_false a0,eq_false a1,Bf]
 by_cases a2: (args.length:Int)≤hi
 rotate_left
 ·simp[Co,-List.getD_eq_getElem?_getD,-List.map_map,f57,p1,p2,g0,c0,c0',eq_false a0,eq_true a1,eq_false a2,Bf]
 obtain⟨o,e',X',he,hq⟩:=lp.out
 rcases hq with⟨rfl,hq,rfl⟩ | ⟨rfl,g4,ht⟩
 ·simp[Co,-List.getD_eq_getElem?_getD,-List.map_map,f57,p1,p2,p3,g0,c0,c0',eq_false a0,eq_true a1,eq_true a2,he,hq,Bf]
 ·simp[Co,-List.getD_eq_getElem?_getD,-List.map_map,f57,p1,p2,p3,g0,c0,c0',eq_false a0,eq_true a1,eq_true a2,he,g4,ht,Bf]
structure EnQ (e:En):Prop where
 key:e.key.length≤1000000
 text:e.text.length≤1000000
 list:e.list.length≤1000
 lists: ∀x∈e.list,x.length≤1000000
 scores:e.scores.length≤1000
 scoress: ∀x∈e.scores,x.1.length≤1000000∧ -2000000000≤x.2∧x.2≤2000000000
 fields:e.fields.length≤1000
 fieldss: ∀x∈e.fields,x.1.length≤1000000∧x.2.length≤1000000
 till:0≤e.till∧e.till≤10000000
 kind:0≤e.kind∧e.kind≤10
theorem EnQ.sm {e:En} (h:EnQ e):EnSm e:=⟨by have:=h.list;omega,by have:=h.scores;omega,by have:=h.fields;omega⟩
theorem Xp {α:Type} {P:α→Prop} {xs:List α} {d:α} (h: ∀x∈xs,P x) (hd:P d) (i:Nat):P (xs.getD i d):=by
 by_cases hi:i<xs.length
 ·exact h _ (Mm hi)
 ·rw[List.getD_eq_getElem?_getD,List.getElem?_eq_none (by omega)];exact hd
theorem EnQ.fit {e:En} (h:EnQ e):EnFit e:=by
 obtain⟨h1,h2,h3,h4,h5,h6,h7,h8,h9,h10⟩:=h
 refine⟨by omega,by omega,by omega, ?_,by omega, ?_,by omega, ?_,⟨by omega,by omega⟩,⟨by omega,by omega⟩⟩
 ·intro i
  have:=Xp (P:=fun x:Bl=>x.length≤1000000) h4 (d:=[]) (by simp) i
  omega
 ·intro i
  have:=Xp (P:=fun x:Sc=>x.1.length≤1000000∧ -2000000000≤x.2∧x.2≤2000000000) h6 (d:=([],0)) (by simp) i
  omega
 ·intro i
  have:=Xp (P:=fun x:Pr=>x.1.length≤1000000∧x.2.length≤1000000) h8 (d:=([],[])) (by simp) i
  omega
structure BaG (b:Ba):Prop where
 len:b.ents.length≤12
 each: ∀e∈b.ents,Kw e=true
 now:0≤b.now∧b.now≤2000000
theorem Nr {xs:List Bl} (h:Dc xs=true): ∀x∈xs,x.length≤40:=by
 unfold Dc at h
 simp only[Bool.and_eq_true,decide_eq_true_eq,Option.isNone_iff_eq_none] at h
 obtain⟨h1,h2⟩:=h
 intro x hx
 obtain⟨i,hi,rfl⟩:=List.getElem_of_mem hx
 have:=Qy h1 i (by omega) (by omega)
 simp only[Ka,decide_eq_false_iff_not,List.getD_eq_getElem?_getD,List.getElem?_eq_getElem hi,Option.getD_some] at this
 omega
theorem Tv {p:Nat→Bool} : ∀ {n i:Nat},Jb p n i=false→∀j,i≤j→j<i+n→p j=false
 |0,i,_,j,h1,h2=>by omega
 |n+1,i,h,j,h1,h2=>by
  simp only[Jb,Bool.or_eq_false_iff] at h
  by_cases hj:j=i
  ·subst hj;exact h.1
  ·exact Tv h.2 j (by omega) (by omega)
theorem Rf {α:Type} {P:α→Prop} {xs:List α} (d:α) (h: ∀i,i<xs.length→P (xs.getD i d)): ∀x∈xs,P x:=by
 intro x hx
 obtain⟨i,hi,rfl⟩:=List.getElem_of_mem hx
 have:=h i hi
 rwa[List.getD_eq_getElem?_getD,List.getElem?_eq_getElem hi,Option.getD_some] at this
theorem Bcx {xs:List Sc} (h:Fe xs=true):xs.length≤16∧∀x∈xs,x.1.length≤40∧ -1000000000≤x.2∧x.2≤1000000000:=by
 unfold Fe at h
 simp only[Bool.and_eq_true,decide_eq_true_eq,Bool.not_eq_true'] at h
 refine⟨h.2,Rf ([],0) fun i hi=> ?_⟩
 have:=Tv h.1 i (by omega) (by omega)
 unfold Xc at this
 simp only[Bool.or_eq_false_iff,decide_eq_false_iff_not,Bool.not_eq_false',Bool.and_eq_true,decide_eq_true_eq] at this
 obtain⟨⟨⟨a,b⟩,_⟩,_⟩:=this
 omega
theorem Bbt {xs:List Pr} (h:Fp xs=true):xs.length≤16∧∀x∈xs,x.1.length≤40∧x.2.length≤40:=by
 unfold Fp at h
 simp only[Bool.and_eq_true,decide_eq_true_eq,Bool.not_eq_true'] at h
 refine⟨h.2,Rf ([],[]) fun i hi=> ?_⟩
 have:=Tv h.1 i (by omega) (by omega)
 unfold Xb at this
 simp only[Bool.or_eq_false_iff,decide_eq_false_iff_not] at this
 obtain⟨⟨a,b⟩,_⟩:=this
 omega
theorem Bvt {xs:List Bl} (h:Gx xs=true):Dc xs=true:=by
 unfold Gx at h
 simp only[Bool.and_eq_true] at h
 exact h.2
structure EnOkS (e:En):Prop where
 key:1≤e.key.length∧e.key.length≤12
 text:e.text.length≤40
 list:Dc e.list=true
 scores:Fe e.scores=true
 fields:Fp e.fields=true
 till:0≤e.till∧e.till≤2000000
 kind:1≤e.kind∧e.kind≤5
 set:e.kind=3→Gx e.list=true
 t1:e.kind≠1→e.text=[]
 t2:e.kind≠2→e.kind≠3→e.list=[]
 t4:e.kind≠4→e.scores=[]
 t5:e.kind≠5→e.fields=[]
 n2:e.kind=2∨e.kind=3→e.list≠[]
 n4:e.kind=4→e.scores≠[]
 n5:e.kind=5→e.fields≠[]
theorem Sy:Dc []=true:=by decide
theorem P8:Fe []=true:=by decide
theorem Py:Fp []=true:=by decide
theorem Bfd {e:En} (h:Kw e=true):EnOkS e:=by
 unfold Kw at h
 simp only[Bool.and_eq_true] at h
 obtain⟨⟨hk,ht⟩,hd⟩:=h
 unfold Mg at hk
 unfold Km at ht
 simp only[Bool.and_eq_true,decide_eq_true_eq] at hk ht
 have hk1:1≤e.key.length∧e.key.length≤12:=by omega
 obtain⟨key,till,kind,text,list,scores,fields⟩:=e
 dsimp only at*
 unfold Xx at hd
 dsimp only at hd
 split at hd
 ·rename_i k
  simp only[Bool.and_eq_true,decide_eq_true_eq,List.isEmpty_iff] at hd
  obtain⟨⟨⟨a,rfl⟩,rfl⟩,rfl⟩:=hd
  subst k
  exact⟨hk1,a,Sy,P8,Py,ht,by simp,by simp,by simp,by simp,by simp,by simp,by simp,by simp,by simp⟩
 split at hd
 ·rename_i k
  simp only[Bool.and_eq_true,Bool.not_eq_true',List.isEmpty_iff,List.isEmpty_eq_false_iff] at hd
  obtain⟨⟨⟨⟨rfl,a⟩,b⟩,rfl⟩,rfl⟩:=hd
  subst k
  exact⟨hk1,by simp,b,P8,Py,ht,by simp,by simp,by simp,by simp,by simp,by simp,fun _=>a,by simp,by simp⟩
 split at hd
 ·rename_i k
  simp only[Bool.and_eq_true,Bool.not_eq_true',List.isEmpty_iff,List.isEmpty_eq_false_iff] at hd
  obtain⟨⟨⟨⟨rfl,a⟩,b⟩,rfl⟩,rfl⟩:=hd
  subst k
  exact⟨hk1,by simp,Bvt b,P8,Py,ht,by simp,fun _=>b,by simp,by simp,by simp,by simp,fun _=>a,by simp,by simp⟩
 split at hd
 ·rename_i k
  simp only[Bool.and_eq_true,Bool.not_eq_true',List.isEmpty_iff,List.isEmpty_eq_false_iff] at hd
  obtain⟨⟨⟨⟨rfl,rfl⟩,a⟩,b⟩,rfl⟩:=hd
  subst k
  exact⟨hk1,by simp,Sy,b,Py,ht,by simp,by simp,by simp,by simp,by simp,by simp,by simp,fun _=>a,by simp⟩
 split at hd
 ·rename_i k
  simp only[Bool.and_eq_true,Bool.not_eq_true',List.isEmpty_iff,List.isEmpty_eq_false_iff] at hd
  obtain⟨⟨⟨⟨rfl,rfl⟩,rfl⟩,a⟩,b⟩:=hd
  subst k
  exact⟨hk1,by simp,Sy,P8,b,ht,by simp,by simp,by simp,by simp,by simp,by simp,by simp,by simp,fun _=>a⟩
 ·simp at hd
theorem Bfn {xs:List Bl} (h:Dc xs=true):xs.length≤16:=Bkl h
theorem EnOkS.q {e:En} (h:EnOkS e):EnQ e:=by
 obtain⟨h1,h2,h3,h4,h5,h6,h7,_,_,_,_,_,_,_,_⟩:=h
 have a:=Nr h3
 have b:=Bfn h3
 have c:=Bcx h4
 have d:=Bbt h5
 refine⟨by omega,by omega,by omega,fun x hx=> ?_,by omega,fun x hx=> ?_,by omega,fun x hx=> ?_,by omega,by omega⟩
 ·have:=a x hx;omega
 ·have:=c.2 x hx;omega
 ·have:=d.2 x hx;omega
theorem Bbi {e:En} (h:Kw e=true):EnQ e:=(Bfd h).q
theorem BaG.sm {b:Ba} (h:BaG b):BaSm b:=⟨by have:=h.len;omega,fun e he=> (Bbi (h.each e he)).sm⟩
theorem BaG.fit {b:Ba} (h:BaG b):BaFit b:=⟨by have:=h.now;exact⟨by omega,by omega⟩,by have:=h.len;omega,fun e he=> (Bbi (h.each e he)).fit⟩
theorem Bm3 {b:Ba} (h:BaG b) (t:Bl):Kw (Ca b t)=true∨Ca b t=⟨t,0,0,[],[],[],[]⟩:=by
 unfold Ca
 split
 ·rename_i hh
  exact .inl (h.each _ (Mm (Xw hh)))
 ·exact .inr rfl
theorem Dx {b:Ba} (h:BaG b) {t:Bl} (ht:t.length≤1000000):EnQ (Ca b t):=by
 rcases Bm3 h t with a|a
 ·exact Bbi a
 ·rw[a]
  exact⟨ht,by simp,by simp,by simp,by simp,by simp,by simp,by simp,by simp,by simp⟩
theorem Ta {b:Ba} (h:BaG b) (t:Bl):BaG (Jl b t):=⟨Nat.le_trans (X7 b t) h.len,fun e he=>h.each e (Bia he),by rw[Bib];exact h.now⟩
theorem Bd9 {α:Type} {xs:List α} {k:Nat} {x y:α} (h:y∈J2 xs k x):y=x∨y∈xs:=by
 unfold J2 at h
 rw[List.mem_append,List.mem_cons] at h
 rcases h with h|h|h
 ·exact .inr (List.mem_of_mem_take h)
 ·exact .inl h
 ·exact .inr (List.mem_of_mem_drop h)
theorem Bm4 {b:Ba} (h:BaG b) (e:En):BaG (Rx b e).1:=by
 unfold Rx
 split
 ·exact Ta h e.key
 ·split
  ·rename_i h1
   unfold Bfm at h1
   simp only[Bool.and_eq_true,decide_eq_true_eq] at h1
   obtain⟨⟨h1,_⟩,h2⟩:=h1
   refine⟨?_,fun x hx=> ?_,h.now⟩
   ·rw[Ke];omega
   ·rcases Bd9 hx with rfl|hx
    ·exact h1
    ·exact(Ta h e.key).each x hx
  ·exact h
theorem Gs {b:Ba} (h:BaG b) (e:En) (r:Re):BaG (Ff b e r).1:=by
 unfold Ff
 split
 ·exact Bm4 h e
 ·exact h
def Cv (n:Int):Re:= .mk 2 n [] [] []
def K5 (s:Bl):Re:= .mk 3 0 s [] []
def Ni:Re:= .mk 4 0 [] [] []
def G9 (xs:List Bl):Re:= .mk 5 0 [] xs []
def Rz:Re:= .mk 0 0 [] [] []
def Bj (p:Ba×Re):V:= .tup [.d (D6 p.1), .d (reD p.2)]
def Df (e:En) (s:Bl):En:=⟨e.key,e.till,1,s,e.list,e.scores,e.fields⟩
def Bsh (b:Ba) (k:Bl):Ba×Re:=(b,if(Ca b k).kind=1 then K5 (Ca b k).text else Ni)
def Ya (b:Ba) (k:Bl):Ba×Re:=(b,Cv (Ca b k).text.length)
def Bo3 (b:Ba) (k t:Bl):Ba×Re:=Ff b ⟨k,0,1,t,[],[],[]⟩ Rz
def Ug (b:Ba) (k t:Bl):Ba×Re:=if 40< ((Ca b k).text++t).length then(b,Dq [108,111,110,103]) else Ff b (Df (Ca b k) ((Ca b k).text++t)) (Cv ((Ca b k).text++t).length)
def Bvx (s:Bl) (f t:Int):Bl:=(s.take (Jz s.length f t).2.toNat).drop (Jz s.length f t).1.toNat
def Nz (b:Ba) (k f t:Bl):Ba×Re:=if(Dv f).2=true∧(Dv t).2=true then(b,K5 (Bvx (Ca b k).text (Dv f).1 (Dv t).1)) else(b,Dq [110,117,109,98,101,114])
def Bck (b:Ba) (k y:Bl):Ba×Re:=if(Ym (Ca b k).text (decide ((Ca b k).kind=1)) y).2=true then Ff b (Df (Ca b k) (Qo (Ym (Ca b k).text (decide ((Ca b k).kind=1)) y).1)) (Cv (Ym (Ca b k).text (decide ((Ca b k).kind=1)) y).1) else(b,Dq [110,117,109,98,101,114])
theorem Br4 (b:Ba) (k:Bl) (hb:BaG b) (hk:k.length≤40):Be (ev R) 60 [.d (D6 b), .d (Bf [[71,69,84],k])]=some (Bj (Bsh b k)):=Bb fun H=>by
 refine Bo (fn:=f60) rfl rfl ?_
 have p1:=Gw b k hb.sm
 unfold Bsh
 generalize Ca b k=e at*
 have p2:=Kj
 have p3:=Bow e.text
 by_cases a:e.kind=1
 ·simp(maxSteps:=1000000) [Cq,-List.getD_eq_getElem?_getD,-List.map_map,f60,p1,p2,p3,eq_true a,Bj,K5,Ni]
 ·simp(maxSteps:=1000000) [Cq,-List.getD_eq_getElem?_getD,-List.map_map,f60,p1,p2,p3,eq_false a,Bj,K5,Ni]
theorem Bhy (b:Ba) (k:Bl) (hb:BaG b) (hk:k.length≤40):Be (ev R) 60 [.d (D6 b), .d (Bf [[83,84,82,76,69,78],k])]=some (Bj (Ya b k)):=Bb fun H=>by
 refine Bo (fn:=f60) rfl rfl ?_
 have p1:=Gw b k hb.sm
 unfold Ya
 generalize Ca b k=e at*
 have p2:=Lr e.text.length
 simp(maxSteps:=1000000) [Cq,-List.getD_eq_getElem?_getD,-List.map_map,f60,p1,p2,Bj,Cv]
theorem Br5 (b:Ba) (k t:Bl) (hb:BaG b) (hk:k.length≤40) (ht:t.length≤40):Be (ev R) 60 [.d (D6 b), .d (Bf [[83,69,84],k,t])]=some (Bj (Bo3 b k t)):=Bb fun H=>by
 refine Bo (fn:=f60) rfl rfl ?_
 have p1:=Gw b k hb.sm
 unfold Bo3
 have q:EnQ ⟨k,0,1,t,[],[],[]⟩:=⟨by simp;omega,by simp;omega,by simp,by simp,by simp,by simp,by simp,by simp,by simp,by simp⟩
 have p2:=Pj b ⟨k,0,1,t,[],[],[]⟩ Rz hb.sm q.sm q.fit
 generalize Ff b ⟨k,0,1,t,[],[],[]⟩ Rz=P at*
 unfold Rz at p2
 simp(maxSteps:=1000000) [Cq,-List.getD_eq_getElem?_getD,-List.map_map,f60,p1,p2,Bj]
theorem Bhw (b:Ba) (k t:Bl) (hb:BaG b) (hk:k.length≤40) (ht:t.length≤40):Be (ev R) 60 [.d (D6 b), .d (Bf [[65,80,80,69,78,68],k,t])]=some (Bj (Ug b k t)):=Bb fun H=>by
 refine Bo (fn:=f60) rfl rfl ?_
 have p1:=Gw b k hb.sm
 have q:=Dx hb (t:=k) (by omega)
 unfold Ug
 have p4:=Cc [108,111,110,103]
 generalize Ca b k=e at*
 obtain⟨key,till,kind,text,list,scores,fields⟩:=e
 obtain⟨q1,q2,q3,q4,q5,q6,q7,q8,q9,q10⟩:=q
 dsimp only[Df] at*
 have r:text.length+t.length≤Bu:=by unfold Bu;omega
 by_cases a:40< (text++t).length
 ·have a': (40:Int)< (text.length:Int)+(t.length:Int):=by rw[List.length_append] at a;omega
  rw[if_pos a]
  simp(maxSteps:=1000000) [Cq,-List.getD_eq_getElem?_getD,-List.map_map,f60,p1,p4,a',r,Bj,Dq]
 ·have a': ¬ (40:Int)< (text.length:Int)+(t.length:Int):=by rw[List.length_append] at a;omega
  rw[if_neg a]
  have q:EnQ ⟨key,till,1,text++t,list,scores,fields⟩:=⟨q1,by dsimp only;omega,q3,q4,q5,q6,q7,q8,q9,by dsimp only;omega⟩
  have p2:=Lr ((text.length:Int)+(t.length:Int))
  have p3:=Pj b _ (Cv (text++t).length) hb.sm q.sm q.fit
  generalize Ff b ⟨key,till,1,text++t,list,scores,fields⟩ (Cv (text++t).length)=P at*
  have hc: (((text++t).length:Nat):Int)=(text.length:Int)+(t.length:Int):=by rw[List.length_append];omega
  rw[hc] at p3
  unfold Cv at p3
  simp(maxSteps:=1000000) [Cq,-List.getD_eq_getElem?_getD,-List.map_map,f60,p1,p2,p3,a',r,Bj]
theorem Bda (b:Ba) (k f t:Bl) (hb:BaG b) (hk:k.length≤40) (hf:f.length≤40) (ht:t.length≤40):Be (ev R) 60 [.d (D6 b), .d (Bf [[71,69,84,82,65,78,71,69],k,f,t])]=some (Bj (Nz b k f t)):=Bb fun H=>by
 refine Bo (fn:=f60) rfl rfl ?_
 have p1:=Gw b k hb.sm
 have q:=Dx hb (t:=k) (by omega)
 unfold Nz
 have p2:=R3 f (by omega)
 have p3:=R3 t (by omega)
 have i2:=G8 f
 have i3:=G8 t
 have p4:=Cc [110,117,109,98,101,114]
 generalize Ca b k=e at*
 generalize Dv f=F at*
 generalize Dv t=T at*
 obtain⟨m,mo⟩:=F
 obtain⟨n,no⟩:=T
 dsimp only at*
 have p5:=By4 e.text.length m n (by have:=q.text;omega) i2 i3
 obtain⟨b1,b2,b3⟩:=Bbj e.text.length m n
 have hr:Bvx e.text m n=((e.text.take (Jz e.text.length m n).2.toNat).drop (Jz e.text.length m n).1.toNat):=rfl
 have p6:=Bow (Bvx e.text m n)
 generalize(Jz e.text.length m n).1=x at*
 generalize(Jz e.text.length m n).2=y at*
 obtain⟨A,rfl⟩: ∃A:Nat,x=(A:Int):=⟨x.toNat,by omega⟩
 obtain⟨B,rfl⟩: ∃B:Nat,y=(B:Int):=⟨y.toNat,by omega⟩
 simp only[Int.toNat_natCast] at hr
 have hr:=hr.symm
 generalize Bvx e.text m n=S at*
 have b4: (0:Int)≤(B:Int):=by omega
 have b5:A≤B:=by omega
 have b6:B≤e.text.length:=by omega
 cases mo<;>cases no
 ·simp(maxSteps:=1000000) [Cq,-List.getD_eq_getElem?_getD,-List.map_map,f60,p1,p2,p3,p4,Bj,Dq]
 ·simp(maxSteps:=1000000) [Cq,-List.getD_eq_getElem?_getD,-List.map_map,f60,p1,p2,p3,p4,Bj,Dq]
 ·simp(maxSteps:=1000000) [Cq,-List.getD_eq_getElem?_getD,-List.map_map,f60,p1,p2,p3,p4,Bj,Dq]
 ·simp(maxSteps:=1000000) [Cq,-List.getD_eq_getElem?_getD,-List.map_map,f60,p1,p2,p3,p5,p6,b1,b2,b3,b4,b5,b6,hr,Bj,K5]
theorem Sg: ∀ (k n:Nat),n<10 ^ (k+1)→(C9 n).length≤k+1
 |0,n,h=>by
  rw[C9];split
  ·simp
  ·omega
 |k+1,n,h=>by
  rw[C9];split
  ·simp
  ·have:=Sg k (n / 10) (by rw[Nat.pow_succ] at h;omega)
   rw[List.length_append];simp;omega
theorem Bbh (z:Int) (h: -1000000000≤z∧z≤1000000000): (Qo z).length≤1000000:=by
 unfold Qo
 split
 ·have:=Sg 9 z.natAbs (by omega)
  rw[List.length_cons];omega
 ·have:=Sg 9 z.toNat (by omega)
  omega
theorem Bvh (z:Int) (h: -1000000000≤z∧z≤1000000000):Be (ev R) 29 [.d (.int .i64 z)]=some (.d (.str (Qo z))):=Bb fun H=>B04 H z h
theorem Be3 (t:Bl) (th:Bool) (y:Bl): -1000000000≤(Ym t th y).1∧(Ym t th y).1≤1000000000:=by
 unfold Ym
 split
 ·dsimp only;omega
 ·by_cases h: (Dv y).2=true∧ -1000000000≤(if th=true then(Dv t).1 else 0)+(Dv y).1∧(if th=true then(Dv t).1 else 0)+(Dv y).1≤1000000000
  ·rw[if_pos h];exact⟨h.2.1,h.2.2⟩
  ·rw[if_neg h];dsimp only;omega
theorem Bof (b:Ba) (k:Bl) (hb:BaG b) (hk:k.length≤40):Be (ev R) 60 [.d (D6 b), .d (Bf [[73,78,67,82],k])]=some (Bj (Bck b k [49])):=Bb fun H=>by
 refine Bo (fn:=f60) rfl rfl ?_
 have p1:=Gw b k hb.sm
 have q:=Dx hb (t:=k) (by omega)
 unfold Bck
 have p4:=Cc [110,117,109,98,101,114]
 generalize Ca b k=e at*
 obtain⟨key,till,kind,text,list,scores,fields⟩:=e
 obtain⟨q1,q2,q3,q4,q5,q6,q7,q8,q9,q10⟩:=q
 dsimp only[Df] at*
 have p5:=By5 text (decide (kind=1)) [49] q2 (by decide)
 have ai:=Be3 text (decide (kind=1)) [49]
 generalize Ym text (decide (kind=1)) [49]=A at*
 obtain⟨a,ao⟩:=A
 dsimp only at*
 have p6:=Bvh a ai
 have dl:=Bbh a ai
 have q:EnQ ⟨key,till,1,Qo a,list,scores,fields⟩:=⟨q1,dl,q3,q4,q5,q6,q7,q8,q9,by dsimp only;omega⟩
 have p2:=Lr a
 have p3:=Pj b _ (Cv a) hb.sm q.sm q.fit
 generalize Ff b ⟨key,till,1,Qo a,list,scores,fields⟩ (Cv a)=P at*
 unfold Cv at p3
 cases ao
 ·simp(maxSteps:=1000000) [Cq,-List.getD_eq_getElem?_getD,-List.map_map,f60,p1,p5,p4,Bj,Dq]
 ·simp(maxSteps:=1000000) [Cq,-List.getD_eq_getElem?_getD,-List.map_map,f60,p1,p5,p6,p2,p3,Bj]
theorem Bhx (b:Ba) (k y:Bl) (hb:BaG b) (hk:k.length≤40) (hy:y.length≤40):Be (ev R) 60 [.d (D6 b), .d (Bf [[73,78,67,82,66,89],k,y])]=some (Bj (Bck b k y)):=Bb fun H=>by
 refine Bo (fn:=f60) rfl rfl ?_
 have p1:=Gw b k hb.sm
 have q:=Dx hb (t:=k) (by omega)
 unfold Bck
 have p4:=Cc [110,117,109,98,101,114]
 generalize Ca b k=e at*
 obtain⟨key,till,kind,text,list,scores,fields⟩:=e
 obtain⟨q1,q2,q3,q4,q5,q6,q7,q8,q9,q10⟩:=q
 dsimp only[Df] at*
 have p5:=By5 text (decide (kind=1)) y q2 (by omega)
 have ai:=Be3 text (decide (kind=1)) y
 generalize Ym text (decide (kind=1)) y=A at*
 obtain⟨a,ao⟩:=A
 dsimp only at*
 have p6:=Bvh a ai
 have dl:=Bbh a ai
 have q:EnQ ⟨key,till,1,Qo a,list,scores,fields⟩:=⟨q1,dl,q3,q4,q5,q6,q7,q8,q9,by dsimp only;omega⟩
 have p2:=Lr a
 have p3:=Pj b _ (Cv a) hb.sm q.sm q.fit
 generalize Ff b ⟨key,till,1,Qo a,list,scores,fields⟩ (Cv a)=P at*
 unfold Cv at p3
 cases ao
 ·simp(maxSteps:=1000000) [Cq,-List.getD_eq_getElem?_getD,-List.map_map,f60,p1,p5,p4,Bj,Dq]
 ·simp(maxSteps:=1000000) [Cq,-List.getD_eq_getElem?_getD,-List.map_map,f60,p1,p5,p6,p2,p3,Bj]
end Go.Proofs.YtedlandcnpjghaaGreatDoor.Code
